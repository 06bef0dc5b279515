/-
  Own work: a part of the proof that the last text closes.
-/
import Derived.Test.YtncphnpndkjkaaaGreatDoorHs
import Derived.Test.YtncphnpndkjkaaaGreatDoorFj
namespace Go.Proofs.YtncphnpndkjkaaaGreatDoor
open Go.E
set_option linter.all false
set_option maxRecDepth 100000
set_option maxHeartbeats 16000000
section
abbrev badP:List Nat:=[137,141,112,116,38]
abbrev xP (d h w r g k:EV):EO:=.cells [d,h,w,r,g,k] 38 0 true 0
variable (B:List (Nat × EO)) {t:Nat}
theorem pbegin_c (G:List Gl) [hB:Bg t B] {d a n lg pl hp lv r la rlg rpl rhp rlv X k:Nat} {lns xs:List Nat} (hd:DevG B t d a n lns) (hl:xTG B t d lg 128 32768) (hn:136≤64*n) (hpo:zFW B t d lg pl (.ptr none)) (hhe:yJJ B t pl hp 32896 k lv (.ptr none)) (hlv:lv<t)
  (hr:RefG B t r la n xs) (hrl:yXD B t r rlg 128 32768) (hrp:zBS B t r rlg rpl (.ptr none)) (hrh:zFQ B t rpl rhp 32896 k rlv (.ptr none)) (hk:k≤100000) (hrlv:rlv<t) (hx:AtG B t X (xP (pE d) (pE hp) (.ptr none) (pE r) (pE rhp) (.ptr none))) :
  EffR G Tryz.prog 25 [.ptr (some ⟨X,0⟩)] B t (fun v bl nx=>v=.bool true∧Bg nx bl∧Keep badP B t bl nx∧∃ wk',zFW bl nx d lg pl (.ptr (some ⟨t+1,0⟩))∧yJJ bl nx pl hp 32896 k lv (.ptr (some ⟨t+4,0⟩))∧AtG bl nx t (.map [])∧AtG bl nx (t+1) (.cells [.ptr (some ⟨pl,0⟩),.map (some t),.bool false] 221 0 true 0) ∧
   AtG bl nx (t+2) (.map [])∧AtG bl nx (t+3) (.map [])∧AtG bl nx (t+4) (.cells [.ptr (some ⟨hp,0⟩),.ptr (some ⟨t+1,0⟩),.map (some (t+2)),.map (some (t+3)),.int .i64 0,.bool false] 179 0 true 0)∧AtG bl nx X (xP (pE d) (pE hp) (pE (t+4)) (pE r) (pE rhp) (pE wk'))):=by
 have hX:=AtG.f hx;have hXt:=hx.lt;have hht:=AtG.lt hhe;have hrht:=AtG.lt hrh;have ne1:hp ≠ pl:=fun e=>by have h3:=hhe.lk;rw[e,hpo.lk] at h3;simp at h3
 have ne2:rhp ≠ rpl:=fun e=>by have h3:=hrh.lk;rw[e,hrp.lk] at h3;simp at h3
 have hb1:=hbegin_c B G hd hl (by omega) (by omega) hpo hhe hlv ne1;refine EffR.enter fun Q hQ=>?_
 refine zQV 45 [.tmp 2] Tryz.func25 ?_
 repeat' (first|refine zQQ 125 ?_|(refine stp ?_;simp only[go_sem,hX])|(refine EffR.at hb1 ?_)|(simp only[go_sem])|fail)
 rintro v B1 nx ⟨_,rfl,rfl,hB1,hnx,hsame,hpo1,hhe1,hpu1,htx1,htk1,hgv1,hwk1⟩
 have hK1:Keep badP B t B1 nx:=Keep.of2 hpo hhe (by omega) hsame (by simp[tyE]) (by simp[tyE]);haveI:=hB1;have hx1:AtG B1 nx X (xP (pE d) (pE hp) (.ptr none) (pE r) (pE rhp) (.ptr none)):=by
  have e1:X ≠ pl:=fun e=>by have h3:=hx.lk;rw[e,hpo.lk] at h3;simp at h3
  have e2:X ≠ hp:=fun e=>by have h3:=hx.lk;rw[e,hhe.lk] at h3;simp at h3
  exact ⟨by omega,by rw[hsame X hXt e1 e2];exact hx.lk⟩
 have hX1:=AtG.f hx1;have hr1:=hr.keep hK1 (by decide);have hrl1:yXD B1 nx r rlg 128 32768:=hK1.keep hrl (by simp[tyE]);have hrp1:zBS B1 nx r rlg rpl (.ptr none):=⟨by have:=AtG.lt hrp;omega,by
  have e1:rpl ≠ pl:=fun e=>by have h3:=hrp.lk;rw[e,hpo.lk] at h3;simp at h3
  have e2:rpl ≠ hp:=fun e=>by have h3:=hrp.lk;rw[e,hhe.lk] at h3;simp at h3
  rw[hsame rpl (AtG.lt hrp) e1 e2];exact hrp.lk⟩
 have hrh1:zFQ B1 nx rpl rhp 32896 k rlv (.ptr none):=⟨by omega,by
  have e1:rhp ≠ pl:=fun e=>by have h3:=hrh.lk;rw[e,hpo.lk] at h3;simp at h3
  have e2:rhp ≠ hp:=fun e=>by have h3:=hrh.lk;rw[e,hhe.lk] at h3;simp at h3
  rw[hsame rhp hrht e1 e2];exact hrh.lk⟩
 have hb2:=rhbegin_c (t:=nx) B1 G hr1 hrl1 (by omega) (by omega) hrp1 hrh1 hk (by omega) ne2
 repeat' (first|refine zQQ 125 ?_|(refine stp ?_;simp only[go_sem,hX1])|(refine EffR.at hb2 ?_)|(simp only[go_sem])|fail)
 rintro v B2 nx2 ⟨⟨wk',rfl,hwk2⟩,hB2,hnx2,hsame2⟩
 haveI:=hB2;have hx2:AtG B2 nx2 X (xP (pE d) (pE hp) (.ptr none) (pE r) (pE rhp) (.ptr none)):=by
  have e1:X ≠ rpl:=fun e=>by have h3:=hx.lk;rw[e,hrp.lk] at h3;simp at h3
  have e2:X ≠ rhp:=fun e=>by have h3:=hx.lk;rw[e,hrh.lk] at h3;simp at h3
  exact ⟨by omega,by rw[hsame2 X (by omega) e1 e2];exact hx1.lk⟩
 have hX2:=AtG.f hx2;have hK2:Keep badP B1 nx B2 nx2:=Keep.of2 hrp1 hrh1 (by omega) hsame2 (by simp[tyE]) (by simp[tyE])
 repeat' (first|refine zQQ 125 ?_|(refine stp ?_;simp only[go_sem,hX2,zWF,Option.map_some])|fail)
 rw[yWX];obtain ⟨b1,b2,b3⟩:=Bg.turn (B:=B2) (t:=nx2) (t':=nx2) (r:=X) (o:=xP (pE d) (pE hp) (pE (t+4)) (pE r) (pE rhp) (pE wk')) (X:=[]) (Nat.le_refl _) trivial trivial trivial (by
  have q1:=hd.dev.lt;have q2:=hr.dev.lt;simp[EO.bel,zQX,EV.bel];omega)
 simp only[List.nil_append] at b1 b2 b3
 have hK3:Keep badP B2 nx2 _ nx2:=Keep.of1 hx2 (Nat.le_refl _) b2 (by simp[tyE]);have L2:Keep [112,116,38] B1 nx B2 nx2:=Keep.of2 hrp1 hrh1 (by omega) hsame2 (by simp[tyE]) (by simp[tyE]);have L3:Keep [112,116,38] B2 nx2 _ nx2:=Keep.of1 hx2 (Nat.le_refl _) b2 (by simp[tyE]);have L:=L2.trans L3;refine zWX hQ (by omega) b1.below (by simp[EV.bel]) ⟨rfl,b1,hK1.trans (hK2.trans hK3),wk',L.keep hpo1 (by simp[tyE]),L.keep hhe1 (by simp[tyE]),L.keep hpu1 (by simp[tyE]),L.keep htx1 (by simp[tyE]),L.keep htk1 (by simp[tyE]),L.keep hgv1 (by simp[tyE]),L.keep hwk1 (by simp[tyE]),⟨by omega,b3 _ (by omega) hx2.lk⟩⟩
end
section
structure WorkH (B:List (Nat × EO)) (t d a n:Nat) (lns:List Nat) (lg pl hp nb lv pu:Nat):Prop where
 dev:DevG B t d a n lns
 log:xTG B t d lg 128 32768
 pool:zFW B t d lg pl (.ptr (some ⟨pu+1,0⟩))
 heap:yJJ B t pl hp 32896 nb lv (.ptr (some ⟨pu+4,0⟩))
 live:AtG B t lv (.map [])
 put:AtG B t pu (.map [])
 txn:AtG B t (pu+1) (.cells [.ptr (some ⟨pl,0⟩),.map (some pu),.bool false] 221 0 true 0)
 tk:AtG B t (pu+2) (.map [])
 gv:AtG B t (pu+3) (.map [])
 wk:AtG B t (pu+4) (.cells [.ptr (some ⟨hp,0⟩),.ptr (some ⟨pu+1,0⟩),.map (some (pu+2)),.map (some (pu+3)),.int .i64 0,.bool false] 179 0 true 0)
 ord:(∀ b∈lns,b<a)∧a<d∧d<lg∧lg<pl∧pl<hp∧hp<lv∧lv<pu
 nd:lns.Nodup
variable (B:List (Nat × EO)) {t:Nat}
theorem xPV (G:List Gl) [hB:Bg t B] (nb:Nat) (h1:1≤nb) (h2:nb≤60):EffR G Tryz.prog 4 [.int .i64 nb,.slice none 0 0,.int .i64 0] B t (fun v bl nx=>∃ X wk' d a lns lg pl hp lv pu r rhp,v=.tuple [pE X,.bool true]∧Bg nx bl∧Keep badP B t bl nx∧WorkH bl nx d a (514+4*nb) lns lg pl hp nb lv pu∧t≤a∧(∀ b∈lns,t≤b)∧AtG bl nx X (xP (pE d) (pE hp) (pE (pu+4)) (pE r) (pE rhp) (pE wk'))∧t≤X∧∀ b∈lns,b ≠ X):=by
 have e3:(32896:Int)+256*(nb:Int)=((32896+256*nb:Nat):Int):=by omega
 obtain ⟨n,hn⟩:∃ n,n=514+4*nb:=⟨_,rfl⟩;have e4:32896+256*nb=64*n:=by omega
 rw[e4] at e3
 have hc1:((32896:Int)<((64*n:Nat):Int))=True:=eq_true (by omega);have hc2:((0:Int)<(nb:Int))=True:=eq_true (by omega);refine EffR.enter fun Q hQ=>?_
 refine zQV 135 [.tmp 6,.tmp 7] Tryz.func4 ?_
 repeat' (first|refine zQQ 42537902233979539687123872220034981831 ?_|refine zQW ?_|(refine stp ?_;simp only[go_sem,hc1,hc2])|((refine zZW ?_;unfold zZD);simp only[go_sem])|(simp only[go_sem,e3,Int.toNat_natCast])|(refine zZM 42537902233979539687123872220034981831 1 ?_;simp only[go_sem])|(simp (disch:=omega) only[zQK])|(refine zQT ?_ ?_;focus omega))
 have hxx:=Bg.above (B:=B) (t:=t) (t':=t+1) (X:=[(t,EO.cells (zQZ (zU (64*n))) 5 0 true 0)]) (by omega) (by simp[zXT]) (by simp[zWN,lkp]) (by simp;try omega);simp only[List.cons_append,List.nil_append] at hxx
 have K0:Keep [] B t ((t,EO.cells (zQZ (zU (64*n))) 5 0 true 0)::B) (t+1):=Keep.of hxx.2;have i0:AtG ((t,EO.cells (zQZ (zU (64*n))) 5 0 true 0)::B) (t+1) t (EO.cells (zQZ (zU (64*n))) 5 0 true 0):=⟨by omega,by simp[lkp]⟩;generalize (t,EO.cells (zQZ (zU (64*n))) 5 0 true 0)::B=B0 at hxx K0 i0 ⊢
 obtain ⟨T0,hT0⟩:∃ T,T=t+1:=⟨_,rfl⟩;rw[← hT0] at hxx K0 i0 ⊢
 haveI hB0:=hxx.1;refine EffR.at (rfrom_c (t:=T0) B0 G n t (64*n) 0 0 true (by omega) (by omega) i0 (Nat.le_refl _) (.inl rfl)) ?_
 rintro v B1 nx1 ⟨_,r,la,xs,rfl,rfl,hB1,he1,hr1⟩
 haveI:=hB1;have g1:=he1.le;have i1:=i0.mono he1;have r1:=hr1.dev.lt;have hro:=rlopen_c B1 G hr1 128 32768 (by omega) (by omega) (by omega) (by omega) (by omega);rw[show ((128:Nat):Int)=128 from rfl,show ((32768:Nat):Int)=32768 from rfl] at hro
 repeat' (first|refine zQQ 42537902233979539687123872220034981831 ?_|(refine stp ?_;simp only[go_sem])|(refine EffW.at (hro ) [] rfl (by simp[r1,zQR r1];omega) ?_;(try simp only[go_sem,zQR r1]))|(simp only[go_sem])|fail)
 have hxx:=Bg.above (B:=B1) (t:=nx1) (t':=nx1+1) (X:=[(nx1,EO.cells [.ptr (some ⟨r,0⟩),.int .i64 128,.int .i64 32768] 109 0 true 0)]) (by omega) (by simp[zXT]) (by simp[zWN,lkp]) (by simp;try omega);simp only[List.cons_append,List.nil_append] at hxx
 have K2:Keep [] B1 nx1 ((nx1,EO.cells [.ptr (some ⟨r,0⟩),.int .i64 128,.int .i64 32768] 109 0 true 0)::B1) (nx1+1):=Keep.of hxx.2;have q2:AtG ((nx1,EO.cells [.ptr (some ⟨r,0⟩),.int .i64 128,.int .i64 32768] 109 0 true 0)::B1) (nx1+1) nx1 (EO.cells [.ptr (some ⟨r,0⟩),.int .i64 128,.int .i64 32768] 109 0 true 0):=⟨by omega,by simp[lkp]⟩;generalize (nx1,EO.cells [.ptr (some ⟨r,0⟩),.int .i64 128,.int .i64 32768] 109 0 true 0)::B1=B2 at hxx K2 q2 ⊢
 obtain ⟨T2,hT2⟩:∃ T,T=nx1+1:=⟨_,rfl⟩;rw[← hT2] at hxx K2 q2 ⊢
 haveI hB2:=hxx.1;have hr2:=hr1.keep K2 (by decide);have i2:=K2.keep i1 (by simp);have rl2:yXD B2 T2 r nx1 128 32768:=q2;have r2:r<T2:=by omega
 have n2:nx1<T2:=by omega
 have hrp:=rpnew_c (t:=T2) B2 G r2 n2
 repeat' (first|refine zQQ 42537902233979539687123872220034981831 ?_|(refine stp ?_;simp only[go_sem])|(refine EffW.at (hrp ) [] rfl (by simp[r2,zQR r2,n2,zQR n2];omega) ?_;(try simp only[go_sem,zQR r2,zQR n2]))|fail)
 have hxx:=Bg.above (B:=B2) (t:=T2) (t':=T2+1) (X:=[(T2,EO.cells [.ptr (some ⟨r,0⟩),.ptr (some ⟨nx1,0⟩),.ptr none] 112 0 true 0)]) (by omega) (by simp[zXT]) (by simp[zWN,lkp]) (by simp;try omega);simp only[List.cons_append,List.nil_append] at hxx
 have K3:Keep [] B2 T2 ((T2,EO.cells [.ptr (some ⟨r,0⟩),.ptr (some ⟨nx1,0⟩),.ptr none] 112 0 true 0)::B2) (T2+1):=Keep.of hxx.2;have q3:AtG ((T2,EO.cells [.ptr (some ⟨r,0⟩),.ptr (some ⟨nx1,0⟩),.ptr none] 112 0 true 0)::B2) (T2+1) T2 (EO.cells [.ptr (some ⟨r,0⟩),.ptr (some ⟨nx1,0⟩),.ptr none] 112 0 true 0):=⟨by omega,by simp[lkp]⟩;generalize (T2,EO.cells [.ptr (some ⟨r,0⟩),.ptr (some ⟨nx1,0⟩),.ptr none] 112 0 true 0)::B2=B3 at hxx K3 q3 ⊢
 obtain ⟨T3,hT3⟩:∃ T,T=T2+1:=⟨_,rfl⟩;rw[← hT3] at hxx K3 q3 ⊢
 haveI hB3:=hxx.1;have hr3:=hr2.keep K3 (by decide);have i3:=K3.keep i2 (by simp);have rl3:yXD B3 T3 r nx1 128 32768:=K3.keep rl2 (by simp);have rp3:zBS B3 T3 r nx1 T2 (.ptr none):=q3;have hrh:=rhnew_c B3 G hr3 rp3 32896 nb (by omega) (by omega) (by omega);rw[show ((32896:Nat):Int)=32896 from rfl] at hrh
 repeat' (first|(refine EffR.at hrh ?_)|(simp only[go_sem])|fail)
 rintro v B4 nx4 ⟨rfl,hB4,he4,hnx4,rh4⟩
 haveI:=hB4;have K4:Keep [] B3 T3 B4 nx4:=Keep.of he4;have hr4:=hr3.keep K4 (by decide);have i4:=K4.keep i3 (by simp);have rl4:yXD B4 nx4 r nx1 128 32768:=K4.keep rl3 (by simp);have rp4:zBS B4 nx4 r nx1 T2 (.ptr none):=K4.keep rp3 (by simp)
 repeat' (first|refine zQQ 42537902233979539687123872220034981831 ?_|(refine stp ?_;simp only[go_sem])|fail)
 refine EffR.at (rhload_c B4 G rh4 (by omega) (by omega)) ?_
 rintro v B5 nx5 ⟨rfl,hB5,hnx5,hsame5,rh5⟩
 haveI:=hB5;have K5:Keep [116] B4 nx4 B5 nx5:=Keep.of1 rh4 (by omega) hsame5 (by simp[tyE]);have hr5:=hr4.keep K5 (by decide);have i5:=K5.keep i4 (by simp[tyE]);have rl5:yXD B5 nx5 r nx1 128 32768:=K5.keep rl4 (by simp[tyE]);have rp5:zBS B5 nx5 r nx1 T2 (.ptr none):=K5.keep rp4 (by simp[tyE])
 repeat' (first|refine zQQ 42537902233979539687123872220034981831 ?_|(refine stp ?_;simp only[go_sem])|(simp only[go_sem])|fail)
 refine EffR.at (pfrom_c (t:=nx5) B5 G n t (64*n) 0 (by omega) (by omega) i5) ?_
 rintro v B6 nx6 ⟨_,d,a,lns,rfl,rfl,hB6,he6,hd6,hln,had,hta,hnd⟩
 haveI:=hB6;have g6:=he6.le;have K6:Keep [] B5 nx5 B6 nx6:=Keep.of he6;have hr6:=hr5.keep K6 (by decide);have rl6:yXD B6 nx6 r nx1 128 32768:=K6.keep rl5 (by simp);have rp6:zBS B6 nx6 r nx1 T2 (.ptr none):=K6.keep rp5 (by simp);have rh6:zFQ B6 nx6 T2 (T3+1) 32896 nb nx4 (.ptr none):=K6.keep rh5 (by simp);have d6:=hd6.dev.lt;have hlo:=lopen_c B6 G hd6 128 32768 (by omega) (by omega) (by omega) (by omega) (by omega);rw[show ((128:Nat):Int)=128 from rfl,show ((32768:Nat):Int)=32768 from rfl] at hlo
 repeat' (first|refine zQQ 42537902233979539687123872220034981831 ?_|(refine stp ?_;simp only[go_sem])|(refine EffW.at (hlo ) [] rfl (by simp[d6,zQR d6];omega) ?_;(try simp only[go_sem,zQR d6]))|(simp only[go_sem])|fail)
 have hxx:=Bg.above (B:=B6) (t:=nx6) (t':=nx6+1) (X:=[(nx6,EO.cells [.ptr (some ⟨d,0⟩),.int .i64 128,.int .i64 32768] 131 0 true 0)]) (by omega) (by simp[zXT]) (by simp[zWN,lkp]) (by simp;try omega);simp only[List.cons_append,List.nil_append] at hxx
 have K7:Keep [] B6 nx6 ((nx6,EO.cells [.ptr (some ⟨d,0⟩),.int .i64 128,.int .i64 32768] 131 0 true 0)::B6) (nx6+1):=Keep.of hxx.2;have l7:AtG ((nx6,EO.cells [.ptr (some ⟨d,0⟩),.int .i64 128,.int .i64 32768] 131 0 true 0)::B6) (nx6+1) nx6 (EO.cells [.ptr (some ⟨d,0⟩),.int .i64 128,.int .i64 32768] 131 0 true 0):=⟨by omega,by simp[lkp]⟩;generalize (nx6,EO.cells [.ptr (some ⟨d,0⟩),.int .i64 128,.int .i64 32768] 131 0 true 0)::B6=B7 at hxx K7 l7 ⊢
 obtain ⟨T7,hT7⟩:∃ T,T=nx6+1:=⟨_,rfl⟩;rw[← hT7] at hxx K7 l7 ⊢
 haveI hB7:=hxx.1;have hd7:=hd6.keep K7 (by decide);have lg7:xTG B7 T7 d nx6 128 32768:=l7;have htn:=tnew_c B7 G hd7 lg7 (by omega) (by omega);have d7:d<T7:=by omega
 have n7:nx6<T7:=by omega
 repeat' (first|refine zQQ 42537902233979539687123872220034981831 ?_|(refine stp ?_;simp only[go_sem])|(refine EffW.at (htn ) [] rfl (by simp[d7,zQR d7,n7,zQR n7];omega) ?_;(try simp only[go_sem,zQR d7,zQR n7]))|fail)
 have hxx:=Bg.above (B:=B7) (t:=T7) (t':=T7+1) (X:=[(T7,EO.cells [.ptr (some ⟨d,0⟩),.ptr (some ⟨nx6,0⟩),.ptr none] 137 0 true 0)]) (by omega) (by simp[zXT]) (by simp[zWN,lkp]) (by simp;try omega);simp only[List.cons_append,List.nil_append] at hxx
 have K8:Keep [] B7 T7 ((T7,EO.cells [.ptr (some ⟨d,0⟩),.ptr (some ⟨nx6,0⟩),.ptr none] 137 0 true 0)::B7) (T7+1):=Keep.of hxx.2;have p8:AtG ((T7,EO.cells [.ptr (some ⟨d,0⟩),.ptr (some ⟨nx6,0⟩),.ptr none] 137 0 true 0)::B7) (T7+1) T7 (EO.cells [.ptr (some ⟨d,0⟩),.ptr (some ⟨nx6,0⟩),.ptr none] 137 0 true 0):=⟨by omega,by simp[lkp]⟩;generalize (T7,EO.cells [.ptr (some ⟨d,0⟩),.ptr (some ⟨nx6,0⟩),.ptr none] 137 0 true 0)::B7=B8 at hxx K8 p8 ⊢
 obtain ⟨T8,hT8⟩:∃ T,T=T7+1:=⟨_,rfl⟩;rw[← hT8] at hxx K8 p8 ⊢
 haveI hB8:=hxx.1;have hd8:=hd7.keep K8 (by decide);have lg8:xTG B8 T8 d nx6 128 32768:=K8.keep lg7 (by simp);have pl8:zFW B8 T8 d nx6 T7 (.ptr none):=p8;have hhn:=hnew_c B8 G hd8 pl8 32896 nb (by omega) (by omega) (by omega);rw[show ((32896:Nat):Int)=32896 from rfl] at hhn
 have n8:T7<T8:=by omega
 repeat' (first|refine zQQ 42537902233979539687123872220034981831 ?_|(refine stp ?_;simp only[go_sem])|(refine EffW.at (hhn ) [] rfl (by simp[n8,zQR n8];omega) ?_;(try simp only[go_sem,zQR n8]))|fail)
 have hxx:=Bg.above (B:=B8) (t:=T8) (t':=T8+2) (X:=[(T8+1,.map []),(T8,.cells [.ptr (some ⟨T7,0⟩),.int .i64 32896,.int .i64 nb,.map (some (T8+1)),.ptr none] 141 0 true 0)]) (by omega) (by simp[zXT]) (by simp[zWN,lkp]) (by simp;omega);simp only[List.cons_append,List.nil_append] at hxx
 have K9:Keep [] B8 T8 ((T8+1,.map [])::(T8,.cells [.ptr (some ⟨T7,0⟩),.int .i64 32896,.int .i64 nb,.map (some (T8+1)),.ptr none] 141 0 true 0)::B8) (T8+2):=Keep.of hxx.2;have h9:yJJ ((T8+1,.map [])::(T8,.cells [.ptr (some ⟨T7,0⟩),.int .i64 32896,.int .i64 nb,.map (some (T8+1)),.ptr none] 141 0 true 0)::B8) (T8+2) T7 T8 32896 nb (T8+1) (.ptr none):=⟨by omega,by simp[lkp]⟩;generalize (T8+1,EO.map [])::(T8,EO.cells [.ptr (some ⟨T7,0⟩),.int .i64 32896,.int .i64 nb,.map (some (T8+1)),.ptr none] 141 0 true 0)::B8=B9 at hxx K9 h9 ⊢
 obtain ⟨T9,hT9⟩:∃ T,T=T8+2:=⟨_,rfl⟩;rw[← hT9] at hxx K9 h9 ⊢
 haveI hB9:=hxx.1;have hd9:=hd8.keep K9 (by decide);have lg9:xTG B9 T9 d nx6 128 32768:=K9.keep lg8 (by simp);have pl9:zFW B9 T9 d nx6 T7 (.ptr none):=K9.keep pl8 (by simp);refine EffR.at (hload_c B9 G h9 (by omega)) ?_
 rintro v B10 nx10 ⟨_,rfl,rfl,hB10,hnx10,hsame10,h10,lv10⟩
 haveI:=hB10;have K10:Keep [141] B9 T9 B10 nx10:=Keep.of1 h9 (by omega) hsame10 (by simp[tyE]);have hd10:=hd9.keep K10 (by decide);have lg10:xTG B10 nx10 d nx6 128 32768:=K10.keep lg9 (by simp[tyE]);have pl10:zFW B10 nx10 d nx6 T7 (.ptr none):=K10.keep pl9 (by simp[tyE]);have KA:Keep [141] B6 nx6 B10 nx10:=(K7.wk (by simp)).trans ((K8.wk (by simp)).trans ((K9.wk (by simp)).trans K10));have hr10:=hr6.keep KA (by decide);have rl10:yXD B10 nx10 r nx1 128 32768:=KA.keep rl6 (by simp[tyE]);have rp10:zBS B10 nx10 r nx1 T2 (.ptr none):=KA.keep rp6 (by simp[tyE]);have rh10:zFQ B10 nx10 T2 (T3+1) 32896 nb nx4 (.ptr none):=KA.keep rh6 (by simp[tyE]);have r10:=hr10.dev.lt;have d10:=hd10.dev.lt;have t10:T8<nx10:=by omega
 have t11:T3+1<nx10:=by omega
 repeat' (first|refine zQQ 42537902233979539687123872220034981831 ?_|(refine stp ?_;simp only[go_sem])|(simp only[go_sem])|fail)
 have hxx:=Bg.above (B:=B10) (t:=nx10) (t':=nx10+1) (X:=[(nx10,xP (pE d) (pE T8) (.ptr none) (pE r) (pE (T3+1)) (.ptr none))]) (by omega) (by simp[zXT]) (by simp[zWN,lkp]) (by simp;try omega);simp only[List.cons_append,List.nil_append] at hxx
 have K11:Keep [] B10 nx10 ((nx10,xP (pE d) (pE T8) (.ptr none) (pE r) (pE (T3+1)) (.ptr none))::B10) (nx10+1):=Keep.of hxx.2;have x11:AtG ((nx10,xP (pE d) (pE T8) (.ptr none) (pE r) (pE (T3+1)) (.ptr none))::B10) (nx10+1) nx10 (xP (pE d) (pE T8) (.ptr none) (pE r) (pE (T3+1)) (.ptr none)):=⟨by omega,by simp[lkp]⟩;generalize (nx10,xP (pE d) (pE T8) (.ptr none) (pE r) (pE (T3+1)) (.ptr none))::B10=B11 at hxx K11 x11 ⊢
 obtain ⟨T11,hT11⟩:∃ T,T=nx10+1:=⟨_,rfl⟩;rw[← hT11] at hxx K11 x11 ⊢
 haveI hB11:=hxx.1;have hd11:=hd10.keep K11 (by decide);have lg11:xTG B11 T11 d nx6 128 32768:=K11.keep lg10 (by simp);have pl11:zFW B11 T11 d nx6 T7 (.ptr none):=K11.keep pl10 (by simp);have h11:yJJ B11 T11 T7 T8 32896 nb T9 (.ptr none):=K11.keep h10 (by simp);have lv11:=K11.keep lv10 (by simp);have hr11:=hr10.keep K11 (by decide);have rl11:yXD B11 T11 r nx1 128 32768:=K11.keep rl10 (by simp);have rp11:zBS B11 T11 r nx1 T2 (.ptr none):=K11.keep rp10 (by simp);have rh11:zFQ B11 T11 T2 (T3+1) 32896 nb nx4 (.ptr none):=K11.keep rh10 (by simp);have hgb:=pbegin_c B11 G hd11 lg11 (by omega) pl11 h11 (by omega) hr11 rl11 rp11 rh11 (by omega) (by omega) x11
 repeat' (first|(refine EffR.at hgb ?_)|(simp only[go_sem])|fail)
 rintro v B12 nx12 ⟨rfl,hB12,K12,wk',w1,w2,w3,w4,w5,w6,w7,w8⟩
 haveI:=hB12
 repeat' (first|(refine stp ?_;simp only[go_sem])|fail)
 have l12:=K12.le;have KB:Keep badP B t B12 nx12:=(K0.wk (by simp)).trans ((Keep.of he1).trans ((K2.wk (by simp)).trans ((K3.wk (by simp)).trans ((K4.wk (by simp)).trans ((K5.wk (by simp)).trans ((K6.wk (by simp)).trans ((KA.wk (by simp)).trans ((K11.wk (by simp)).trans K12))))))));have hd12:=hd11.keep K12 (by decide);rw[hn] at hd12
 refine zWX hQ KB.le hB12.below (by simp[EV.bel,zQX];omega) ⟨nx10,wk',d,a,lns,nx6,T7,T8,T9,T11,r,T3+1,rfl,hB12,KB,⟨hd12,K12.keep lg11 (by simp[tyE]),w1,w2,K12.keep lv11 (by simp[tyE]),w3,w4,w5,w6,w7,⟨fun b hb=>(hln b hb).2,had,d6,by omega,by omega,by omega,by omega⟩,hnd⟩,by omega,fun b hb=>by have:=(hln b hb).1;omega,w8,by omega,fun b hb=>by have:=(hln b hb).2;omega⟩
end
section
def pY (nb:Nat):Gp:=⟨32896,nb,514+4*nb⟩
theorem pY_ok {nb:Nat} (h:nb≤60):(pY nb).ok:=⟨by show 64*(514+4*nb)≤_;omega,by show 32896+256*nb≤64*(514+4*nb);omega,by show 128≤32896;omega⟩
theorem yFR {nb:Nat} {A:List EO} (hA:∀ o∈A,o.bel 0):StL (pY nb) (bcL (514+4*nb) A) (11+(514+4*nb)+A.length) where
 bg:=⟨yTD _ _ _ _ (by omega) fun i _=>bcF_bel hA _ i,yNM _ _ _⟩
 big:=by omega
 has i hi:=by unfold bcL;rw[yQJ,if_pos (by omega)];rfl
 line i hi:=by
  have hi':i<514+4*nb:=hi;unfold bcL;rw[yQJ,if_pos (by omega)];unfold bcF;rw[if_pos (by omega)]
 top:=by show 11+(514+4*nb)≤_;omega
theorem bcL_argH {nb:Nat} {A:List EO} {j:Nat} {o:EO} (h:A[j]? = some o):AtB (bcL (514+4*nb) A) (11+(514+4*nb)+A.length) (11+(514+4*nb)+j) o:=by
 have hj:=(List.getElem?_eq_some_iff.1 h).1;refine ⟨by omega,by omega,?_⟩;unfold bcL;rw[yQJ,if_pos (by omega)];unfold bcF;rw[if_neg (by omega),Nat.add_sub_cancel_left,List.getD_eq_getElem?_getD,h];rfl
theorem xVB {G:List Gl} {B':List (Nat × EO)} {nx d a nb lg pl hp lv pu:Nat} {lns:List Nat} (A:List EO) (hA:∀ o∈A,o.bel 0) (hw:WorkH B' nx d a (514+4*nb) lns lg pl hp nb lv pu) (hB':Bg nx B') (hat:∀ j o,A[j]? = some o→AtG B' nx j o) (hta:A.length≤a) (hln:∀ b∈lns,A.length≤b):NewN 0 ⟨B',nx,G⟩ (gnd (pY nb) sZ (bcL (514+4*nb) A)) (11+(514+4*nb)+A.length) 0 (yJZ d a lns lg pl hp lv pu A.length):=by
 obtain ⟨o1,o2,o3,o4,o5,o6,o7⟩:=hw.ord;have t1:=hw.dev.dev.lt;have t2:=hw.dev.arr.lt;have t3:=AtG.lt hw.log;have t4:=AtG.lt hw.pool;have t5:=AtG.lt hw.heap;have t6:=hw.live.lt;have t7:=hw.put.lt;have t8:=hw.txn.lt;have t9:=hw.tk.lt;have t10:=hw.gv.lt;have t11:=hw.wk.lt;have hll:=hw.dev.len;haveI hS:=yFR (nb:=nb) hA;have hln2:∀ b∈lns,b<nx:=fun b hb=>(hw.dev.ln b hb).lt
 have hqn:(yJZ d a lns lg pl hp lv pu A.length).Nodup:=by
  unfold yJZ;refine List.nodup_append.2 ⟨?_,List.nodup_append.2 ⟨hw.nd,List.nodup_range,fun x hx y hy e=>?_⟩,fun x hx y hy e=>?_⟩
  ·simp only[List.nodup_cons,List.mem_cons,List.not_mem_nil,or_false,not_or,List.nodup_nil,and_true,not_false_eq_true];omega
  ·have:=hln x hx;have:=List.mem_range.1 hy;omega
  ·rcases List.mem_append.1 hy with q | q
   ·have:=o1 y q;simp only[List.mem_cons,List.not_mem_nil,or_false] at hx
    omega
   ·have:=List.mem_range.1 q;simp only[List.mem_cons,List.not_mem_nil,or_false] at hx
    omega
 have hget:∀ {b:Nat} {o:EO},AtG B' nx b o→(⟨B',nx,G⟩:ES).get b=some o:=fun {b o} hx=>by
  unfold ES.get;rw[if_pos hx.lt];exact hx.lk
 refine ⟨Nat.le_refl _,?_,hqn,fun x hx=>⟨Nat.zero_le _,?_⟩,Nat.zero_le _,Bg.below,zNR fun i o hm=>?_⟩
 ·unfold yJZ;simp only[List.length_append,List.length_cons,List.length_nil,List.length_range,hll];omega
 ·unfold yJZ at hx
  show x<nx
  rcases List.mem_append.1 hx with q | q
  ·simp only[List.mem_cons,List.not_mem_nil,or_false] at q
   omega
  ·rcases List.mem_append.1 q with q | q
   ·exact hln2 x q
   ·have:=List.mem_range.1 q;omega
 ·obtain ⟨j,x,h1,rfl,rfl⟩:=yWV hm;have h2:=zJR (Bg.keys (11+(514+4*nb)+A.length)) h1;have h3:=(zXY (Bg.below (t:=11+(514+4*nb)+A.length)) h1).1
  rcases Nat.lt_or_ge j 11 with q | q
  ·rw[StL.lk q] at h2
   obtain rfl:=Option.some.inj h2;rw[xJZ _ _ _ _ _ _ _ _ _ _ q];have c:=fun i hi=>xJZ d a lns lg pl hp lv pu A.length i hi
   refine hget ?_
   rcases (show j=0∨j=1∨j=2∨j=3∨j=4∨j=5∨j=6∨j=7∨j=8∨j=9∨j=10 by omega) with rfl | rfl | rfl | rfl | rfl | rfl | rfl | rfl | rfl | rfl | rfl
   all_goals simp only[zXG,pY,sZ,whoE,puE,tkE,List.map_nil,Bool.false_eq_true,if_false,EO.ren,zZG,EV.ren,xXF,List.getD_cons_zero,List.getD_cons_succ]
   ·rw[c 1 (by omega),c 2 (by omega),c 9 (by omega),c 10 (by omega)];exact hw.wk
   ·rw[c 4 (by omega),c 8 (by omega),c 0 (by omega)];exact hw.heap
   ·rw[c 4 (by omega),c 3 (by omega)];exact hw.txn
   ·exact hw.put
   ·rw[c 5 (by omega),c 7 (by omega),c 2 (by omega)];exact hw.pool
   ·rw[c 6 (by omega)];exact hw.dev.dev
   ·rw[yGB _ lns hll fun i b hb=>canQ_ln _ _ _ _ _ _ _ _ _ _ _ hb];exact hw.dev.arr
   ·rw[c 5 (by omega)];exact hw.log
   ·exact hw.live
   ·exact hw.tk
   ·exact hw.gv
  ·rw[StG.lkp_hi q] at h2
   unfold bcL at h2
   rw[yQJ,if_pos (by omega)] at h2
   obtain rfl:=Option.some.inj h2
   rcases Nat.lt_or_ge j (11+(514+4*nb)) with q2 | q2
   ·obtain ⟨i,rfl⟩:∃ i,j=11+i:=⟨j - 11,by omega⟩;obtain ⟨b,hb⟩:∃ b,lns[i]? = some b:=⟨lns[i]'(by omega),List.getElem?_eq_getElem _⟩;rw[canQ_ln _ _ _ _ _ _ _ _ _ _ _ hb,bcF,if_pos q2];exact hget (hw.dev.ln b (List.mem_of_getElem? hb))
   ·obtain ⟨i,rfl⟩:∃ i,j=11+(514+4*nb)+i:=⟨j - (11+(514+4*nb)),by omega⟩;obtain ⟨o,ho⟩:∃ o,A[i]? = some o:=⟨A[i]'(by omega),List.getElem?_eq_getElem _⟩;have e:=xTJ d a lns lg pl hp lv pu A.length i (by omega);rw[hll] at e
    rw[e,bcF,if_neg (by omega),Nat.add_sub_cancel_left,List.getD_eq_getElem?_getD,ho];show _=some (o.ren _);rw[EO.ren_idF (k:=0) (fun i hi=>absurd hi (by omega)) o (hA o (List.mem_of_getElem? ho))];exact hget (hat i o ho)
end
end Go.Proofs.YtncphnpndkjkaaaGreatDoor
