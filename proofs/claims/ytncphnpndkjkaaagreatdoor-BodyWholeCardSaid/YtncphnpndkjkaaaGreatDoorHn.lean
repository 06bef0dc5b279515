/-
  Own work: a part of the proof that the last text closes.
-/
import Derived.Test.YtncphnpndkjkaaaGreatDoorHh
import Derived.Test.YtncphnpndkjkaaaGreatDoorHm
namespace Go.Proofs.YtncphnpndkjkaaaGreatDoor
open Go.E
set_option linter.all false
set_option maxRecDepth 100000
set_option maxHeartbeats 16000000
def xQD (t:TypeId):Gl:=⟨0,(List.range 256).map fun c=>Value.int .u8 (Lib.firstT c),t⟩
def gAcc (t:TypeId):Gl:=⟨1,(List.range 32).map fun c=>if c % 2=0 then Value.int .u8 (Lib.accLo (c / 2)) else Value.int .u8 (Lib.accHi (c / 2)),t⟩
structure Tabs (G:List Gl):Prop where
 first:∃ t,xQD t∈G
 acc:∃ t,gAcc t∈G
theorem Tabs.ok {G:List Gl} (h:Tabs G) {ρ:Env} {s:ES} {w:World} (hR:Rel ρ s w) (hs:s.gl=G):Lib.Utf8Tabs 0 1 w:=by
 obtain ⟨t,h3⟩:=h.first;obtain ⟨u,h4⟩:=h.acc;rw[← hs] at h3 h4
 obtain ⟨⟨fr,hw⟩,_⟩:=hR.glob _ h3;obtain ⟨⟨fr2,hw2⟩,_⟩:=hR.glob _ h4;refine ⟨fun c hc=>?_,fun i hi=>⟨?_,?_⟩⟩
 ·have:=hw;simp only[xQD] at this
  simp[World.cell?,this,hc]
 ·have:=hw2;simp only[gAcc] at this
  simp[World.cell?,this,show 2*i<32 by omega]
 ·have:=hw2;simp only[gAcc] at this
  simp[World.cell?,this,show 2*i+1<32 by omega,show (2*i+1) % 2=1 by omega,show (2*i+1) / 2=i by omega]
variable {G:List Gl} (hG:Tabs G)
include hG
theorem decode_c (l:List UInt8) (hl:0<l.length):E.Pure G Tryz.prog 189 [.str l] (.tuple [.int .i32 (zZX l).1,.int .i64 (zZX l).2]):=by
 unfold E.Pure;have hd:Lib.decodeGo ⟨l.toArray⟩=zZX l:=by
  unfold Lib.decodeGo zZX;rw[if_neg (by rw[zPM];omega)]
 refine zMH (v':=.tuple #[.int .i32 (zZX l).1,.int .i64 (zZX l).2]) (enters_of Tryz.func189 (by kernel_rfl) rfl) (fun ρ=>by rw[VR];exact ⟨_,rfl,VRs.cons (by rw[VR]) (VRs.cons (by rw[VR]) VRs.nil)⟩) (fun ρ w args' hR hA=>?_) ⟨rfl,rfl⟩;obtain ⟨x',e,hx⟩:=yPT hA;obtain ⟨la⟩:=args';simp only at e
 subst e;rw[VR] at hx;subst hx
 rw[← hd];exact Tryz.utf8_DecodeRuneInString _ w (hG.ok hR rfl)
def yMZ (l:List UInt8):Bool:=zRZ l.length (l.getD 0 0).toNat (l.getD 1 0).toNat (l.getD 2 0).toNat
theorem full_c (l:List UInt8) (h0:0<l.length) (hl:l.length≤3):E.Pure G Tryz.prog 209 [.str l] (.bool (yMZ l)):=by
 unfold E.Pure;have hd:zRZ (ByteArray.mk l.toArray).size ((ByteArray.mk l.toArray).get! 0).toNat ((ByteArray.mk l.toArray).get! 1).toNat ((ByteArray.mk l.toArray).get! 2).toNat=yMZ l:=by
  rw[zPM];simp only[yMZ,ByteArray.get!,Array.getElem!_eq_getD,Array.getD_eq_getD_getElem?,List.getD_eq_getElem?_getD,List.getElem?_toArray];rfl
 refine zMH (v':=.bool (yMZ l)) (enters_of Tryz.func209 (by kernel_rfl) rfl) (fun ρ=>by rw[VR]) (fun ρ w args' hR hA=>?_) ⟨rfl,rfl⟩;obtain ⟨x',e,hx⟩:=yPT hA;obtain ⟨la⟩:=args';simp only at e
 subst e;rw[VR] at hx;subst hx
 rw[← hd];exact full_k _ w (hG.ok hR rfl) (by rw[zPM];exact h0) (by rw[zPM];exact hl)
omit hG in
def yJG (r:Int):Int:=if r<0 then -1 else if r≤127 then 1 else if r≤2047 then 2 else if 55296≤r∧r≤57343 then -1 else if r≤65535 then 3 else if r≤1114111 then 4 else -1
omit hG in
theorem runeLen_c (G:List Gl) (r:Int):E.Pure G Tryz.prog 188 [.int .i32 r] (.int .i64 (yJG r)):=by
 refine zXP fun V hV=>?_
 refine zQV 25 [.tmp 2] Tryz.func188 ?_
 repeat' (first|refine zQQ 4723277 ?_|refine zQW ?_|(refine stp ?_;simp only[go_sem])|(refine spl (fun h=>?_) (fun h=>?_)<;>first|omega|((try simp only[zZQ,zJB]);(try simp only[go_sem,h])))|fail)
 all_goals (refine zQH (by simp[EV.bel]) ?_;rw[hV];simp only[yJG,EV.int.injEq,true_and];(repeat' split)<;>omega)
omit hG in
theorem decE_wide (l:List UInt8) (h:(zZX l).1 ≠ 65533):yJG (zZX l).1=(zZX l).2:=by
 revert h
 simp only[zZX,Utf8.decode,Utf8.runeError,Utf8.valid,Nat.zero_add]
 repeat' split
 all_goals (intro h;first|(exact absurd rfl h)|(simp_all [yJG];(repeat' split)<;>omega))
theorem wide_c (l:List UInt8) (hl:0<l.length):E.Pure G Tryz.prog 156 [.str l,.int .i32 (zZX l).1] (.int .i64 (zZX l).2):=by
 have hw:=decE_wide l;have hdc:=decode_c hG l hl;refine zXP fun V hV=>?_
 generalize zZX l=d at hw hV hdc
 obtain ⟨r,w⟩:=d;simp only at hw hV hdc
 refine zQV 17 [.tmp 4] Tryz.func156 ?_
 repeat' (first|refine zQQ 339 ?_|(refine stp ?_;simp only[go_sem])|(refine Pure.at (runeLen_c G _) (by simp) (by simp) rfl ?_;(try simp only[go_sem]))|(refine Pure.at (hdc) (by simp) (by simp) rfl ?_;(try simp only[go_sem]))|(refine spl (fun h=>?_) (fun h=>?_)<;>((try simp only[go_sem,h])))|fail)
 ·refine zQH (by simp[EV.bel]) ?_;rw[hV,hw (by omega)]
 ·refine zQH (by simp[EV.bel]) ?_;rw[hV]
omit hG in
theorem decE_err (l:List UInt8) (h:(zZX l).1=65533):(zZX l).2=1∨(zZX l).2=3:=by
 revert h
 simp only[zZX,Utf8.decode,Utf8.runeError,Utf8.valid,Nat.zero_add]
 repeat' split
 all_goals (intro h;first|(exact .inl rfl)|(exact .inr rfl)|(exfalso;simp_all<;>omega))
omit hG in
def zHF (l:List UInt8):Bool:=decide ((zZX l).1 ≠ 65533∨(zZX l).2 > 1)
theorem yRY (l:List UInt8) (hl:0<l.length):E.Pure G Tryz.prog 124 [.str l] (.tuple [.int .i32 (zZX l).1,.int .i64 (zZX l).2,.bool (zHF l)]):=by
 have he:=decE_err l;have hwc:=wide_c hG l hl;refine zXP fun V hV=>?_
 unfold zHF at hV
 generalize hd:zZX l=d at he hV hwc
 obtain ⟨r,w⟩:=d;simp only at he hV hwc
 have hd1:zZX (l.drop 0)=(r,w):=by simpa using hd
 refine zQV 24 [.tmp 2,.tmp 3,.tmp 4] Tryz.func124 ?_
 repeat' (first|refine zQQ 3805 ?_|refine zQW ?_|(refine stp ?_;simp only[go_sem])|(refine zKT ?_;simp only[go_sem])|(refine zXQ ?_;simp only[go_sem,hd])|(refine Pure.at (hwc) (by simp) (by simp) rfl ?_;(try simp only[go_sem]))|(refine zZM 3805 2 ?_;simp only[go_sem])|(refine spl (fun h=>?_) (fun h=>?_)<;>first|omega|((try simp only[zZQ,zJB,zRM]);(try simp only[go_sem,h])))|fail)
 all_goals (refine zQH (by simp[EV.bel,zQX]) ?_;rw[hV]<;>(try simp only[EV.tuple.injEq,List.cons.injEq,EV.bool.injEq,true_and,and_true]))
 all_goals (first|(symm;apply decide_eq_true;omega)|(congr 1;apply propext;omega))
omit hG in
def zRR (b:UInt8):Bool:=decide (b.toNat / 64=2)
omit hG in
theorem cont_and:∀ b:UInt8,(andI .u8 (b.toNat:Int) 192=128)↔b.toNat / 64=2:=by
 have key:∀ i:Fin 256,(andI .u8 ((i.val:Nat):Int) 192=128)↔i.val / 64=2:=by decide +kernel
 intro b;exact key ⟨b.toNat,b.toNat_lt⟩
omit hG in
theorem xRJ (G:List Gl) (b:UInt8):E.Pure G Tryz.prog 157 [.int .u8 b.toNat] (.bool (zRR b)):=by
 have hb:=cont_and b;refine zXP fun V hV=>?_
 refine zQV 6 [.tmp 2] Tryz.func157 ?_
 repeat' (first|refine zQQ 5 ?_|(refine stp ?_;simp only[go_sem])|fail)
 refine zQH (by simp[EV.bel]) ?_;rw[hV,zRR]
 congr 1
 exact decide_eq_decide.2 hb
omit hG in
def yPJ (s:List UInt8):Nat→Nat→Nat
 | 0,_=>0
 | f+1,k=>if k≤s.length then (if zRR ((s.drop (s.length - k)).getD 0 0) then yPJ s f (k+1) else if yMZ (s.drop (s.length - k)) then 0 else k) else 0
omit hG in
def zKF (s:List UInt8):Nat:=yPJ s 3 1
theorem yDM (s:List UInt8) (hs:s.length≤9000000000):E.Pure G Tryz.prog 198 [.str s] (.int .i64 (zKF s)):=by
 refine zXP fun V hV=>?_
 refine zQV 27 [.tmp 2] Tryz.func198 ?_
 repeat' (first|refine zQQ 41947165 ?_|refine zQW ?_|(refine stp ?_;simp only[go_sem])|fail)
 refine zWK (fun k:Nat=>[(0,.str s),(3,.int .i64 k)]) (fun k:Nat=>[]) (fun k:Nat=>0) (fun k:Nat=>1≤k∧k≤4∧yPJ s (4 - k) k=zKF s) (fun k:Nat=>5 - k) (1) (fun z hz=>⟨by simp[zWP],by trivial,by exact Nat.le_refl _⟩) (by exact ⟨by omega,by omega,rfl⟩) (by simp only[go_sem,zQS];done) (by trivial) ?_
 rintro k ⟨h1,h4,hk⟩
 rcases Nat.lt_or_ge k 4 with h3 | h3
 ·obtain ⟨f,hf⟩:∃ f,4 - k=f+1:=⟨4 - k - 1,by omega⟩;rw[hf,yPJ] at hk
  rcases Nat.lt_or_ge s.length k with h5 | h5
  ·rw[if_neg (by omega)] at hk
   repeat' (first|refine zQQ 41947165 ?_|(refine stp ?_;simp only[go_sem])|(refine spl (fun h=>?_) (fun h=>?_)<;>first|omega|((try simp only[zZQ]);(try simp only[go_sem,h])))|fail)
   refine zQH (by simp[EV.bel]) ?_;rw[hV,← hk];rfl
  ·rw[if_pos h5] at hk
   obtain ⟨b,r,hbr⟩:∃ b r,s.drop (s.length - k)=b::r:=List.exists_cons_of_ne_nil (List.ne_nil_of_length_pos (by rw[List.length_drop];omega));have hbl:(b::r).length=k:=by rw[← hbr,List.length_drop];omega
   have hfo:=xRJ G b;have hfu:=full_c hG (b::r) (by simp) (by omega);rw[hbr,show (b::r).getD 0 0=b from rfl] at hk
   have e1:((s.length:Int) - (k:Int)).toNat=s.length - k:=by omega
   by_cases hc:zRR b=true
   ·rw[if_pos hc] at hk
    rw[hc] at hfo
    repeat' (first|refine zQQ 41947165 ?_|refine zQW ?_|(refine stp ?_;simp only[go_sem])|(refine Pure.at (hfo) (by simp) (by simp) rfl ?_;(try simp only[go_sem]))|(simp only[go_sem,hbr,e1])|(simp (disch:=omega) only[zQK])|(refine spl (fun h=>?_) (fun h=>?_)<;>first|omega|((try simp only[zZQ]);(try simp only[go_sem,h])))|(refine zQT ?_ ?_;focus omega))
    (refine ⟨(k+1),?_,?_,rfl,rfl,?_,?_⟩;rotate_left;(focus (simp only[];omega));(focus ((try simp only[go_sem,zQS]);((repeat' apply And.intro)<;>(rfl))));(focus (trivial));(try simp only[]))
    exact ⟨by omega,by omega,by rw[show 4 - (k+1)=f by omega];exact hk⟩
   ·rw[if_neg hc] at hk
    rw[Bool.eq_false_iff.2 hc] at hfo
    cases hb:yMZ (b::r) with
    | true=>
      rw[hb] at hk hfu
      repeat' (first|refine zQQ 41947165 ?_|refine zQW ?_|(refine stp ?_;simp only[go_sem])|(refine Pure.at (hfo) (by simp) (by simp) rfl ?_;(try simp only[go_sem]))|(refine Pure.at (hfu) (by simp) (by simp) rfl ?_;(try simp only[go_sem]))|(simp only[go_sem,hbr,e1])|(simp (disch:=omega) only[zQK])|(refine spl (fun h=>?_) (fun h=>?_)<;>first|omega|((try simp only[zZQ]);(try simp only[go_sem,h])))|(refine zQT ?_ ?_;focus omega))
      refine zQH (by simp[EV.bel]) ?_;rw[hV,← hk];rfl
    | false=>
      rw[hb] at hk hfu
      repeat' (first|refine zQQ 41947165 ?_|refine zQW ?_|(refine stp ?_;simp only[go_sem])|(refine Pure.at (hfo) (by simp) (by simp) rfl ?_;(try simp only[go_sem]))|(refine Pure.at (hfu) (by simp) (by simp) rfl ?_;(try simp only[go_sem]))|(simp only[go_sem,hbr,e1])|(simp (disch:=omega) only[zQK])|(refine spl (fun h=>?_) (fun h=>?_)<;>first|omega|((try simp only[zZQ]);(try simp only[go_sem,h])))|(refine zQT ?_ ?_;focus omega))
      refine zQH (by simp[EV.bel]) ?_;rw[hV,← hk];rfl
 ·obtain rfl:k=4:=by omega
  repeat' (first|refine zQQ 41947165 ?_|(refine stp ?_;simp only[go_sem])|fail)
  refine zQH (by simp[EV.bel]) ?_;rw[hV,← hk];rfl
omit hG in
def zBP (p x:List UInt8):Int:=if p.length=0∨zKF p ≠ p.length then 0 else if zHF (p++x.take 4) then (zZX (p++x.take 4)).2 - p.length else 0
theorem closes_c (p x:List UInt8) (hp:p.length≤9000000000) (hx:x.length≤9000000000):E.Pure G Tryz.prog 199 [.str p,.str x] (.int .i64 (zBP p x)):=by
 refine zXP fun V hV=>?_
 have hpe:=yDM hG p hp;refine zQV 36 [.tmp 4] Tryz.func199 ?_
 by_cases h0:p.length=0
 ·have h0':(p.length:Int)=0:=by omega
  repeat' (first|refine zQQ 4295229875 ?_|(refine stp ?_;simp only[go_sem])|(refine spl (fun h=>?_) (fun h=>?_)<;>first|omega|((try simp only[zJB]);(try simp only[go_sem,h])))|fail)
  refine zQH (by simp[EV.bel]) ?_;rw[hV,zBP,if_pos (.inl h0)]
 ·by_cases h1:zKF p=p.length
  ·have hf:=yRY hG (p++x.take 4) (by rw[List.length_append];omega);have hle:=yQG (p++x.take 4) (by rw[List.length_append];omega);rw[List.length_append,List.length_take] at hle
   rw[zBP,if_neg (by omega)] at hV
   have hl4:p.length+(x.take 4).length≤9223372036854775807:=by rw[List.length_take];omega
   have e1:∀ n:Nat,List.take (min (n:Int) 4).toNat x=List.take (min n 4) x:=fun n=>by congr 1;omega
   have e2:List.take (min x.length 4) x=x.take 4:=by
    rcases Nat.le_total x.length 4 with q | q
    ·rw[Nat.min_eq_left q,List.take_length,List.take_of_length_le q]
    ·rw[Nat.min_eq_right q]
   generalize zHF (p++x.take 4)=rb at hf hV
   generalize zZX (p++x.take 4)=d at hf hV hle
   cases rb with
   | true=>
     repeat' (first|refine zQQ 4295229875 ?_|(refine stp ?_;simp only[go_sem,e1,e2,List.drop_zero])|(refine Pure.at (hpe) (by simp) (by simp) rfl ?_;(try simp only[go_sem]))|(refine Pure.at (hf) (by simp) (by simp) rfl ?_;(try simp only[go_sem]))|(simp (disch:=omega) only[zQK])|(refine spl (fun h=>?_) (fun h=>?_)<;>first|omega|((try simp only[zZQ]);(try simp only[go_sem,h])))|(refine zQT ?_ ?_;focus omega))
     refine zQH (by simp[EV.bel]) ?_;rw[hV];rfl
   | false=>
     repeat' (first|refine zQQ 4295229875 ?_|(refine stp ?_;simp only[go_sem,e1,e2,List.drop_zero])|(refine Pure.at (hpe) (by simp) (by simp) rfl ?_;(try simp only[go_sem]))|(refine Pure.at (hf) (by simp) (by simp) rfl ?_;(try simp only[go_sem]))|(refine spl (fun h=>?_) (fun h=>?_)<;>first|omega|((try simp only[zZQ]);(try simp only[go_sem,h])))|(refine zQT ?_ ?_;focus omega))
     refine zQH (by simp[EV.bel]) ?_;rw[hV];rfl
  ·repeat' (first|refine zQQ 4295229875 ?_|(refine stp ?_;simp only[go_sem])|(refine Pure.at (hpe) (by simp) (by simp) rfl ?_;(try simp only[go_sem]))|(refine spl (fun h=>?_) (fun h=>?_)<;>first|omega|((try simp only[zZQ]);(try simp only[go_sem,h])))|fail)
   refine zQH (by simp[EV.bel]) ?_;rw[hV,zBP,if_pos (.inr h1)]
end Go.Proofs.YtncphnpndkjkaaaGreatDoor
