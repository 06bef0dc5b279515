/-
  Own work: a part of the proof that the last text closes.
-/
import Derived.Test.YtncphnpndkjkaaaGreatDoorHa
import Derived.Test.YtncphnpndkjkaaaGreatDoorFf
namespace Go.Proofs.YtncphnpndkjkaaaGreatDoor
open Go.E
set_option linter.all false
set_option maxRecDepth 100000
set_option maxHeartbeats 16000000
section
structure Gp where
 at_:Nat
 n:Nat
 nl:Nat
structure Gs where
 put:List (Nat × UInt8)
 taken:List Nat
 least:Nat
 over:Bool
structure Gp.ok (p:Gp):Prop where
 big:64*p.nl≤64000000
 fit:p.at_+256*p.n≤64*p.nl
 at0:128≤p.at_
def tkE (l:List Nat):List (EV × EV):=l.map fun (b:Nat)=>(.int .i64 (b:Int),.bool true)
def xXV (b:UInt8):EV:=.agg [.int .u8 b.toNat,.bool true]
def puE (l:List (Nat × UInt8)):List (EV × EV):=l.map fun x=>(.int .i64 x.1,xXV x.2)
def zGF (n:Nat):List EV:=(List.range n).flatMap fun i=>[.slice (some ⟨11+i,0⟩) 1 1,.int .i64 (-1)]
abbrev z8:List EV:=[.int .u64 0,.int .u64 0,.int .u64 0,.int .u64 0,.int .u64 0,.int .u64 0,.int .u64 0,.int .u64 0]
abbrev lineZ:EO:=.cells z8 124 0 true 0
def whoE (over:Bool) (b:Nat):EV:=if over then .ptr none else .ptr (some ⟨b,0⟩)
def zXG (p:Gp) (s:Gs):Nat→EO
 | 0=>.cells [.ptr (some ⟨1,0⟩),.ptr (some ⟨2,0⟩),.map (some 9),.map (some 10),.int .i64 s.least,.bool s.over] 179 0 true 0
 | 1=>.cells [.ptr (some ⟨4,0⟩),.int .i64 p.at_,.int .i64 p.n,.map (some 8),whoE s.over 0] 141 0 true 0
 | 2=>.cells [.ptr (some ⟨4,0⟩),.map (some 3),.bool s.over] 221 0 true 0
 | 3=>.map (puE s.put)
 | 4=>.cells [.ptr (some ⟨5,0⟩),.ptr (some ⟨7,0⟩),whoE s.over 2] 137 0 true 0
 | 5=>.cells [.slice (some ⟨6,0⟩) p.nl p.nl,.int .i64 0,.slice none 0 0,.int .i64 0,.bool false] 120 0 true 0
 | 6=>.cells (zGF p.nl) 127 0 true 0
 | 7=>.cells [.ptr (some ⟨5,0⟩),.int .i64 128,.int .i64 (p.at_ - 128:Nat)] 131 0 true 0
 | 8=>.map []
 | 9=>.map (tkE s.taken)
 | _=>.map []
abbrev gnd (p:Gp) (s:Gs) (B:List (Nat × EO)):List (Nat × EO):=stB (zXG p s) B
class StL (p:Gp) (B:List (Nat × EO)) (t:outParam Nat):Prop extends StG B t where
 line:∀ i,i<p.nl→lkp B (11+i)=some lineZ
 top:11+p.nl≤t
theorem zSP {k:Nat} {α:Type} {f:α→List EV}:∀ {l:List α},(∀ x∈l,zQX k (f x))→zQX k (l.flatMap f)
 | [],_=>trivial
 | x::r,h=>by
   rw[List.flatMap_cons,zQB];exact ⟨h x (.head _),zSP fun y hy=>h y (.tail _ hy)⟩
theorem zMK {k:Nat}:∀ (l:List Nat),zVH k (tkE l)
 | []=>trivial
 | _::r=>⟨trivial,trivial,zMK r⟩
theorem zMZ {k:Nat}:∀ (l:List (Nat × UInt8)),zVH k (puE l)
 | []=>trivial
 | _::r=>⟨trivial,by simp[xXV,EV.bel,zQX],zMZ r⟩
theorem objs_bel {p:Gp} {s:Gs} {t:Nat} (h1:11+p.nl≤t):∀ k,k<11→(zXG p s k).bel t:=by
 have hw:∀ b o,b<11→(whoE o b).bel t:=fun b o hb=>by unfold whoE;split<;>simp[EV.bel];omega
 intro k hk
 match k,hk with
 | 0,_=>simp[zXG,EO.bel,zQX,EV.bel];omega
 | 1,_=>simp[zXG,EO.bel,zQX,EV.bel,hw];omega
 | 2,_=>simp[zXG,EO.bel,zQX,EV.bel];omega
 | 3,_=>exact zMZ _
 | 4,_=>simp[zXG,EO.bel,zQX,EV.bel,hw];omega
 | 5,_=>simp[zXG,EO.bel,zQX,EV.bel];omega
 | 6,_=>
   refine zSP fun i hi=>?_
   have:=List.mem_range.1 hi;simp[zQX,EV.bel];omega
 | 7,_=>simp[zXG,EO.bel,zQX,EV.bel];omega
 | 8,_=>trivial
 | 9,_=>exact zMK _
 | 10,_=>trivial
section
variable {p:Gp} {s:Gs} {B:List (Nat × EO)} {t:Nat}
theorem StL.bgw [h:StL p B t]:Bg t (gnd p s B):=(StG.new (objs_bel h.top)).bg
instance [h:StL p B t]:Bg t (stB (zXG p s) B):=StL.bgw
theorem StL.lk [h:StL p B t] {i:Nat} (hi:i<11):lkp (stB (zXG p s) B) i=some (zXG p s i):=StG.lkp hi
theorem StL.ln [h:StL p B t] {i:Nat} (hi:i<p.nl):lkp (stB (zXG p s) B) (11+i)=some lineZ:=by
 rw[StG.lkp_hi (by omega)];exact h.line i hi
theorem xQH [h:StL p B t] (l:List Nat):setL (stB (zXG p s) B) 9 (.map (tkE l))=stB (zXG p { s with taken:=l }) B:=by
 rw[StG.setL (by omega)];refine yQF (fun k hk=>?_) B
 match k,hk with
 | 0,_ | 1,_ | 2,_ | 3,_ | 4,_ | 5,_ | 6,_ | 7,_ | 8,_ | 9,_ | 10,_=>rfl
theorem gnd_put [h:StL p B t] (l:List (Nat × UInt8)):setL (stB (zXG p s) B) 3 (.map (puE l))=stB (zXG p { s with put:=l }) B:=by
 rw[StG.setL (by omega)];refine yQF (fun k hk=>?_) B
 match k,hk with
 | 0,_ | 1,_ | 2,_ | 3,_ | 4,_ | 5,_ | 6,_ | 7,_ | 8,_ | 9,_ | 10,_=>rfl
theorem xQB [h:StL p B t] (n:Nat):setL (stB (zXG p s) B) 0 (.cells [.ptr (some ⟨1,0⟩),.ptr (some ⟨2,0⟩),.map (some 9),.map (some 10),.int .i64 n,.bool s.over] 179 0 true 0)=stB (zXG p { s with least:=n }) B:=by
 rw[StG.setL (by omega)];refine yQF (fun k hk=>?_) B
 match k,hk with
 | 0,_ | 1,_ | 2,_ | 3,_ | 4,_ | 5,_ | 6,_ | 7,_ | 8,_ | 9,_ | 10,_=>rfl
end
theorem yZN (n i:Nat) (h:i<n):(zGF n)[2*i]? = some (.slice (some ⟨11+i,0⟩) 1 1)∧(zGF n)[2*i+1]? = some (.int .i64 (-1))∧(zGF n).length=2*n:=by
 have key:∀ m:Nat,(zGF m).length=2*m:=fun m=>by
  induction m with
  | zero=>rfl
  | succ m ih=>unfold zGF at ih ⊢;rw[List.range_succ,List.flatMap_append,List.length_append,ih];simp;omega
 induction n with
 | zero=>omega
 | succ m ih=>
   have e:zGF (m+1)=zGF m++[.slice (some ⟨11+m,0⟩) 1 1,.int .i64 (-1)]:=by unfold zGF;rw[List.range_succ,List.flatMap_append];rfl
   rw[e]
   rcases Nat.lt_or_ge i m with hi | hi
   ·obtain ⟨h1,h2,h3⟩:=ih hi;rw[List.getElem?_append_left (by rw[key];omega),List.getElem?_append_left (by rw[key];omega)];exact ⟨h1,h2,by rw[List.length_append,key];simp;omega⟩
   ·obtain rfl:i=m:=by omega
    rw[List.getElem?_append_right (by rw[key];omega),List.getElem?_append_right (by rw[key];omega),key];refine ⟨by rw[Nat.sub_self];rfl,by rw[show 2*i+1 - 2*i=1 by omega];rfl,by rw[List.length_append,key];simp;omega⟩
end
section
section
variable {p:Gp} {s:Gs} {B:List (Nat × EO)} {t:Nat}
theorem lkW [h:StL p B t]:lkp (stB (zXG p s) B) 0=some (.cells [.ptr (some ⟨1,0⟩),.ptr (some ⟨2,0⟩),.map (some 9),.map (some 10),.int .i64 s.least,.bool s.over] 179 0 true 0)
 ∧ lkp (stB (zXG p s) B) 1=some (.cells [.ptr (some ⟨4,0⟩),.int .i64 p.at_,.int .i64 p.n,.map (some 8),whoE s.over 0] 141 0 true 0)
 ∧ lkp (stB (zXG p s) B) 2=some (.cells [.ptr (some ⟨4,0⟩),.map (some 3),.bool s.over] 221 0 true 0)
 ∧ lkp (stB (zXG p s) B) 3=some (.map (puE s.put))
 ∧ lkp (stB (zXG p s) B) 4=some (.cells [.ptr (some ⟨5,0⟩),.ptr (some ⟨7,0⟩),whoE s.over 2] 137 0 true 0)
 ∧ lkp (stB (zXG p s) B) 5=some (.cells [.slice (some ⟨6,0⟩) p.nl p.nl,.int .i64 0,.slice none 0 0,.int .i64 0,.bool false] 120 0 true 0)
 ∧ lkp (stB (zXG p s) B) 6=some (.cells (zGF p.nl) 127 0 true 0)
 ∧ lkp (stB (zXG p s) B) 8=some (.map [])∧lkp (stB (zXG p s) B) 9=some (.map (tkE s.taken))∧lkp (stB (zXG p s) B) 10=some (.map []):=
 ⟨StL.lk (by omega),StL.lk (by omega),StL.lk (by omega),StL.lk (by omega),StL.lk (by omega),StL.lk (by omega),StL.lk (by omega),StL.lk (by omega),StL.lk (by omega),StL.lk (by omega)⟩
end
attribute [go_sem] gnd lkW lt_big lt_big0 ne_big ne_big0 xVY namW_lo namW_0 Bg.lkp_hi
variable {p:Gp} (B:List (Nat × EO)) {t:Nat}
theorem lnF [h:StL p B t] {i:Nat} (hi:i<p.nl):(∀ k,(11+i<t+k)=True)∧(11+i<t)=True∧(t=11+i)=False∧∀ k,(t+k=11+i)=False:=by
 have:=h.top;refine ⟨fun k=>?_,?_,?_,fun k=>?_⟩<;>simp<;>omega
theorem none_c (G:List Gl) (s:Gs) [Big t] [h:StL p B t] (hnl:0<p.nl) (hb:p.nl≤70000000):EffW G Tryz.prog 69 [.ptr (some ⟨5,0⟩)] t [] (gnd p s B) 0 (.bool false) [] (gnd p s B) 0:=by
 refine EffW.enter fun Q hQ=>?_
 simp only[gnd,List.nil_append,Nat.add_zero];refine zQV 13 [.tmp 2] Tryz.func69 ?_
 repeat' (first|refine zQQ 5 ?_|(refine stp ?_;simp only[go_sem])|fail)
 (refine zQN hQ [] ?_ ?_ ?_<;>(first|(simp;done)|(simp;omega)))
theorem size_c (G:List Gl) (s:Gs) [Big t] [h:StL p B t] (hnl:0<p.nl) (hb:p.nl≤1000000):EffW G Tryz.prog 46 [.ptr (some ⟨5,0⟩)] t [] (gnd p s B) 0 (.int .i64 (64*p.nl:Nat)) [] (gnd p s B) 0:=by
 refine EffW.enter fun Q hQ=>?_
 simp only[gnd,List.nil_append,Nat.add_zero];refine zQV 11 [.tmp 2] Tryz.func46 ?_
 repeat' (first|refine zQQ 21 ?_|(refine stp ?_;simp only[go_sem])|(refine EffW.at (none_c B G s hnl (by omega) ) [] rfl (by (simp;done)) ?_;(try simp only[go_sem]))|(simp (disch:=omega) only[zQK])|fail)
 rw[show (p.nl:Int)*64=((64*p.nl:Nat):Int) by omega]
 (refine zQN hQ [] ?_ ?_ ?_<;>(simp))
theorem off_c (G:List Gl) (s:Gs) [Big t] [h:StL p B t] (hnl:0<p.nl) (hb:p.nl≤1000000):EffW G Tryz.prog 93 [.ptr (some ⟨5,0⟩)] t [] (gnd p s B) 0 (.bool false) [] (gnd p s B) 0:=by
 refine EffW.enter fun Q hQ=>?_
 simp only[gnd,List.nil_append,Nat.add_zero];refine zQV 12 [.tmp 2] Tryz.func93 ?_
 repeat' (first|refine zQQ 5 ?_|(refine stp ?_;simp only[go_sem])|(refine EffW.at (none_c B G s hnl (by omega) ) [] rfl (by (simp;done)) ?_;(try simp only[go_sem]))|fail)
 (refine zQN hQ [] ?_ ?_ ?_<;>(simp))
theorem ready_c (G:List Gl) (s:Gs) [Big t] [h:StL p B t] (hnl:0<p.nl) (hb:p.nl≤1000000) (a n:Nat) (han:a+n≤64*p.nl):EffW G Tryz.prog 96 [.ptr (some ⟨5,0⟩),.int .i64 a,.int .i64 n] t [] (gnd p s B) 0 (.int .i64 0) [] (gnd p s B) 0:=by
 refine EffW.enter fun Q hQ=>?_
 simp only[gnd,List.nil_append,Nat.add_zero];refine zQV 36 [.tmp 6] Tryz.func96 ?_
 repeat' (first|refine zQQ 33991 ?_|refine zQW ?_|(refine stp ?_;simp only[go_sem])|(refine EffW.at (none_c B G s hnl (by omega) ) [] rfl (by (simp;done)) ?_;(try simp only[go_sem]))|(refine EffW.at (size_c B G s hnl hb ) [] rfl (by (simp;done)) ?_;(try simp only[go_sem]))|(simp (disch:=omega) only[zQK])|(refine spl (fun h=>?_) (fun h=>?_)<;>first|omega|((try simp only[zZQ]);(try simp only[go_sem,h])))|fail)
 all_goals (refine zQN hQ [] ?_ ?_ ?_<;>(simp))
theorem seen_c (G:List Gl) (s:Gs) [Big t] [h:StL p B t] (i:Nat) (hi:i<p.nl) (hb:p.nl≤1000000):EffW G Tryz.prog 97 [.ptr (some ⟨6,2*i⟩)] t [] (gnd p s B) 0 (.agg z8) [] (gnd p s B) 0:=by
 have g1:=(yZN p.nl i hi).1;have g2:=(yZN p.nl i hi).2.2;have l1:=StL.ln (s:=s) (B:=B) (t:=t) hi;have l2:=lnF B (t:=t) hi;refine EffW.enter fun Q hQ=>?_
 simp only[gnd,List.nil_append,Nat.add_zero];refine zQV 15 [.cell 2 124] Tryz.func97 ?_
 repeat' (first|refine zQQ 5 ?_|(refine stp ?_;simp only[go_sem])|(refine zWV (id:=1) mixed [(0,[]),(1,[]),(2,[]),(4,[]),(5,[]),(6,[]),(3,[]),(7,[]),(8,[]),(9,[]),(10,[]),(11,[]),(12,[])] (by kernel_rfl) ?_;simp only[go_sem,g1,l1,l2])|fail)
 (refine zQN hQ [] ?_ ?_ ?_<;>(simp))
end
section
theorem undSt:Tryz.prog.underlying 124=some (.array 8 122):=by kernel_rfl
theorem guardSt:Tryz.prog.eqGuardType Tryz.prog.depth 124=false:=by kernel_rfl
theorem cellsU64:Tryz.prog.cellsOf 122=1:=by kernel_rfl
theorem undU64:Tryz.prog.underlying 122=some (.int .u64):=by kernel_rfl
theorem z8_ints:z8=zTF .u64 [0,0,0,0,0,0,0,0]:=rfl
theorem zU64:zQZ (zU 64)=[.int .u8 0,.int .u8 0,.int .u8 0,.int .u8 0,.int .u8 0,.int .u8 0,.int .u8 0,.int .u8 0,.int .u8 0,.int .u8 0,.int .u8 0,.int .u8 0,.int .u8 0,.int .u8 0,.int .u8 0,.int .u8 0,.int .u8 0,.int .u8 0,.int .u8 0,.int .u8 0,.int .u8 0,.int .u8 0,.int .u8 0,.int .u8 0,.int .u8 0,.int .u8 0,.int .u8 0,.int .u8 0,.int .u8 0,.int .u8 0,.int .u8 0,.int .u8 0,.int .u8 0,.int .u8 0,.int .u8 0,.int .u8 0,.int .u8 0,.int .u8 0,.int .u8 0,.int .u8 0,.int .u8 0,.int .u8 0,.int .u8 0,.int .u8 0,.int .u8 0,.int .u8 0,.int .u8 0,.int .u8 0,.int .u8 0,.int .u8 0,.int .u8 0,.int .u8 0,.int .u8 0,.int .u8 0,.int .u8 0,.int .u8 0,.int .u8 0,.int .u8 0,.int .u8 0,.int .u8 0,.int .u8 0,.int .u8 0,.int .u8 0,.int .u8 0]:=rfl
theorem bytes_c (G:List Gl):Eff G Tryz.prog 98 [.agg z8] [] 0 (.slice (some ⟨0,0⟩) 64 64) [(0,.cells (zQZ (zU 64)) 5 0 true 0)] 1:=by
 obtain ⟨inf5,d5,v5,I5⟩:=zQG T122;have heq:eqE (.agg z8) (.agg z8)=true:=by
  rw[z8_ints,eqE,yYX];decide
 have hes:=(xRY (k:=.u64) (xs:=[0,0,0,0,0,0,0,0]) (ys:=[0,0,0,0,0,0,0,0]) undSt I5.info cellsU64 undU64 guardSt rfl rfl).1;rw[← z8_ints,heq] at hes
 unfold Eff;refine zQV 19 [.tmp 2] Tryz.func98 ?_
 repeat' (first|refine zQQ 7471 ?_|(refine stp ?_;simp only[go_sem])|((refine zZW ?_;unfold zZD);simp only[go_sem])|(refine zQT ?_ ?_;focus omega))
 exact zWW [1] (by simp;done) (by simp;done) (by simp;done) (by simp;done) (by simp;done) (by simp;done) rfl (by simp) (by simp[zU64])
theorem xZN (n o k:Nat) (h:o+k≤n):zZH (zQZ (zU n)) o (zQZ (zU k))=zQZ (zU n):=by
 unfold zZH;rw[zVQ,zZP,zQY,← zWJ,← zWJ,zXV,zNB]
 congr 1
 simp only[zU,List.take_replicate,List.replicate_append_replicate]
 congr 1;omega
variable {p:Gp} (B:List (Nat × EO)) {t:Nat}
theorem pload_c (G:List Gl) (s:Gs) [Big t] [h:StL p B t] (hb:p.nl≤1000000) (hnl:0<p.nl) (a n:Nat) (han:a+n≤64*p.nl):EffW G Tryz.prog 72 [.ptr (some ⟨5,0⟩),.int .i64 a,.int .i64 n] t [] (gnd p s B) 0 (.tuple [.slice (some ⟨t,0⟩) n n,.int .i64 0]) [(t,.cells (zQZ (zU n)) 5 0 true 0)] (gnd p s B) 1:=by
 refine EffW.enter fun Q hQ=>?_
 simp only[gnd,List.nil_append,Nat.add_zero];refine zQV 48 [.tmp 6,.tmp 7] Tryz.func72 ?_
 repeat' (first|refine zQQ 17047495 ?_|refine zQW ?_|(refine stp ?_;simp only[go_sem])|(refine EffW.at (ready_c B G s hnl hb a n han ) [] rfl (by (simp;done)) ?_;(try simp only[go_sem]))|((refine zZW ?_;unfold zZD);simp only[go_sem])|(refine zQT ?_ ?_;focus omega))
 refine zWK (fun z:Nat=>[(0,.ptr (some ⟨5,0⟩)),(1,.int .i64 a),(2,.int .i64 n),(9,.slice (some ⟨t,0⟩) n n),(10,.int .i64 z)]) (fun z:Nat=>(t,.cells (zQZ (zU n)) 5 0 true 0)::stB (zXG p s) B) (fun z:Nat=>t+1) (fun z:Nat=>z≤n) (fun z:Nat=>n - z) (0) (fun z hz=>⟨by simp[zWP],by simp,by omega⟩) (by omega) (by simp only[go_sem,zQS];done) (by simp only[go_sem,zWG];done) ?_;intro z hz
 rcases Nat.lt_or_ge z n with hzn | hzn
 ·have e1:((a:Int)+z) / 64=(((a+z) / 64:Nat):Int):=by omega
  have e2:((a:Int)+z) % 64=(((a+z) % 64:Nat):Int):=by omega
  have e3:(a+z) / 64*2=2*((a+z) / 64):=by omega
  have e4:=(yZN p.nl ((a+z) / 64) (by omega)).2.2;have e6:(a+z) % 64+(64 - (a+z) % 64)=64:=by omega
  have e7:List.take (64 - (a+z) % 64) (List.drop ((a+z) % 64) (zQZ (zU 64)))=zQZ (zU (64 - (a+z) % 64)):=by
   rw[zZP,zNB,List.take_of_length_le];simp[zQY]
  have e8:List.take (min (64 - (a+z) % 64) (n - z)) (zQZ (zU (64 - (a+z) % 64)))=zQZ (zU (min (64 - (a+z) % 64) (n - z))):=by
   rw[zVQ];congr 1;simp only[zU,List.take_replicate];congr 1;omega
  have e9:=xZN n z (min (64 - (a+z) % 64) (n - z)) (by omega);have e5:=seen_c B G s (t:=t) ((a+z) / 64) (by omega) hb
  repeat' (first|refine zQQ 17047495 ?_|refine zQW ?_|(refine stp ?_;simp only[go_sem,e6,e7,e8,e9,zQY,zXV])|(refine zWV (id:=9) mixed [(0,[]),(1,[]),(2,[]),(4,[]),(5,[]),(6,[]),(3,[]),(7,[]),(8,[]),(9,[]),(10,[])] (by kernel_rfl) ?_;simp only[go_sem])|(refine EffW.at (e5 ) [] rfl (by (simp;done)) ?_;(try simp only[go_sem]))|(refine Eff.at2 (bytes_c G ) [] rfl (by first|(simp;done)|fail) rfl ?_;(try simp only[go_sem]))|(simp only[go_sem,e1,e2,e3])|(simp (disch:=omega) only[zQK,zDQ,zFD])|(refine spl (fun h=>?_) (fun h=>?_)<;>first|omega|try simp only[go_sem,h])|(refine zQT ?_ ?_;focus omega))
  (refine ⟨(z+min (64 - (a+z) % 64) (n - z)),?_,?_,rfl,rfl,?_,?_⟩;rotate_left;(focus (simp only[];omega));(focus ((try simp only[go_sem,zQS]);((repeat' apply And.intro)<;>(rfl))));(focus (simp only[go_sem,zWG]));(try simp only[]))
  omega
 ·obtain rfl:z=n:=by omega
  repeat' (first|refine zQQ 17047495 ?_|(refine stp ?_;simp only[go_sem])|(refine spl (fun h=>?_) (fun h=>?_)<;>first|omega|try simp only[go_sem,h])|fail)
  all_goals (refine zQN hQ [t] ?_ ?_ ?_<;>(simp))
end
section
theorem zk285:zOK Tryz.prog 285 ⟨(.struct [(0,5),(1,4)]),2,2,[(.int .u8 0),(.bool false)]⟩=true:=by kernel_rfl
attribute [go_sem] zk285
theorem zk4:zOK Tryz.prog 4 ⟨.bool,1,1,[(.bool false)]⟩=true:=by kernel_rfl
attribute [go_sem] zk4
theorem zk3:zOK Tryz.prog 3 ⟨(.int .i64),1,8,[(.int .i64 0)]⟩=true:=by kernel_rfl
attribute [go_sem] zk3
def yKG:List (Nat × UInt8)→Nat→Option (Nat × UInt8)
 | [],_=>none
 | (k,b)::r,x=>if x=k then some (0,b) else (yKG r x).map fun y=>(y.1+1,y.2)
def zDY (l:List (Nat × UInt8)) (x:Nat):UInt8:=match yKG l x with
 | some y=>y.2
 | none=>0
def setP:List (Nat × UInt8)→Nat→UInt8→List (Nat × UInt8)
 | [],_,_=>[]
 | (k,_)::r,0,b=>(k,b)::r
 | y::r,j+1,b=>y::setP r j b
def insP (l:List (Nat × UInt8)) (x:Nat) (b:UInt8):List (Nat × UInt8):=match yKG l x with
 | some y=>setP l y.1 b
 | none=>l++[(x,b)]
def zYZ:List (Nat × UInt8)→Nat→List UInt8→List (Nat × UInt8)
 | l,_,[]=>l
 | l,a,x::r=>zYZ (insP l a x) (a+1) r
theorem yRV:∀ (d:List UInt8) (l:List (Nat × UInt8)) (a:Nat) (x:UInt8),zYZ l a (d++[x])=insP (zYZ l a d) (a+d.length) x
 | [],l,a,x=>rfl
 | y::d,l,a,x=>by
   simp only[List.cons_append,zYZ,List.length_cons];rw[yRV d,show a+1+d.length=a+(d.length+1) by omega]
theorem xVG (d:List UInt8) (l:List (Nat × UInt8)) (a z:Nat) (hz:z<d.length):zYZ l a (d.take (z+1))=insP (zYZ l a (d.take z)) (a+z) (d.getD z 0):=by
 rw[List.take_succ];have:d[z]?.toList=[d.getD z 0]:=by simp[hz]
 rw[this,yRV,List.length_take,Nat.min_eq_left (by omega)]
theorem yJN (l:List (Nat × UInt8)):((puE l).all fun x=>Go.E.keyOf (UT.int .i64) x.1)=true:=by
 simp[puE,Go.E.keyOf]
theorem zBJ (x:Nat):∀ l:List (Nat × UInt8),zRP (.int .i64 x) (puE l)=(yKG l x).map fun y=>(y.1,xXV y.2)
 | []=>rfl
 | (k,b)::r=>by
   have ih:=zBJ x r;simp only[puE,List.map_cons,zRP,yYG,yKG] at ih ⊢
   by_cases h:x=k
   ·subst h;simp
   ·rw[show decide ((x:Int)=(k:Int))=false by simp;omega,if_neg h];simp only[ih]
    cases yKG r x<;>rfl
theorem yGY (b:UInt8):∀ (l:List (Nat × UInt8)) (j:Nat),putE.setNth (puE l) j (xXV b)=puE (setP l j b)
 | [],_=>rfl
 | (k,c)::r,0=>rfl
 | y::r,j+1=>by
   have:=yGY b r j;simp only[puE,List.map_cons] at this ⊢
   simp only[putE.setNth,setP,List.map_cons,this]
theorem puE_snoc (l:List (Nat × UInt8)) (x:Nat) (b:UInt8):puE l++[(.int .i64 x,xXV b)]=puE (l++[(x,b)]):=by simp[puE]
theorem xYT (b:UInt8):∀ (l:List (Nat × UInt8)) (x y j:Nat) (c:UInt8),yKG l x=some (j,c)→yKG (setP l j b) y=if y=x then some (j,b) else yKG l y
 | [],x,y,j,c,h=>by simp[yKG] at h
 | (k,c0)::r,x,y,j,c,h=>by
   simp only[yKG] at h
   by_cases hx:x=k
   ·rw[if_pos hx] at h
    cases h
    subst hx;simp only[setP,yKG]
    by_cases hy:y=x
    ·simp[hy]
    ·simp[hy]
   ·rw[if_neg hx] at h
    cases hi:yKG r x with
    | none=>rw[hi] at h;simp at h
    | some q=>
      obtain ⟨i,d⟩:=q;rw[hi] at h
      simp only[Option.map_some,Option.some.injEq,Prod.mk.injEq] at h
      obtain ⟨rfl,rfl⟩:=h;have ih:=xYT b r x y i d hi;simp only[setP,yKG,ih]
      by_cases hy:y=k
      ·subst hy;rw[if_pos rfl,if_neg (by omega),if_pos rfl]
      ·rw[if_neg hy,if_neg hy]
       by_cases hyx:y=x
       ·subst hyx;simp
       ·simp[hyx]
theorem xQG (b:UInt8):∀ (l:List (Nat × UInt8)) (x y:Nat),yKG l x=none→zDY (l++[(x,b)]) y=if y=x then b else zDY l y
 | [],x,y,h=>by
   simp only[zDY,List.nil_append,yKG]
   by_cases hy:y=x
   ·subst hy;simp
   ·simp[hy]
 | (k,c0)::r,x,y,h=>by
   simp only[yKG] at h
   by_cases hx:x=k
   ·rw[if_pos hx] at h;cases h
   ·rw[if_neg hx] at h
    have hn:yKG r x=none:=by cases hi:yKG r x<;>simp[hi] at h ⊢
    have ih:=xQG b r x y hn;simp only[zDY,List.cons_append,yKG] at ih ⊢
    by_cases hy:y=k
    ·subst hy;rw[if_pos rfl,if_neg (by omega),if_pos rfl]
    ·rw[if_neg hy,if_neg hy]
     revert ih
     cases yKG (r++[(x,b)]) y<;>cases yKG r y<;>simp
theorem getP_ins (l:List (Nat × UInt8)) (x y:Nat) (b:UInt8):zDY (insP l x b) y=if y=x then b else zDY l y:=by
 unfold insP
 cases h:yKG l x with
 | none=>exact xQG b l x y h
 | some q=>
   obtain ⟨j,c⟩:=q;simp only[zDY,xYT b l x y j c h]
   by_cases hy:y=x<;>simp[hy]
theorem yYQ:∀ (d:List UInt8) (l:List (Nat × UInt8)) (a y:Nat),zDY (zYZ l a d) y=if a≤y∧y<a+d.length then d.getD (y - a) 0 else zDY l y
 | [],l,a,y=>by simp[zYZ];omega
 | x::d,l,a,y=>by
   rw[zYZ,yYQ d,getP_ins];simp only[List.length_cons]
   by_cases h1:y=a
   ·subst h1;rw[if_neg (by omega),if_pos rfl,if_pos (by omega),Nat.sub_self];rfl
   ·rw[if_neg h1]
    by_cases h2:a+1≤y∧y<a+1+d.length
    ·rw[if_pos h2,if_pos (by omega),show y - a=(y - (a+1))+1 by omega];rfl
    ·rw[if_neg h2,if_neg (by omega)]
def ovl (l:List (Nat × UInt8)) (a n:Nat):List UInt8:=(List.range n).map fun i=>zDY l (a+i)
@[simp] theorem yGH (l:List (Nat × UInt8)) (a n:Nat):(ovl l a n).length=n:=by simp[ovl]
theorem xPY (l:List (Nat × UInt8)) (a n:Nat):ovl l a (n+1)=ovl l a n++[zDY l (a+n)]:=by
 unfold ovl;rw[List.range_succ,List.map_append];rfl
def rowZ (l:List (Nat × UInt8)) (a n z:Nat):List UInt8:=ovl l a z++zU (n - z)
theorem xZB (l:List (Nat × UInt8)) (a n z:Nat) (h:z≤n):(rowZ l a n z).length=n:=by simp[rowZ];omega
theorem rowZ_put (l:List (Nat × UInt8)) (a n z:Nat) (h:z<n) (b:UInt8) (hb:zDY l (a+z)=b):(zQZ (rowZ l a n z)).set z (.int .u8 b.toNat)=zQZ (rowZ l a n (z+1)):=by
 unfold rowZ;rw[xPY,hb,zWJ,List.set_append_right _ _ (by simp[zQY]),zQY,yGH,Nat.sub_self,show n - z=(n - (z+1))+1 by omega];simp only[zU,List.replicate_succ,zJW,List.set_cons_zero,List.append_assoc,zWJ,List.cons_append,List.nil_append]
theorem rowZ_same (l:List (Nat × UInt8)) (a n z:Nat) (h:z<n) (hb:zDY l (a+z)=0):rowZ l a n z=rowZ l a n (z+1):=by
 unfold rowZ;rw[xPY,hb,show n - z=(n - (z+1))+1 by omega];simp[zU,List.replicate_succ]
variable {p:Gp} (B:List (Nat × EO)) {t:Nat}
theorem begun_c (G:List Gl) (s:Gs) [Big t] [h:StL p B t] (hb:p.nl≤1000000) (hnl:0<p.nl) (ho:s.over=false):EffW G Tryz.prog 162 [.ptr (some ⟨2,0⟩)] t [] (gnd p s B) 0 (.int .i64 0) [] (gnd p s B) 0:=by
 refine EffW.enter fun Q hQ=>?_
 simp only[gnd,List.nil_append,Nat.add_zero];refine zQV 29 [.tmp 2] Tryz.func162 ?_
 repeat' (first|refine zQQ 270349 ?_|refine zQW ?_|(refine stp ?_;simp only[go_sem,ho])|(refine EffW.at (off_c B G s hnl hb ) [] rfl (by (simp;done)) ?_;(try simp only[go_sem]))|fail)
 (refine zQN hQ [] ?_ ?_ ?_<;>(simp))
theorem xZY (G:List Gl) (s:Gs) [Big t] [h:StL p B t] (hb:p.nl≤1000000) (hnl:0<p.nl) (ho:s.over=false) (a n:Nat) (han:a+n≤64*p.nl):EffW G Tryz.prog 134 [.ptr (some ⟨2,0⟩),.int .i64 a,.int .i64 n] t [] (gnd p s B) 0 (.tuple [.slice (some ⟨t,0⟩) n n,.int .i64 0]) [(t,.cells (zQZ (ovl s.put a n)) 5 0 true 0)] (gnd p s B) 1:=by
 have hr0:zQZ (zU n)=zQZ (rowZ s.put a n 0):=by simp[rowZ,ovl]
 refine EffW.enter fun Q hQ=>?_
 simp only[gnd,List.nil_append,Nat.add_zero];refine zQV 57 [.tmp 6,.tmp 7] Tryz.func134 ?_
 repeat' (first|refine zQQ 281535106400199 ?_|refine zQW ?_|(refine stp ?_;simp only[go_sem])|(refine EffW.at (begun_c B G s hb hnl ho ) [] rfl (by (simp;done)) ?_;(try simp only[go_sem]))|(refine EffW.at (pload_c B G s hb hnl a n han ) [] rfl (by (simp;done)) ?_;(try simp only[go_sem]))|fail)
 refine zWK (fun z:Nat=>[(0,.ptr (some ⟨2,0⟩)),(1,.int .i64 a),(9,.slice (some ⟨t,0⟩) n n),(10,.int .i64 0),(33,.int .i64 n),(34,.int .i64 z)]) (fun z:Nat=>(t,.cells (zQZ (rowZ s.put a n z)) 5 0 true 0)::stB (zXG p s) B) (fun z:Nat=>t+1) (fun z:Nat=>z≤n) (fun z:Nat=>n - z) (0) (fun z hz=>⟨by simp[zWP],by simp,by omega⟩) (by omega) (by simp only[go_sem,zQS];done) (by (try simp only[go_sem,zWG]);((repeat' apply And.intro)<;>(rfl))) ?_;intro z hz
 rcases Nat.lt_or_ge z n with hzn | hzn
 ·have e1:(a:Int)+z=((a+z:Nat):Int):=by omega
  have e2:=xZB s.put a n z hz
  cases hq:yKG s.put (a+z) with
  | none=>
    have e3:=zBJ (a+z) s.put;rw[hq] at e3
    have e4:=rowZ_same s.put a n z hzn (by simp[zDY,hq])
    repeat' (first|refine zQQ 281535106400199 ?_|refine zQW ?_|(refine stp ?_;simp only[go_sem,e1])|((refine zXN ?_;unfold zGR);simp only[go_sem,yJN])|(simp only[go_sem,e3,Option.map_none])|(simp (disch:=omega) only[zQK])|(refine spl (fun h=>?_) (fun h=>?_)<;>first|omega|try simp only[go_sem,h])|fail)
    (refine ⟨(z+1),?_,?_,rfl,rfl,?_,?_⟩;rotate_left;(focus (simp only[];omega));(focus ((try simp only[go_sem,zQS]);((repeat' apply And.intro)<;>(rfl))));(focus (simp only[go_sem,zWG,e4]));(try simp only[]))
    omega
  | some q=>
    obtain ⟨j,b⟩:=q;have e3:=zBJ (a+z) s.put;rw[hq] at e3
    have e4:=rowZ_put s.put a n z hzn b (by simp[zDY,hq])
    repeat' (first|refine zQQ 281535106400199 ?_|refine zQW ?_|(refine stp ?_;simp only[go_sem,e1,zQY,e2,e4])|((refine zXN ?_;unfold zGR);simp only[go_sem,yJN])|(simp only[go_sem,e3,Option.map_some,xXV])|(simp (disch:=omega) only[zQK])|(refine spl (fun h=>?_) (fun h=>?_)<;>first|omega|try simp only[go_sem,h])|(refine zQT ?_ ?_;focus omega))
    (refine ⟨(z+1),?_,?_,rfl,rfl,?_,?_⟩;rotate_left;(focus (simp only[];omega));(focus ((try simp only[go_sem,zQS]);((repeat' apply And.intro)<;>(rfl))));(focus (simp only[go_sem,zWG]));(try simp only[]))
    omega
 ·obtain rfl:z=n:=by omega
  have e1:rowZ s.put a z z=ovl s.put a z:=by simp[rowZ,xZX]
  repeat' (first|refine zQQ 281535106400199 ?_|(refine stp ?_;simp only[go_sem,e1])|(refine spl (fun h=>?_) (fun h=>?_)<;>first|omega|try simp only[go_sem,h])|fail)
  (refine zQN hQ [t] ?_ ?_ ?_<;>(simp))
end
section
variable {p:Gp} (B:List (Nat × EO)) {t:Nat}
theorem putE_puE (l:List (Nat × UInt8)) (x:Nat) (b:UInt8):putE (.int .i64 x) (.agg [.int .u8 b.toNat,.bool true]) (zRP (.int .i64 x) (puE l)) (puE l)=puE (insP l x b):=by
 rw[zBJ];unfold insP
 cases h:yKG l x with
 | none=>exact puE_snoc l x b
 | some y=>exact yGY b l y.1
theorem insAll_nil (l:List (Nat × UInt8)) (a:Nat):zYZ l a []=l:=rfl
attribute [go_sem] insAll_nil
theorem lay_c (G:List Gl) (s:Gs) [Big t] [h:StL p B t] (hb:p.nl≤1000000) (hnl:0<p.nl) (ho:s.over=false) (a cp z0 f:Nat) (w:Bool) (d R:List UInt8) (han:a+d.length≤64*p.nl):EffW G Tryz.prog 201 [.ptr (some ⟨2,0⟩),.int .i64 a,.slice (some ⟨t,0⟩) d.length cp,.bool true] t [(t,.cells (zQZ d++zQZ R) 5 z0 w f)] (gnd p s B) 1 (.int .i64 0) [(t,.cells (zQZ d++zQZ R) 5 z0 w f)] (gnd p { s with put:=zYZ s.put a d } B) 1:=by
 obtain ⟨put,taken,least,over⟩:=s;have hr1:d.take d.length=d:=List.take_length;refine EffW.enter fun Q hQ=>?_
 simp only[gnd,List.nil_append,List.cons_append];refine zQV 76 [.tmp 8] Tryz.func201 ?_
 repeat' (first|refine zQQ 4611822357869526799 ?_|refine zQW ?_|(refine stp ?_;simp only[go_sem])|(refine EffW.at (begun_c B G ⟨put,taken,least,over⟩ hb hnl ho ) [] rfl (by (simp;done)) ?_;(try simp only[go_sem]))|(refine EffW.at (size_c B G ⟨put,taken,least,over⟩ hnl hb ) [] rfl (by (simp;done)) ?_;(try simp only[go_sem]))|(simp (disch:=omega) only[zQK])|(refine spl (fun h=>?_) (fun h=>?_)<;>first|omega|((try simp only[zZQ]);(try simp only[go_sem,h])))|fail)
 refine zWK (fun z:Nat=>[(0,.ptr (some ⟨2,0⟩)),(1,.int .i64 a),(3,.bool true),(43,.slice (some ⟨t,0⟩) d.length cp),(44,.int .i64 d.length),(45,.int .i64 z)]) (fun z:Nat=>(t,.cells (zQZ d++zQZ R) 5 z0 w f)::stB (zXG p ⟨zYZ put a (d.take z),taken,least,over⟩) B) (fun z:Nat=>t+1) (fun z:Nat=>z≤d.length) (fun z:Nat=>d.length - z) (0) (fun z hz=>⟨by simp[zWP],by simp,by exact Nat.le_refl _⟩) (by omega) (by simp only[go_sem,zQS];done) (by simp only[go_sem,zWG];done) ?_;intro z hz
 rcases Nat.lt_or_ge z d.length with hzn | hzn
 ·have e1:(a:Int)+z=((a+z:Nat):Int):=by omega
  have e2:=xVG d put a z hzn;have e4:(zQZ d++zQZ R)[z]? = some (.int .u8 (d.getD z 0).toNat):=by
   rw[List.getElem?_append_left (by rw[zQY];omega),zTB d z hzn]
  have e5:=putE_puE (zYZ put a (d.take z)) (a+z) (d.getD z 0);rw[← e2] at e5
  have e6:setL (stB (zXG p ⟨zYZ put a (d.take z),taken,least,over⟩) B) 3 (.map (puE (zYZ put a (d.take (z+1)))))=stB (zXG p ⟨zYZ put a (d.take (z+1)),taken,least,over⟩) B:=gnd_put (p:=p) (s:=⟨zYZ put a (d.take z),taken,least,over⟩) (B:=B) (zYZ put a (d.take (z+1)))
  cases hq:yKG (zYZ put a (d.take z)) (a+z) with
  | none=>
    have e3:=zBJ (a+z) (zYZ put a (d.take z));rw[hq] at e3
    rw[e3,Option.map_none] at e5
    repeat' (first|refine zQQ 4611822357869526799 ?_|refine zQW ?_|(refine stp ?_;simp only[go_sem,e1,e4])|(refine zWV (id:=14) mixed [(0,[]),(1,[]),(2,[]),(4,[]),(5,[]),(6,[]),(3,[]),(7,[]),(8,[])] (by kernel_rfl) ?_;simp only[go_sem,e1])|((first|(refine zJT ?_;unfold zTQ)|(refine zXN ?_;unfold zGR));simp only[go_sem,yJN])|(simp only[go_sem,e3,e5,e6,Option.map_none])|(simp (disch:=omega) only[zQK])|(refine spl (fun h=>?_) (fun h=>?_)<;>first|omega|try simp only[go_sem,h])|(refine zQT ?_ ?_;focus omega))
    (refine ⟨(z+1),?_,?_,rfl,rfl,?_,?_⟩;rotate_left;(focus (simp only[];omega));(focus ((try simp only[go_sem,zQS]);((repeat' apply And.intro)<;>(rfl))));(focus (simp only[go_sem,zWG]));(try simp only[]))
    omega
  | some q=>
    obtain ⟨j,b⟩:=q;have e3:=zBJ (a+z) (zYZ put a (d.take z));rw[hq] at e3
    rw[e3,Option.map_some] at e5
    simp only[xXV] at e5
    repeat' (first|refine zQQ 4611822357869526799 ?_|refine zQW ?_|(refine stp ?_;simp only[go_sem,e1,e4])|(refine zWV (id:=14) mixed [(0,[]),(1,[]),(2,[]),(4,[]),(5,[]),(6,[]),(3,[]),(7,[]),(8,[])] (by kernel_rfl) ?_;simp only[go_sem,e1])|((first|(refine zJT ?_;unfold zTQ)|(refine zXN ?_;unfold zGR));simp only[go_sem,yJN])|(simp only[go_sem,e3,e5,e6,Option.map_some,xXV])|(simp (disch:=omega) only[zQK])|(refine spl (fun h=>?_) (fun h=>?_)<;>first|omega|try simp only[go_sem,h])|(refine zQT ?_ ?_;focus omega))
    (refine ⟨(z+1),?_,?_,rfl,rfl,?_,?_⟩;rotate_left;(focus (simp only[];omega));(focus ((try simp only[go_sem,zQS]);((repeat' apply And.intro)<;>(rfl))));(focus (simp only[go_sem,zWG]));(try simp only[]))
    omega
 ·obtain rfl:z=d.length:=by omega
  repeat' (first|refine zQQ 4611822357869526799 ?_|(refine stp ?_;simp only[go_sem,hr1])|(refine spl (fun h=>?_) (fun h=>?_)<;>first|omega|try simp only[go_sem,h])|fail)
  (refine zQN hQ [] ?_ ?_ ?_<;>(simp))
end
section
theorem zFZ (l:List Nat):((tkE l).all fun x=>Go.E.keyOf (UT.int .i64) x.1)=true:=by simp[tkE,Go.E.keyOf]
theorem yRR (b:Nat):∀ l:List Nat,zRP (.int .i64 b) (tkE l)=if b∈l then some (l.idxOf b,.bool true) else none
 | []=>rfl
 | k::r=>by
   have ih:=yRR b r;simp only[tkE,List.map_cons,zRP,yYG] at ih ⊢
   by_cases h:b=k
   ·subst h;simp
   ·rw[show decide ((b:Int)=(k:Int))=false by simp;omega];simp only[ih,List.mem_cons,h,false_or]
    by_cases h2:b∈r
    ·rw[if_pos h2,if_pos h2,List.idxOf_cons,show (k == b)=false by simp;omega];rfl
    ·rw[if_neg h2,if_neg h2];rfl
theorem zGX {b:Nat} {l:List Nat} (h:b∈l):zRP (.int .i64 b) (tkE l)=some (l.idxOf b,.bool true):=by rw[yRR,if_pos h]
theorem findE_no {b:Nat} {l:List Nat} (h:b ∉ l):zRP (.int .i64 b) (tkE l)=none:=by rw[yRR,if_neg h]
theorem putE_tkE {b:Nat} {l:List Nat} (h:b ∉ l):putE (.int .i64 b) (.bool true) none (tkE l)=tkE (l++[b]):=by simp[putE,tkE]
theorem yKT {α β:Type} (f:α→β):∀ (l:List α) (j:Nat),(l.eraseIdx j).map f=(l.map f).eraseIdx j
 | [],_=>rfl
 | _::_,0=>rfl
 | x::r,j+1=>by simp[yKT f r j]
theorem xRD {b:Nat} {l:List Nat} (h:b∈l):delE (.int .i64 b) (tkE l)=tkE (l.erase b):=by
 unfold delE;rw[zGX h];simp only[tkE];rw[List.erase_eq_eraseIdx_of_idxOf rfl];exact (yKT _ _ _).symm
theorem delE_tkE' {b:Nat} {l:List Nat} (h:b∈l):(match some (l.idxOf b,EV.bool true) with
 | some (j,_)=>(tkE l).eraseIdx j
 | none=>tkE l)=tkE (l.erase b):=by
 have:=xRD h;unfold delE at this
 rwa [zGX h] at this
variable {p:Gp} (B:List (Nat × EO)) {t:Nat}
theorem there_w (G:List Gl) (s:Gs) [Big t] [h:StL p B t]:EffW G Tryz.prog 161 [.ptr (some ⟨0,0⟩)] t [] (gnd p s B) 0 (.bool true) [] (gnd p s B) 0:=by
 refine EffW.enter fun Q hQ=>?_
 simp only[gnd,List.nil_append,Nat.add_zero];refine zQV 12 [.tmp 2] Tryz.func161 ?_
 repeat' (first|refine zQQ 5 ?_|(refine stp ?_;simp only[go_sem])|fail)
 (refine zQN hQ [] ?_ ?_ ?_<;>(simp))
theorem seen_w (G:List Gl) (s:Gs) [Big t] [h:StL p B t]:EffW G Tryz.prog 135 [.ptr (some ⟨0,0⟩),.int .i64 0] t [] (gnd p s B) 0 (.int .i64 0) [] (gnd p s B) 0:=by
 refine EffW.enter fun Q hQ=>?_
 simp only[gnd,List.nil_append,Nat.add_zero];refine zQV 10 [.tmp 4] Tryz.func135 ?_
 repeat' (first|refine zQQ 83 ?_|(refine stp ?_;simp only[go_sem])|fail)
 (refine zQN hQ [] ?_ ?_ ?_<;>(simp))
theorem yFP (G:List Gl) (s:Gs) [Big t] [h:StL p B t] (hb:p.nl≤1000000) (hnl:0<p.nl) (ho:s.over=false):EffW G Tryz.prog 133 [.ptr (some ⟨0,0⟩)] t [] (gnd p s B) 0 (.int .i64 0) [] (gnd p s B) 0:=by
 have hl:=xZY B G s hb hnl ho 0 0 (by omega);rw[show ((0:Nat):Int)=0 from rfl] at hl
 refine EffW.enter fun Q hQ=>?_
 simp only[gnd,List.nil_append,Nat.add_zero];refine zQV 23 [.tmp 2] Tryz.func133 ?_
 repeat' (first|refine zQQ 2197 ?_|(refine stp ?_;simp only[go_sem,ho])|(refine EffW.at (there_w (p:=p) B G s ) [] rfl (by (simp;done)) ?_;(try simp only[go_sem]))|(refine EffW.at (seen_w (p:=p) B G s ) [] rfl (by (simp;done)) ?_;(try simp only[go_sem]))|(refine EffW.at (hl ) [] rfl (by (simp;done)) ?_;(try simp only[go_sem]))|fail)
 (refine zQN hQ [] ?_ ?_ ?_<;>(simp))
theorem use_c (G:List Gl) (s:Gs) [Big t] [h:StL p B t] (hb:p.nl≤1000000) (hnl:0<p.nl) (ho:s.over=false) (b:Nat) (hu:b∈s.taken):EffW G Tryz.prog 168 [.ptr (some ⟨0,0⟩),.int .i64 b] t [] (gnd p s B) 0 (.int .i64 0) [] (gnd p s B) 0:=by
 have e1:=zGX hu;refine EffW.enter fun Q hQ=>?_
 simp only[gnd,List.nil_append,Nat.add_zero];refine zQV 55 [.tmp 4] Tryz.func168 ?_
 repeat' (first|refine zQQ 18014398509517491 ?_|(refine stp ?_;simp only[go_sem])|(refine EffW.at (yFP B G s hb hnl ho ) [] rfl (by (simp;done)) ?_;(try simp only[go_sem]))|((refine zXN ?_;unfold zGR);simp only[go_sem,e1,zFZ])|fail)
 (refine zQN hQ [] ?_ ?_ ?_<;>(simp))
theorem place_c (G:List Gl) (s:Gs) [Big t] [h:StL p B t] (hp:p.ok) (b:Nat) (hbn:b<p.n):EffW G Tryz.prog 169 [.ptr (some ⟨1,0⟩),.int .i64 b] t [] (gnd p s B) 0 (.int .i64 (p.at_+256*b:Nat)) [] (gnd p s B) 0:=by
 have h1:=hp.big;have h2:=hp.fit;refine EffW.enter fun Q hQ=>?_
 simp only[gnd,List.nil_append,Nat.add_zero];refine zQV 12 [.tmp 4] Tryz.func169 ?_
 repeat' (first|refine zQQ 19 ?_|(refine stp ?_;simp only[go_sem])|(simp (disch:=omega) only[zQK])|fail)
 rw[show (p.at_:Int)+256*(b:Int)=((p.at_+256*b:Nat):Int) by omega]
 (refine zQN hQ [] ?_ ?_ ?_<;>(simp))
theorem xYD (G:List Gl) (s:Gs) [Big t] [h:StL p B t] (hp:p.ok) (ho:s.over=false) (b:Nat) (hbn:b<p.n) (hu:b∈s.taken):EffW G Tryz.prog 139 [.ptr (some ⟨0,0⟩),.int .i64 b] t [] (gnd p s B) 0 (.tuple [.slice (some ⟨t,0⟩) 256 256,.int .i64 0]) [(t,.cells (zQZ (ovl s.put (p.at_+256*b) 256)) 5 0 true 0)] (gnd p s B) 1:=by
 have h1:=hp.big;have h2:=hp.fit;have hb:p.nl≤1000000:=by omega
 have hl:=xZY B G s hb (by omega) ho (p.at_+256*b) 256 (by omega);have hu':=use_c B G s hb (by omega) ho b hu;refine EffW.enter fun Q hQ=>?_
 simp only[gnd,List.nil_append,Nat.add_zero];refine zQV 33 [.tmp 4,.tmp 5] Tryz.func139 ?_
 repeat' (first|refine zQQ 8691 ?_|(refine stp ?_;simp only[go_sem])|(refine zWV (id:=4) mixed [(0,[]),(1,[]),(2,[]),(4,[]),(5,[]),(6,[]),(8,[]),(3,[]),(7,[]),(9,[3]),(10,[]),(11,[]),(12,[]),(13,[]),(14,[]),(15,[])] (by kernel_rfl) ?_;simp only[go_sem])|(refine EffW.at (hu' ) [] rfl (by (simp;done)) ?_;(try simp only[go_sem]))|(refine EffW.at (hl ) [] rfl (by (simp;done)) ?_;(try simp only[go_sem]))|(refine EffW.at (place_c B G s hp b hbn ) [] rfl (by (simp;done)) ?_;(try simp only[go_sem]))|(refine EffW.at (seen_w (p:=p) B G s ) [] rfl (by (simp;done)) ?_;(try simp only[go_sem]))|fail)
 (refine zQN hQ [t+16] ?_ ?_ ?_<;>(simp))
theorem fresh_c (G:List Gl) (s:Gs) [Big t] [h:StL p B t] (hb:p.nl≤1000000) (hnl:0<p.nl) (ho:s.over=false) (a cp z0 f:Nat) (w:Bool) (d R:List UInt8) (han:a+d.length≤64*p.nl):EffW G Tryz.prog 180 [.ptr (some ⟨2,0⟩),.int .i64 a,.slice (some ⟨t,0⟩) d.length cp] t [(t,.cells (zQZ d++zQZ R) 5 z0 w f)] (gnd p s B) 1 (.int .i64 0) [(t,.cells (zQZ d++zQZ R) 5 z0 w f)] (gnd p { s with put:=zYZ s.put a d } B) 1:=by
 have hl:=lay_c B G s hb hnl ho a cp z0 f w d R han;refine EffW.enter fun Q hQ=>?_
 simp only[gnd,List.nil_append,List.cons_append];refine zQV 11 [.tmp 6] Tryz.func180 ?_
 repeat' (first|refine zQQ 71 ?_|(refine stp ?_;simp only[go_sem])|(refine EffW.at (hl ) [t] rfl (by (simp;done)) ?_;(try simp only[go_sem]))|fail)
 (refine zQN hQ [] ?_ ?_ ?_<;>(simp))
def wrS (p:Gp) (s:Gs) (b:Nat) (d:List UInt8):Gs:={ s with put:=zYZ s.put (p.at_+256*b) d }
theorem write_c (G:List Gl) (s:Gs) [Big t] [h:StL p B t] (hp:p.ok) (ho:s.over=false) (b:Nat) (hbn:b<p.n) (hu:b∈s.taken) (cp z0 f:Nat) (w:Bool) (d R:List UInt8) (hd:d.length=256):EffW G Tryz.prog 151 [.ptr (some ⟨0,0⟩),.int .i64 b,.slice (some ⟨t,0⟩) 256 cp] t [(t,.cells (zQZ d++zQZ R) 5 z0 w f)] (gnd p s B) 1 (.int .i64 0) [(t,.cells (zQZ d++zQZ R) 5 z0 w f)] (gnd p (wrS p s b d) B) 1:=by
 have h1:=hp.big;have h2:=hp.fit;have hb:p.nl≤1000000:=by omega
 have hl:=fresh_c B G s hb (by omega) ho (p.at_+256*b) cp z0 f w d R (by omega);rw[hd] at hl
 have hu':=use_c B G s hb (by omega) ho b hu;have e1:=zGX hu;refine EffW.enter fun Q hQ=>?_
 simp only[gnd,List.nil_append,List.cons_append];refine zQV 45 [.tmp 6] Tryz.func151 ?_
 repeat' (first|refine zQQ 268575175 ?_|(refine stp ?_;simp only[go_sem])|(refine EffW.at (hu' ) [] rfl (by (simp;done)) ?_;(try simp only[go_sem]))|(refine EffW.at (hl ) [t] rfl (by (simp;done)) ?_;(try simp only[go_sem]))|(refine EffW.at (place_c B G s hp b hbn ) [] rfl (by (simp;done)) ?_;(try simp only[go_sem]))|(refine EffW.at (seen_w B (p:=p) G _ ) [] rfl (by (simp;done)) ?_;(try simp only[go_sem]))|((refine zXN ?_;unfold zGR);simp only[go_sem,e1,zFZ])|fail)
 (refine zQN hQ [] ?_ ?_ ?_<;>(simp))
end
section
attribute [go_sem] List.headD_cons List.headD_nil
variable {p:Gp} (B:List (Nat × EO)) {t:Nat}
theorem take_yes (G:List Gl) (s:Gs) [Big t] [h:StL p B t] (hp:p.ok) (ho:s.over=false) (b:Nat) (hbn:b<p.n) (hle:s.least≤b) (hno:b ∉ s.taken) (hall:∀ c,s.least≤c→c<b→c∈s.taken):EffW G Tryz.prog 148 [.ptr (some ⟨0,0⟩)] t [] (gnd p s B) 0 (.tuple [.int .i64 b,.int .i64 0]) [] (gnd p { s with taken:=s.taken++[b],least:=b+1 } B) 0:=by
 have h1:=hp.big;have h2:=hp.fit;have hb:p.nl≤1000000:=by omega
 refine EffW.enter fun Q hQ=>?_
 simp only[gnd,List.nil_append,Nat.add_zero];refine zQV 62 [.tmp 2,.tmp 3] Tryz.func148 ?_
 repeat' (first|refine zQQ 1125899940399293 ?_|refine zQW ?_|(refine stp ?_;simp only[go_sem])|(refine EffW.at (yFP B G s hb (by omega) ho ) [] rfl (by (simp;done)) ?_;(try simp only[go_sem]))|fail)
 refine zWK (fun z:Nat=>[(0,.ptr (some ⟨0,0⟩)),(5,.int .i64 z)]) (fun z:Nat=>stB (zXG p s) B) (fun z:Nat=>t) (fun z:Nat=>s.least≤z∧z≤b) (fun z:Nat=>b - z) (s.least) (fun z hz=>⟨by simp[zWP],by simp,by exact Nat.le_refl _⟩) (by omega) (by simp only[go_sem,zQS];done) (by simp only[go_sem];done) ?_
 rintro z ⟨hz,hz2⟩
 rcases Nat.lt_or_ge z b with hzb | hzb
 ·have e1:=zGX (hall z hz hzb)
  repeat' (first|refine zQQ 1125899940399293 ?_|refine zQW ?_|(refine stp ?_;simp only[go_sem])|((refine zXN ?_;unfold zGR);simp only[go_sem,e1,zFZ])|(simp (disch:=omega) only[zQK])|(refine spl (fun h=>?_) (fun h=>?_)<;>first|omega|try simp only[go_sem,h])|fail)
  all_goals (refine ⟨(z+1),?_,?_,rfl,rfl,?_,?_⟩;rotate_left;(focus (simp only[];omega));(focus ((try simp only[go_sem,zQS]);((repeat' apply And.intro)<;>(rfl))));(focus (simp only[go_sem]));(try simp only[]))
  omega
 ·obtain rfl:z=b:=by omega
  have e1:=findE_no hno;have e2:=putE_tkE hno;have e3:setL (stB (zXG p s) B) 9 (.map (tkE (s.taken++[z])))=stB (zXG p { s with taken:=s.taken++[z] }) B:=xQH _;have e4:setL (stB (zXG p { s with taken:=s.taken++[z] }) B) 0 (.cells [.ptr (some ⟨1,0⟩),.ptr (some ⟨2,0⟩),.map (some 9),.map (some 10),.int .i64 ((z:Int)+1),.bool s.over] 179 0 true 0)=stB (zXG p { s with taken:=s.taken++[z],least:=z+1 }) B:=xQB (s:={ s with taken:=s.taken++[z] }) (z+1)
  repeat' (first|refine zQQ 1125899940399293 ?_|refine zQW ?_|(refine stp ?_;simp only[go_sem])|((first|(refine zJT ?_;unfold zTQ)|(refine zXN ?_;unfold zGR));simp only[go_sem,e1,e2,e3,zFZ])|(simp only[go_sem,e4])|(simp (disch:=omega) only[zQK])|(refine spl (fun h=>?_) (fun h=>?_)<;>first|omega|try simp only[go_sem,h])|fail)
  all_goals (refine zQN hQ [] ?_ ?_ ?_<;>(simp))
theorem take_no (G:List Gl) (s:Gs) [Big t] [h:StL p B t] (hp:p.ok) (ho:s.over=false) (hnl:0<p.nl) (hle:s.least≤p.n) (hall:∀ c,s.least≤c→c<p.n→c∈s.taken):EffW G Tryz.prog 148 [.ptr (some ⟨0,0⟩)] t [] (gnd p s B) 0 (.tuple [.int .i64 0,.int .i64 7]) [] (gnd p s B) 0:=by
 have h1:=hp.big;have h2:=hp.fit;have hb:p.nl≤1000000:=by omega
 refine EffW.enter fun Q hQ=>?_
 simp only[gnd,List.nil_append,Nat.add_zero];refine zQV 62 [.tmp 2,.tmp 3] Tryz.func148 ?_
 repeat' (first|refine zQQ 1125899940399293 ?_|refine zQW ?_|(refine stp ?_;simp only[go_sem])|(refine EffW.at (yFP B G s hb (by omega) ho ) [] rfl (by (simp;done)) ?_;(try simp only[go_sem]))|fail)
 refine zWK (fun z:Nat=>[(0,.ptr (some ⟨0,0⟩)),(5,.int .i64 z)]) (fun z:Nat=>stB (zXG p s) B) (fun z:Nat=>t) (fun z:Nat=>s.least≤z∧z≤p.n) (fun z:Nat=>p.n - z) (s.least) (fun z hz=>⟨by simp[zWP],by simp,by exact Nat.le_refl _⟩) (by omega) (by simp only[go_sem,zQS];done) (by simp only[go_sem];done) ?_
 rintro z ⟨hz,hz2⟩
 rcases Nat.lt_or_ge z p.n with hzb | hzb
 ·have e1:=zGX (hall z hz hzb)
  repeat' (first|refine zQQ 1125899940399293 ?_|refine zQW ?_|(refine stp ?_;simp only[go_sem])|((refine zXN ?_;unfold zGR);simp only[go_sem,e1,zFZ])|(simp (disch:=omega) only[zQK])|(refine spl (fun h=>?_) (fun h=>?_)<;>first|omega|try simp only[go_sem,h])|fail)
  all_goals (refine ⟨(z+1),?_,?_,rfl,rfl,?_,?_⟩;rotate_left;(focus (simp only[];omega));(focus ((try simp only[go_sem,zQS]);((repeat' apply And.intro)<;>(rfl))));(focus (simp only[go_sem]));(try simp only[]))
  omega
 ·obtain rfl:z=p.n:=by omega
  repeat' (first|refine zQQ 1125899940399293 ?_|(refine stp ?_;simp only[go_sem])|(refine spl (fun h=>?_) (fun h=>?_)<;>first|omega|try simp only[go_sem,h])|fail)
  all_goals (refine zQN hQ [] ?_ ?_ ?_<;>(simp))
theorem give_c (G:List Gl) (s:Gs) [Big t] [h:StL p B t] (hp:p.ok) (ho:s.over=false) (hnl:0<p.nl) (b:Nat) (hu:b∈s.taken):EffW G Tryz.prog 149 [.ptr (some ⟨0,0⟩),.int .i64 b] t [] (gnd p s B) 0 (.int .i64 0) [] (gnd p { s with taken:=s.taken.erase b,least:=min s.least b } B) 0:=by
 have h1:=hp.big;have hu':=use_c B G s (by omega) hnl ho b hu;have e1:=zGX hu;have e2:=delE_tkE' hu;have e2':=xRD hu;have e3:setL (stB (zXG p s) B) 9 (.map (tkE (s.taken.erase b)))=stB (zXG p { s with taken:=s.taken.erase b }) B:=xQH _;have e4:setL (stB (zXG p { s with taken:=s.taken.erase b }) B) 0 (.cells [.ptr (some ⟨1,0⟩),.ptr (some ⟨2,0⟩),.map (some 9),.map (some 10),.int .i64 (min (s.least:Int) b),.bool s.over] 179 0 true 0)=stB (zXG p { s with taken:=s.taken.erase b,least:=min s.least b }) B:=by
  rw[show min (s.least:Int) b=((min s.least b:Nat):Int) by omega];exact xQB (s:={ s with taken:=s.taken.erase b }) (min s.least b)
 refine EffW.enter fun Q hQ=>?_
 simp only[gnd,List.nil_append,Nat.add_zero];refine zQV 37 [.tmp 4] Tryz.func149 ?_
 repeat' (first|refine zQQ 132147 ?_|(refine stp ?_;simp only[go_sem,e4])|(refine EffW.at (hu' ) [] rfl (by (simp;done)) ?_;(try simp only[go_sem]))|((first|(refine eop_delete ?_;unfold xKH)|(refine zXN ?_;unfold zGR));simp only[go_sem,e1,e2',e3,zFZ])|fail)
 all_goals (refine zQN hQ [] ?_ ?_ ?_<;>(simp))
theorem blocks_c (G:List Gl) (s:Gs) [Big t] [h:StL p B t]:EffW G Tryz.prog 165 [.ptr (some ⟨0,0⟩)] t [] (gnd p s B) 0 (.int .i64 p.n) [] (gnd p s B) 0:=by
 refine EffW.enter fun Q hQ=>?_
 simp only[gnd,List.nil_append,Nat.add_zero];refine zQV 13 [.tmp 2] Tryz.func165 ?_
 repeat' (first|refine zQQ 37 ?_|(refine stp ?_;simp only[go_sem])|(refine EffW.at (there_w (p:=p) B G s ) [] rfl (by (simp;done)) ?_;(try simp only[go_sem]))|fail)
 (refine zQN hQ [] ?_ ?_ ?_<;>(simp))
theorem root_c (G:List Gl) (s:Gs) [Big t] [h:StL p B t] (hp:p.ok) (ho:s.over=false) (hr:ovl s.put 64 8=zU 8):EffW G Tryz.prog 108 [.ptr (some ⟨0,0⟩)] t [] (gnd p s B) 0 (.tuple [.int .u64 0,.int .i64 0]) [] (gnd p s B) 0:=by
 have h1:=hp.big;have h2:=hp.fit;have h3:=hp.at0;have hl:=xZY (p:=p) B G s (by omega) (by omega) ho 64 8 (by omega);rw[show ((64:Nat):Int)=64 from rfl,show ((8:Nat):Int)=8 from rfl,hr] at hl
 refine EffW.enter fun Q hQ=>?_
 simp only[gnd,List.nil_append,Nat.add_zero];refine zQV 44 [.tmp 2,.tmp 3] Tryz.func108 ?_
 repeat' (first|refine zQQ 4043318269 ?_|refine zQW ?_|(refine stp ?_;simp only[go_sem])|(refine EffW.at (yFP (p:=p) B G s (by omega) (by omega) ho ) [] rfl (by (simp;done)) ?_;(try simp only[go_sem]))|(refine EffW.at (hl ) [] rfl (by (simp;done)) ?_;(try simp only[go_sem]))|fail)
 refine zWK (fun z:Nat=>[(7,.int .u64 0),(28,.slice (some ⟨t,0⟩) 8 8),(29,.int .i64 8),(30,.int .i64 z)]) (fun z:Nat=>(t,.cells (zQZ (zU 8)) 5 0 true 0)::stB (zXG p s) B) (fun z:Nat=>t+1) (fun z:Nat=>z≤8) (fun z:Nat=>8 - z) (0) (fun z hz=>⟨by simp[zWP],by simp,by omega⟩) (by omega) (by simp only[go_sem,zQS];done) (by simp only[go_sem,zWG];done) ?_;intro z hz
 rcases Nat.lt_or_ge z 8 with hz8 | hz8
 ·have e1:(zQZ (zU 8))[z]? = some (.int .u8 0):=by
   rw[show zQZ (zU 8)=List.replicate 8 (.int .u8 0) from rfl,List.getElem?_replicate,if_pos hz8]
  have e2:shlI .u64 0 (8*(z:Int))=0:=by
   rw[shlI_mul (by simp[IntKind.bits];omega)];simp[IntKind.wrap_u64]
  have e3:orI .u64 0 0=0:=by decide
  repeat' (first|refine zQQ 4043318269 ?_|refine zQW ?_|(refine stp ?_;simp only[go_sem,e1])|(simp only[go_sem,e2,e3])|(simp (disch:=omega) only[zQK,zKG])|(refine spl (fun h=>?_) (fun h=>?_)<;>first|omega|try simp only[go_sem,h])|(refine zQT ?_ ?_;focus omega))
  all_goals (refine ⟨(z+1),?_,?_,rfl,rfl,?_,?_⟩;rotate_left;(focus (simp only[];omega));(focus ((try simp only[go_sem,zQS]);((repeat' apply And.intro)<;>(rfl))));(focus (simp only[go_sem,zWG]));(try simp only[]))
  omega
 ·obtain rfl:z=8:=by omega
  repeat' (first|refine zQQ 4043318269 ?_|(refine stp ?_;simp only[go_sem])|fail)
  all_goals (refine zQN hQ [] ?_ ?_ ?_<;>(simp))
end
end Go.Proofs.YtncphnpndkjkaaaGreatDoor
