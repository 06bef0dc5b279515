/-
  Own work: a part of the proof that the last text closes.
-/
import Derived.Test.YtgajmgkhlkghjaaGreatDoorHpc
import Derived.Test.YtgajmgkhlkghjaaGreatDoorHpb
namespace Go.Proofs.YtgajmgkhlkghjaaGreatDoor
open Go.E
set_option linter.all false
set_option maxRecDepth 100000
set_option maxHeartbeats 16000000
variable {p:Gp} (B:List (Nat × EO)) {t:Nat}
def clE:Option (Nat × Nat × Nat)→EV
 | some (a,_,_)=>.tuple [.int .i64 a,.int .i64 0]
 | none=>.tuple [.int .i64 0,.int .i64 6]
theorem cline_c (G:List Gl) (hG:Tabs G) (s:Gs) [Big t] [hS0:StL p B t] (hp:p.ok) (ho:s.over=false) (hr:ovl s.put 64 8=zU 8) (ps:List Ck) (tb:List TP) (hx:TxOK p s ps tb) (n:Nat) (hn:n≤9000000000) :
  EffW G Tryz.prog 24 [.ptr (some ⟨0,0⟩),.int .u32 (refOf tb),.int .i64 n] t [] (gnd p s B) 0 (clE (lnG (flatC ps) 0 0)[n]?) [] (gnd p s B) 0:=by
 have h1:=hp.big;have h2:=hp.fit;have hln:=hx.len;have hsum:=hx.sum;have ht11:11≤t:=hS0.big;refine EffR.drop B ?_ (by unfold clE;split<;>simp[EV.bel,allBelow]);refine EffR.enter fun Q hQ=>?_
 refine ecalls_I 34 [.tmp 6,.tmp 7] Tryz.func24 ?_
 repeat' (first|refine esem_seqK 526279 ?_|(refine stp ?_;simp only[go_sem])|(refine EffR.at (openT_c B G s hp ho hr ps tb hx) ?_)|(simp only[go_sem])|fail)
 rintro v bl nx ⟨B1,v1,rfl,rfl,hS1,he1,htx⟩
 haveI:=hS1;haveI:Big nx:=⟨hS1.big⟩;have h3:=he1.le;have hlen:=tlen_c (p:=p) B1 G s v1 _ ps tb htx hsum (by omega);have hpc:=piece_c (p:=p) B1 G s v1 _ ps tb htx hsum (by omega) (fun x hx'=>(hx.part x hx').pos) 0 (totC ps) (Nat.zero_le _) (Nat.le_refl _);have hfl:=flatC_length ps;rw[List.drop_zero,Nat.sub_zero,List.take_of_length_le (by omega),show ((0:Nat):Int)=0 from rfl] at hpc
 have hll:=lline_c hG (flatC ps) (by omega) n hn;obtain ⟨x,r,v2,rfl,hxa,-⟩:=htx;have hxt:=hxa.lt
 cases hg:(lnG (flatC ps) 0 0)[n]? with
 | none=>
   rw[hg] at hll hQ
   simp only[lineE,clE] at hll hQ
   repeat' (first|refine esem_seqK 526279 ?_|(refine stp ?_;simp only[go_sem])|(refine EffW.at (hlen ) [] rfl (by first|(simp[hxt,namW_lt hxt];done)|fail) ?_;(try simp only[go_sem]))|(refine EffW.at (hpc ) [] rfl (by first|(simp[hxt,namW_lt hxt];done)|fail) ?_;(try simp only[go_sem]))|(refine Pure.at (hll) (by simp) (by simp) rfl ?_;(try simp only[go_sem]))|fail)
   have hT:11≤nx:=hS1.big;have hxx:=StL.above (p:=p) (B:=B1) (t:=nx) (t':=nx+1) (X:=[(nx,.cells [.int .i64 0,.int .i64 0] 63 0 true 0)]) (by omega) (by simp) (by simp[keysOK,lkp]) (by simp);simp only[List.cons_append,List.nil_append] at hxx
   haveI:=hxx.1;have e:stB (objs p s) ((nx,.cells [.int .i64 0,.int .i64 0] 63 0 true 0)::B1)=(nx,.cells [.int .i64 0,.int .i64 0] 63 0 true 0)::stB (objs p s) B1:=by
    rw[stB_cons,if_neg (by omega)]
   rw[← e];exact done_R0 hQ (by omega) (Bg.below (t:=nx+1)) (by simp[EV.bel,allBelow]) ⟨rfl,_,rfl,hxx.1,he1.trans hxx.2⟩
 | some q=>
   obtain ⟨a,b,w⟩:=q;rw[hg] at hll hQ
   simp only[lineE,clE] at hll hQ
   repeat' (first|refine esem_seqK 526279 ?_|(refine stp ?_;simp only[go_sem])|(refine EffW.at (hlen ) [] rfl (by first|(simp[hxt,namW_lt hxt];done)|fail) ?_;(try simp only[go_sem]))|(refine EffW.at (hpc ) [] rfl (by first|(simp[hxt,namW_lt hxt];done)|fail) ?_;(try simp only[go_sem]))|(refine Pure.at (hll) (by simp) (by simp) rfl ?_;(try simp only[go_sem]))|fail)
   have hT:11≤nx:=hS1.big;have hxx:=StL.above (p:=p) (B:=B1) (t:=nx) (t':=nx+1) (X:=[(nx,.cells [.int .i64 a,.int .i64 b] 63 0 true 0)]) (by omega) (by simp) (by simp[keysOK,lkp]) (by simp);simp only[List.cons_append,List.nil_append] at hxx
   haveI:=hxx.1;have e:stB (objs p s) ((nx,.cells [.int .i64 a,.int .i64 b] 63 0 true 0)::B1)=(nx,.cells [.int .i64 a,.int .i64 b] 63 0 true 0)::stB (objs p s) B1:=by
    rw[stB_cons,if_neg (by omega)]
   rw[← e];exact done_R0 hQ (by omega) (Bg.below (t:=nx+1)) (by simp[EV.bel,allBelow]) ⟨rfl,_,rfl,hxx.1,he1.trans hxx.2⟩
theorem cdeleteD_c (G:List Gl) (s:Gs) [Big t] [hS0:StL p B t] (hp:p.ok) (ho:s.over=false) (hs:GsOK p s) (hr:ovl s.put 64 8=zU 8) (ps:List Ck) (tb:List TP) (hx:TxOK p s ps tb) (a b:Nat) (hab:a≤b) (hb:b≤totC ps) :
  EffR G Tryz.prog 12 [.ptr (some ⟨0,0⟩),.int .u32 (refOf tb),.int .i64 a,.int .i64 b] (gnd p s B) t (fun v bl nx=>∃ s',bl=gnd p s' B∧nx=t∧∃ ps' tb',v=.tuple [.int .u32 (refOf tb'),.int .i64 0]∧EdOK p s (tb.map (·.1)++blkC ps) ((flatC ps).take a++(flatC ps).drop b) s' ps' tb'):=by
 have hl:=nodup_sub_len hs.nd (m:=List.range p.n) fun b hb=>List.mem_range.2 (hs.lt b hb)
 rw[List.length_range] at hl
 have h:=EffR.drop2 (R:=fun v s'=>EdQ p s (tb.map (·.1)++blkC ps) ((flatC ps).take a++(flatC ps).drop b) 0 v s') B (cdelete_c B G s hp ho hs hr ps tb hx a b hab hb) (fun v s' h=>by
  rcases h with ⟨_,_,rfl,-⟩ | ⟨rfl,-⟩<;>simp[EV.bel,allBelow])
 refine EffR.mono h ?_
 rintro v bl nx ⟨s',rfl,rfl,hq⟩
 refine ⟨s',rfl,rfl,?_⟩
 rcases hq with hq | ⟨-,hq⟩
 ·exact hq
 ·omega
end Go.Proofs.YtgajmgkhlkghjaaGreatDoor
