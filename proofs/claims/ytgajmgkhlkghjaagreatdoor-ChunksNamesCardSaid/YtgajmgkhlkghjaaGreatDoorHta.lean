/-
  Own work: a part of the proof that the last text closes.
-/
import Derived.Test.YtgajmgkhlkghjaaGreatDoorHt
import Derived.Test.YtgajmgkhlkghjaaGreatDoorFk
namespace Go.Proofs.YtgajmgkhlkghjaaGreatDoor
open Go.E
set_option linter.all false
set_option maxRecDepth 100000
set_option maxHeartbeats 16000000
theorem there_nil (G:List Gl):E.Pure G Tryz.prog 40 [.ptr none] (.bool false):=by
 refine pure_hid fun V hV=>?_
 refine ecalls_I 12 [.tmp 2] Tryz.func40 ?_
 repeat' (first|refine esem_seqK 5 ?_|(refine stp ?_;simp only[go_sem])|fail)
 (refine done_zero (by simp[EV.bel]) ?_;rw[hV])
theorem begin_nil (G:List Gl):E.Pure G Tryz.prog 101 [.ptr none] (.int .i64 1):=by
 have h:=there_nil G;refine pure_hid fun V hV=>?_
 refine ecalls_I 23 [.tmp 2] Tryz.func101 ?_
 repeat' (first|refine esem_seqK 2197 ?_|(refine stp ?_;simp only[go_sem])|(refine Pure.at (h) (by simp) (by simp) rfl ?_;(try simp only[go_sem]))|fail)
 (refine done_zero (by simp[EV.bel]) ?_;rw[hV])
theorem root_nil (G:List Gl):E.Pure G Tryz.prog 67 [.ptr none] (.tuple [.int .u64 0,.int .i64 1]):=by
 have h:=begin_nil G;refine pure_hid fun V hV=>?_
 refine ecalls_I 44 [.tmp 2,.tmp 3] Tryz.func67 ?_
 repeat' (first|refine esem_seqK 4043318269 ?_|(refine stp ?_;simp only[go_sem])|(refine Pure.at (h) (by simp) (by simp) rfl ?_;(try simp only[go_sem]))|fail)
 (refine done_zero (by simp[EV.bel,allBelow]) ?_;rw[hV])
theorem open_nil (G:List Gl):E.Pure G Tryz.prog 32 [.ptr none,.int .u32 0] (.tuple [.ptr none,.int .i64 1]):=by
 have h:=root_nil G;refine pure_hid fun V hV=>?_
 refine ecalls_I 129 [.tmp 4,.tmp 5] Tryz.func32 ?_
 repeat' (first|refine esem_seqK 83076749775242902939390529556701107 ?_|(refine stp ?_;simp only[go_sem])|(refine Pure.at (h) (by simp) (by simp) rfl ?_;(try simp only[go_sem]))|fail)
 (refine done_zero (by simp[EV.bel,allBelow]) ?_;rw[hV])
theorem sizes_nil (G:List Gl):E.Pure G Tryz.prog 15 [.ptr none,.int .u32 0] (.tuple [.slice none 0 0,.int .i64 1]):=by
 have h:=open_nil G;refine pure_hid fun V hV=>?_
 refine ecalls_I 37 [.tmp 4,.tmp 5] Tryz.func15 ?_
 repeat' (first|refine esem_seqK 126092787 ?_|(refine stp ?_;simp only[go_sem])|(refine Pure.at (h) (by simp) (by simp) rfl ?_;(try simp only[go_sem]))|fail)
 (refine done_zero (by simp[EV.bel,allBelow]) ?_;rw[hV])
theorem drop_nil (G:List Gl):E.Pure G Tryz.prog 17 [.ptr none,.int .u32 0] (.int .i64 1):=by
 have h:=open_nil G;refine pure_hid fun V hV=>?_
 refine ecalls_I 39 [.tmp 4] Tryz.func17 ?_
 repeat' (first|refine esem_seqK 8652981107 ?_|(refine stp ?_;simp only[go_sem])|(refine Pure.at (h) (by simp) (by simp) rfl ?_;(try simp only[go_sem]))|fail)
 (refine done_zero (by simp[EV.bel]) ?_;rw[hV])
abbrev workZ:EO:=.cells [.ptr none,.ptr none,.map none,.map none,.int .i64 0,.bool false] 56 0 true 0
theorem there_0 (G:List Gl):Eff G Tryz.prog 40 [.ptr (some ⟨0,0⟩)] [(0,workZ)] 1 (.bool false) [(0,workZ)] 1:=by
 unfold Eff;refine ecalls_I 12 [.tmp 2] Tryz.func40 ?_
 repeat' (first|refine esem_seqK 5 ?_|(refine stp ?_;simp only[go_sem])|fail)
 exact done_eff [] (by simp) (by simp) (by simp) (by simp) (by simp) (by simp) rfl (by simp) (by simp)
theorem begin_0 (G:List Gl):Eff G Tryz.prog 101 [.ptr (some ⟨0,0⟩)] [(0,workZ)] 1 (.int .i64 1) [(0,workZ)] 1:=by
 unfold Eff;refine ecalls_I 23 [.tmp 2] Tryz.func101 ?_
 repeat' (first|refine esem_seqK 2197 ?_|(refine stp ?_;simp only[go_sem])|(refine Eff.at2 (there_0 G ) [0] rfl (by first|(simp;done)|fail) rfl ?_;(try simp only[go_sem]))|fail)
 exact done_eff [] (by simp) (by simp) (by simp) (by simp) (by simp) (by simp) rfl (by simp) (by simp)
theorem root_0 (G:List Gl):Eff G Tryz.prog 67 [.ptr (some ⟨0,0⟩)] [(0,workZ)] 1 (.tuple [.int .u64 0,.int .i64 1]) [(0,workZ)] 1:=by
 unfold Eff;refine ecalls_I 44 [.tmp 2,.tmp 3] Tryz.func67 ?_
 repeat' (first|refine esem_seqK 4043318269 ?_|(refine stp ?_;simp only[go_sem])|(refine Eff.at2 (begin_0 G ) [0] rfl (by first|(simp;done)|fail) rfl ?_;(try simp only[go_sem]))|fail)
 exact done_eff [] (by simp) (by simp) (by simp) (by simp) (by simp) (by simp) rfl (by simp) (by simp)
theorem open_0 (G:List Gl):Eff G Tryz.prog 32 [.ptr (some ⟨0,0⟩),.int .u32 0] [(0,workZ)] 1 (.tuple [.ptr none,.int .i64 1]) [(0,workZ)] 1:=by
 unfold Eff;refine ecalls_I 129 [.tmp 4,.tmp 5] Tryz.func32 ?_
 repeat' (first|refine esem_seqK 83076749775242902939390529556701107 ?_|(refine stp ?_;simp only[go_sem])|(refine Eff.at2 (root_0 G ) [0] rfl (by first|(simp;done)|fail) rfl ?_;(try simp only[go_sem]))|fail)
 exact done_eff [] (by simp) (by simp) (by simp) (by simp) (by simp) (by simp) rfl (by simp) (by simp)
theorem at_0 (G:List Gl):Eff G Tryz.prog 16 [.ptr (some ⟨0,0⟩),.int .u32 0,.int .i64 0] [(0,workZ)] 1 (.tuple [.int .i64 0,.int .i64 1]) [(0,workZ)] 1:=by
 unfold Eff;refine ecalls_I 27 [.tmp 6,.tmp 7] Tryz.func16 ?_
 repeat' (first|refine esem_seqK 132039 ?_|(refine stp ?_;simp only[go_sem])|(refine Eff.at2 (open_0 G ) [0] rfl (by first|(simp;done)|fail) rfl ?_;(try simp only[go_sem]))|fail)
 exact done_eff [] (by simp) (by simp) (by simp) (by simp) (by simp) (by simp) rfl (by simp) (by simp)
section
variable {p:Gp} (B:List (Nat × EO)) {t:Nat}
theorem delete_range (G:List Gl) (s:Gs) [Big t] [hS0:StL p B t] (hp:p.ok) (ho:s.over=false) (hr:ovl s.put 64 8=zU 8) (ps:List Ck) (tb:List TP) (hx:TxOK p s ps tb) (a b:Nat) (hab:a≤b) (hb:totC ps<b) (hb9:b≤9000000000) :
  EffW G Tryz.prog 12 [.ptr (some ⟨0,0⟩),.int .u32 (refOf tb),.int .i64 a,.int .i64 b] t [] (gnd p s B) 0 (.tuple [.int .u32 0,.int .i64 6]) [] (gnd p s B) 0:=by
 have h1:=hp.big;have h2:=hp.fit;have hln:=hx.len;have hsum:=hx.sum;have ht11:11≤t:=hS0.big;refine EffR.drop B ?_ (by simp[EV.bel,allBelow]);have hab0:=StL.above (p:=p) (B:=B) (t:=t) (t':=t+2) (X:=[(t+1,.cells [.int .i64 b] 3 0 true 0),(t,.cells [.int .i64 a] 3 0 true 0)]) (by omega) (by simp) (by simp[keysOK,lkp]) (by simp);simp only[List.cons_append,List.nil_append] at hab0
 have e0:stB (objs p s) ((t+1,.cells [.int .i64 b] 3 0 true 0)::(t,.cells [.int .i64 a] 3 0 true 0)::B)=(t+1,.cells [.int .i64 b] 3 0 true 0)::(t,.cells [.int .i64 a] 3 0 true 0)::stB (objs p s) B:=by
  rw[stB_cons,if_neg (by omega),stB_cons,if_neg (by omega)]
 have hfa:AtB ((t+1,.cells [.int .i64 b] 3 0 true 0)::(t,.cells [.int .i64 a] 3 0 true 0)::B) (t+2) t (.cells [.int .i64 a] 3 0 true 0):=⟨by omega,by omega,by simp[lkp]⟩;have hto:AtB ((t+1,.cells [.int .i64 b] 3 0 true 0)::(t,.cells [.int .i64 a] 3 0 true 0)::B) (t+2) (t+1) (.cells [.int .i64 b] 3 0 true 0):=⟨by omega,by omega,by simp[lkp]⟩;obtain ⟨T,hT⟩:∃ T,T=t+2:=⟨_,rfl⟩;rw[← hT] at hab0 hfa hto
 generalize hB0:(t+1,EO.cells [.int .i64 b] 3 0 true 0)::(t,EO.cells [.int .i64 a] 3 0 true 0)::B=B0 at hab0 hfa hto e0
 obtain ⟨hS,he0⟩:=hab0;haveI:=hS;haveI:Big T:=⟨hS.big⟩;refine EffR.enter fun Q hQ=>?_
 refine ecalls_I 98 [.tmp 8,.tmp 9] Tryz.func12 ?_
 repeat' (first|(refine esem_holdR 1 ?_)|refine esem_seqK 592602640729503825871 ?_|(refine stp ?_;simp only[go_sem])|fail)
 refine ⟨?_⟩;rw[← e0,← hT]
 repeat' (first|(refine stp ?_;simp only[go_sem])|(refine EffR.at (openT_c B0 G s hp ho hr ps tb hx) ?_)|(simp only[go_sem])|fail)
 rintro v bl nx ⟨B1,v1,rfl,rfl,hS1,he1,htx⟩
 haveI:=hS1;haveI:Big nx:=⟨hS1.big⟩;have h3:=he1.le;have hlen:=tlen_c (p:=p) B1 G s v1 _ ps tb htx hsum (by omega);obtain ⟨x,r,v2,rfl,hxa,-⟩:=htx;have hxt:=hxa.lt;have hFA:=(hfa.mono he1).f (p:=p);have hTO:=(hto.mono he1).f (p:=p)
 repeat' (first|refine esem_seqK 592602640729503825871 ?_|refine esem_block ?_|(refine stp ?_;simp only[go_sem])|(refine drawQ (id:=4) mixed [(0,[]),(1,[]),(2,[]),(3,[]),(4,[]),(5,[]),(6,[]),(7,[]),(9,[]),(8,[]),(10,[8]),(11,[]),(12,[]),(13,[])] (by kernel_rfl) ?_;simp only[go_sem,hFA])|(refine EffW.at (hlen ) [] rfl (by first|(simp[hxt,namW_lt hxt];done)|fail) ?_;(try simp only[go_sem,hTO]))|(refine spl (fun h=>?_) (fun h=>?_)<;>first|omega|((try simp only[stepRun]);(try simp only[go_sem,hFA,hTO,h])))|fail)
 have hup:=StL.up (p:=p) (B:=B1) (T:=nx) (T':=nx+14) (by omega);haveI:=hup.1;exact done_R0 hQ (by omega) (Bg.below (t:=nx+14)) (by simp[EV.bel,allBelow]) ⟨rfl,B1,rfl,hup.1,(he0.trans he1).trans hup.2⟩
end
theorem names_law (G:List Gl) (hG:Tabs G):E.Pure G Tryz.prog 4 [] (.bool true):=by
 have aw:=awake_c G hG;have n1:=sizes_nil G;have n2:=drop_nil G;have n3:=at_0 G;unfold E.Pure;haveI:Bg 0 []:=⟨trivial,trivial⟩;refine ecalls_flat 100 [.tmp 0] Tryz.func4 rfl rfl rfl (by kernel_rfl) (le_ble rfl) trivial ?_
 repeat' (first|refine esem_seqK 562949970373293 ?_|(refine stp ?_;simp only[go_sem])|(refine EffR.at (plain_c [] G 4 (by omega) (by omega)) ?_)|(simp only[go_sem])|fail)
 rintro v B1 nx ⟨d,a,lns,lg,pl,hp,lv,pu,rfl,hB1,hK,hw,hta,hln⟩
 haveI:=hB1
 repeat' (first|(refine esem_holdR 4 ?_)|refine esem_seqK 562949970373293 ?_|(refine stp ?_;simp only[go_sem])|fail)
 refine ⟨?_⟩;refine esem_ground (nb:=4) [] (fun _ h=>absurd h List.not_mem_nil) hw hB1 (by simp) (Nat.zero_le _) (fun _ _=>Nat.zero_le _) [(2,.ptr (some ⟨0,0⟩)),(3,.bool true)] ?_ ?_ ?_
 ·simp only[go_sem,weakL,renF,EV.ren,and_true];rfl
 ·simp[frBel,EV.bel]
 have hS:=bcL_StL (nb:=4) (A:=[]) (fun _ h=>absurd h List.not_mem_nil);generalize bcL (258+4*4) []=B0 at hS ⊢
 generalize 11+(258+4*4)+([]:List EO).length=t at hS ⊢
 haveI:=hS;haveI:Big t:=⟨hS.big⟩;have hp:=pZ_ok (nb:=4) (by omega);have hx:=TxOK.nil (p:=pZ 4) sZ;obtain ⟨n,hn⟩:∃ n:Nat,n=1048577:=⟨_,rfl⟩;have en:(1048577:Int)=(n:Int):=by omega
 have ez:List.take n (bytesE (zU n))=bytesE (zU n):=List.take_of_length_le (by rw[bytesE_length,zU_length];exact Nat.le_refl _);have el:(zU n).length=n:=zU_length n;have hL:=insert_long B0 G sZ hp rfl rfl [] [] hx 0 (zU n) (Nat.zero_le _) (by rw[zU_length,show totC []=0 from rfl];omega);have hR:=insert_range B0 G sZ hp rfl rfl [] [] hx 1 [97] (by decide);have hD:=delete_range B0 G sZ hp rfl rfl [] [] hx 0 1 (by omega) (by decide) (by omega);have hRd:=read_bad B0 G sZ hp rfl rfl (by simp[sZ]);have hDr:=wdrop_c (p:=pZ 4) B0 G sZ rfl;rw[show ((refOf []:Nat):Int)=0 from rfl] at hL hR hD
 rw[show ((0:Nat):Int)=0 from rfl] at hL hD
 rw[show ((1:Nat):Int)=1 from rfl] at hR hD
 repeat' (first|(refine esem_holdR 5 ?_)|refine esem_seqK 562949970373293 ?_|(refine stp ?_;simp only[go_sem,en])|(refine EffW.at (hL ) [] rfl (by (simp;done)) ?_;(try simp only[go_sem]))|((refine eop_makeSlice ?_;unfold eMakeSlice);simp only[go_sem,ez,el,isU8_bytesE,unbytes_bytesE])|(refine and_om ?_ ?_;focus omega))
 refine ⟨?_⟩
 repeat' (first|refine esem_seqK 562949970373293 ?_|(refine stp ?_;simp only[go_sem])|(refine EffW.at (hR ) [] rfl (by (simp;done)) ?_;(try simp only[go_sem]))|(refine EffW.at (hD ) [] rfl (by (simp;done)) ?_;(try simp only[go_sem]))|(refine EffW.at (hRd ) [] rfl (by (simp;done)) ?_;(try simp only[go_sem]))|(refine EffR.atW hDr ?_ ?_ ?_)|(simp only[go_sem])|fail)
 ·simp[allBelow,EV.bel]
  try omega
 ·rintro v B' n ⟨rfl,rfl,rfl⟩
  exact ⟨rfl,by simp[EV.bel],inferInstance⟩
 ·rintro v B' ⟨rfl,rfl⟩ - hB'
  haveI:=hB';have hT:=tally_over (p:=pZ 4) B0 G { sZ with over:=true,put:=[] } rfl
  repeat' (first|(refine esem_holdR 12 ?_)|refine esem_seqK 562949970373293 ?_|(refine stp ?_;simp only[go_sem])|(refine EffW.at (hT ) [] rfl (by (simp;done)) ?_;(try simp only[go_sem]))|(refine Pure.at (n1) (by simp) (by simp) rfl ?_;(try simp only[go_sem]))|(simp only[go_sem])|fail)
  refine ⟨?_⟩
  repeat' (first|refine esem_seqK 562949970373293 ?_|(refine stp ?_;simp only[go_sem])|(refine Eff.at2 (n3 ) [t+2] rfl (by first|(simp;done)|fail) rfl ?_;(try simp only[go_sem]))|(refine Pure.at (n2) (by simp) (by simp) rfl ?_;(try simp only[go_sem]))|(refine Pure.at (aw) (by simp) (by simp) rfl ?_;(try simp only[go_sem]))|fail)
  all_goals exact done_flat rfl trivial
end Go.Proofs.YtgajmgkhlkghjaaGreatDoor
