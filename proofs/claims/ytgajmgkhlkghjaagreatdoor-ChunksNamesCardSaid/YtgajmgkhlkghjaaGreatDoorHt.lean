/-
  Own work: a part of the proof that the last text closes.
-/
import Derived.Test.YtgajmgkhlkghjaaGreatDoorHs
import Derived.Test.YtgajmgkhlkghjaaGreatDoorHp
namespace Go.Proofs.YtgajmgkhlkghjaaGreatDoor
open Go.E
set_option linter.all false
set_option maxRecDepth 100000
set_option maxHeartbeats 16000000
section
variable {p:Gp} (B:List (Nat × EO)) {t:Nat}
theorem begin_over (G:List Gl) (s:Gs) [Big t] [h:StL p B t] (ho:s.over=true):EffW G Tryz.prog 101 [.ptr (some ⟨0,0⟩)] t [] (gnd p s B) 0 (.int .i64 3) [] (gnd p s B) 0:=by
 refine EffW.enter fun Q hQ=>?_
 simp only[gnd,List.nil_append,Nat.add_zero];refine ecalls_I 23 [.tmp 2] Tryz.func101 ?_
 repeat' (first|refine esem_seqK 2197 ?_|(refine stp ?_;simp only[go_sem,ho])|(refine EffW.at (there_w (p:=p) B G s ) [] rfl (by (simp;done)) ?_;(try simp only[go_sem]))|fail)
 (refine done_W2 hQ [] ?_ ?_ ?_<;>(simp))
theorem use_no (G:List Gl) (s:Gs) [Big t] [h:StL p B t] (hb:p.nl≤1000000) (hnl:0<p.nl) (ho:s.over=false) (b:Nat) (hu:b ∉ s.taken):EffW G Tryz.prog 84 [.ptr (some ⟨0,0⟩),.int .i64 b] t [] (gnd p s B) 0 (.int .i64 130) [] (gnd p s B) 0:=by
 have e1:=findE_no hu;refine EffW.enter fun Q hQ=>?_
 simp only[gnd,List.nil_append,Nat.add_zero];refine ecalls_I 55 [.tmp 4] Tryz.func84 ?_
 repeat' (first|refine esem_seqK 18014398509517491 ?_|(refine stp ?_;simp only[go_sem])|(refine EffW.at (begin_c B G s hb hnl ho ) [] rfl (by (simp;done)) ?_;(try simp only[go_sem]))|((refine eop_lookup ?_;unfold eLook);simp only[go_sem,e1,tkE_keys])|fail)
 (refine done_W2 hQ [] ?_ ?_ ?_<;>(simp))
theorem read_no (G:List Gl) (s:Gs) [Big t] [h:StL p B t] (hp:p.ok) (ho:s.over=false) (hnl:0<p.nl) (b:Nat) (hu:b ∉ s.taken):EffW G Tryz.prog 107 [.ptr (some ⟨0,0⟩),.int .i64 b] t [] (gnd p s B) 0 (.tuple [.slice none 0 0,.int .i64 130]) [] (gnd p s B) 0:=by
 have h1:=hp.big;have hu':=use_no B G s (by omega) hnl ho b hu;refine EffW.enter fun Q hQ=>?_
 simp only[gnd,List.nil_append,Nat.add_zero];refine ecalls_I 33 [.tmp 4,.tmp 5] Tryz.func107 ?_
 repeat' (first|refine esem_seqK 8691 ?_|(refine stp ?_;simp only[go_sem])|(refine EffW.at (hu' ) [] rfl (by (simp;done)) ?_;(try simp only[go_sem]))|fail)
 (refine done_W2 hQ [] ?_ ?_ ?_<;>(simp))
theorem root_over (G:List Gl) (s:Gs) [Big t] [h:StL p B t] (ho:s.over=true):EffW G Tryz.prog 67 [.ptr (some ⟨0,0⟩)] t [] (gnd p s B) 0 (.tuple [.int .u64 0,.int .i64 3]) [] (gnd p s B) 0:=by
 refine EffW.enter fun Q hQ=>?_
 simp only[gnd,List.nil_append,Nat.add_zero];refine ecalls_I 44 [.tmp 2,.tmp 3] Tryz.func67 ?_
 repeat' (first|refine esem_seqK 4043318269 ?_|(refine stp ?_;simp only[go_sem])|(refine EffW.at (begin_over (p:=p) B G s ho ) [] rfl (by (simp;done)) ?_;(try simp only[go_sem]))|fail)
 (refine done_W2 hQ [] ?_ ?_ ?_<;>(simp))
theorem open_over (G:List Gl) (s:Gs) [Big t] [h:StL p B t] (ho:s.over=true) (n:Nat):EffW G Tryz.prog 32 [.ptr (some ⟨0,0⟩),.int .u32 n] t [] (gnd p s B) 0 (.tuple [.ptr none,.int .i64 3]) [] (gnd p s B) 0:=by
 refine EffW.enter fun Q hQ=>?_
 simp only[gnd,List.nil_append,Nat.add_zero];refine ecalls_I 129 [.tmp 4,.tmp 5] Tryz.func32 ?_
 repeat' (first|refine esem_seqK 83076749775242902939390529556701107 ?_|(refine stp ?_;simp only[go_sem])|(refine EffW.at (root_over (p:=p) B G s ho ) [] rfl (by (simp;done)) ?_;(try simp only[go_sem]))|fail)
 (refine done_W2 hQ [] ?_ ?_ ?_<;>(simp))
theorem tally_over (G:List Gl) (s:Gs) [Big t] [h:StL p B t] (ho:s.over=true):EffW G Tryz.prog 14 [.ptr (some ⟨0,0⟩),.int .u32 0] t [] (gnd p s B) 0 (.tuple [.agg [.int .i64 0,.int .i64 0,.int .i64 0,.str [],.str []],.int .i64 3]) [] (gnd p s B) 0:=by
 have ho:=open_over (p:=p) B G s ho 0;rw[show ((0:Nat):Int)=0 from rfl] at ho
 refine EffW.enter fun Q hQ=>?_
 simp only[gnd,List.nil_append,Nat.add_zero];refine ecalls_I 22 [.cell 4 44,.tmp 5] Tryz.func14 ?_
 repeat' (first|refine esem_seqK 33011 ?_|(refine stp ?_;simp only[go_sem])|(refine EffW.at (ho ) [] rfl (by (simp;done)) ?_;(try simp only[go_sem]))|fail)
 (refine done_W2 hQ [] ?_ ?_ ?_<;>(simp))
theorem parts_bad (G:List Gl) (s:Gs) [Big t] [hS0:StL p B t] (hp:p.ok) (ho:s.over=false) (hr:ovl s.put 64 8=zU 8) (hu:6 ∉ s.taken) :
  EffW G Tryz.prog 104 [.ptr (some ⟨0,0⟩),.int .u32 7,.int .i64 16] t [] (gnd p s B) 0 (.tuple [.slice none 0 0,.int .i64 150]) [] (gnd p s B) 0:=by
 have h1:=hp.big;have h2:=hp.fit;have h3:=hp.at0;have hro:=root_c B G s hp ho hr;have hre:=read_no B G s hp ho (by omega) 6 hu;rw[show ((6:Nat):Int)=6 from rfl] at hre
 have hfi:=fill_c G 16 (by omega) (by omega);rw[show ((16:Nat):Int)=16 from rfl] at hfi
 refine EffW.enter fun Q hQ=>?_
 simp only[gnd,List.nil_append,Nat.add_zero];refine ecalls_I 141 [.tmp 6,.tmp 7] Tryz.func104 ?_
 repeat' (first|refine esem_seqK 21778094686033998742530085058346812276423 ?_|refine esem_block ?_|(refine stp ?_;simp only[go_sem])|(refine EffW.at (hro ) [] rfl (by (simp;done)) ?_;(try simp only[go_sem]))|(refine Pure.at (hfi) (by simp) (by simp) rfl ?_;(try simp only[go_sem]))|(refine EffW.at (hre ) [] rfl (by (simp;done)) ?_;(try simp only[go_sem]))|(refine esem_loopN 21778094686033998742530085058346812276423 1 ?_;simp only[go_sem])|fail)
 (refine done_W2 hQ [] ?_ ?_ ?_<;>(simp))
theorem tcells_bad (G:List Gl) (s:Gs) [Big t] [hS0:StL p B t] (hp:p.ok) (ho:s.over=false) (hr:ovl s.put 64 8=zU 8) (hu:6 ∉ s.taken) :
  EffW G Tryz.prog 68 [.ptr (some ⟨0,0⟩),.int .u32 7,.int .i64 16] t [] (gnd p s B) 0 (.tuple [.slice none 0 0,.int .i64 150]) [] (gnd p s B) 0:=by
 refine EffW.enter fun Q hQ=>?_
 simp only[gnd,List.nil_append,Nat.add_zero];refine ecalls_I 44 [.tmp 6,.tmp 7] Tryz.func68 ?_
 repeat' (first|refine esem_seqK 8116000711 ?_|refine esem_block ?_|(refine stp ?_;simp only[go_sem])|(refine EffW.at (parts_bad (p:=p) B G s hp ho hr hu ) [] rfl (by (simp;done)) ?_;(try simp only[go_sem]))|(refine esem_loopN 8116000711 1 ?_;simp only[go_sem])|fail)
 (refine done_W2 hQ [] ?_ ?_ ?_<;>(simp))
theorem open_bad (G:List Gl) (s:Gs) [Big t] [hS0:StL p B t] (hp:p.ok) (ho:s.over=false) (hr:ovl s.put 64 8=zU 8) (hu:6 ∉ s.taken) :
  EffW G Tryz.prog 32 [.ptr (some ⟨0,0⟩),.int .u32 7] t [] (gnd p s B) 0 (.tuple [.ptr none,.int .i64 170]) [] (gnd p s B) 0:=by
 refine EffW.enter fun Q hQ=>?_
 simp only[gnd,List.nil_append,Nat.add_zero];refine ecalls_I 129 [.tmp 4,.tmp 5] Tryz.func32 ?_
 repeat' (first|refine esem_seqK 83076749775242902939390529556701107 ?_|(refine stp ?_;simp only[go_sem])|(refine EffW.at (root_c (p:=p) B G s hp ho hr ) [] rfl (by (simp;done)) ?_;(try simp only[go_sem]))|(refine EffW.at (tcells_bad (p:=p) B G s hp ho hr hu ) [] rfl (by (simp;done)) ?_;(try simp only[go_sem]))|fail)
 (refine done_W2 hQ [] ?_ ?_ ?_<;>(simp))
theorem read_bad (G:List Gl) (s:Gs) [Big t] [hS0:StL p B t] (hp:p.ok) (ho:s.over=false) (hr:ovl s.put 64 8=zU 8) (hu:6 ∉ s.taken) :
  EffW G Tryz.prog 11 [.ptr (some ⟨0,0⟩),.int .u32 7,.int .i64 0,.int .i64 0] t [] (gnd p s B) 0 (.tuple [.str [],.int .i64 170]) [] (gnd p s B) 0:=by
 refine EffW.enter fun Q hQ=>?_
 simp only[gnd,List.nil_append,Nat.add_zero];refine ecalls_I 38 [.tmp 8,.tmp 9] Tryz.func11 ?_
 repeat' (first|refine esem_seqK 8590462735 ?_|(refine stp ?_;simp only[go_sem])|(refine EffW.at (open_bad (p:=p) B G s hp ho hr hu ) [] rfl (by (simp;done)) ?_;(try simp only[go_sem]))|fail)
 (refine done_W2 hQ [] ?_ ?_ ?_<;>(simp))
theorem insert_long (G:List Gl) (s:Gs) [Big t] [hS0:StL p B t] (hp:p.ok) (ho:s.over=false) (hr:ovl s.put 64 8=zU 8) (ps:List Ck) (tb:List TP) (hx:TxOK p s ps tb) (a:Nat) (x:List UInt8) (ha:a≤totC ps) (hxl:1048576<totC ps+x.length) :
  EffW G Tryz.prog 10 [.ptr (some ⟨0,0⟩),.int .u32 (refOf tb),.int .i64 a,.str x] t [] (gnd p s B) 0 (.tuple [.int .u32 0,.int .i64 4]) [] (gnd p s B) 0:=by
 have h1:=hp.big;have h2:=hp.fit;have hln:=hx.len;have hsum:=hx.sum;refine EffR.drop B ?_ (by simp[EV.bel,allBelow]);refine EffR.enter fun Q hQ=>?_
 refine ecalls_I 127 [.tmp 8,.tmp 9] Tryz.func10 ?_
 repeat' (first|refine esem_seqK 2596148429269775033553209916653327 ?_|(refine stp ?_;simp only[go_sem])|(refine EffR.at (openT_c B G s hp ho hr ps tb hx) ?_)|(simp only[go_sem])|fail)
 rintro v bl nx ⟨B1,v1,rfl,rfl,hS1,he1,htx⟩
 haveI:=hS1;haveI:Big nx:=⟨hS1.big⟩;have h3:=he1.le;have hlen:=tlen_c (p:=p) B1 G s v1 _ ps tb htx hsum (by omega);obtain ⟨x',r,v2,rfl,hxa,-⟩:=htx;have hxt:=hxa.lt
 repeat' (first|refine esem_seqK 2596148429269775033553209916653327 ?_|refine esem_block ?_|(refine stp ?_;simp only[go_sem])|(refine EffW.at (hlen ) [] rfl (by first|(simp[hxt,namW_lt hxt];done)|fail) ?_;(try simp only[go_sem]))|(simp (disch:=omega) only[wrap64E])|(refine spl (fun h=>?_) (fun h=>?_)<;>first|omega|((try simp only[opRun]);(try simp only[go_sem,h])))|fail)
 exact done_R0 hQ h3 (Bg.below (t:=nx)) (by simp[EV.bel,allBelow]) ⟨rfl,B1,rfl,hS1,he1⟩
theorem insert_range (G:List Gl) (s:Gs) [Big t] [hS0:StL p B t] (hp:p.ok) (ho:s.over=false) (hr:ovl s.put 64 8=zU 8) (ps:List Ck) (tb:List TP) (hx:TxOK p s ps tb) (a:Nat) (x:List UInt8) (ha:totC ps<a) :
  EffW G Tryz.prog 10 [.ptr (some ⟨0,0⟩),.int .u32 (refOf tb),.int .i64 a,.str x] t [] (gnd p s B) 0 (.tuple [.int .u32 0,.int .i64 6]) [] (gnd p s B) 0:=by
 have h1:=hp.big;have h2:=hp.fit;have hln:=hx.len;have hsum:=hx.sum;refine EffR.drop B ?_ (by simp[EV.bel,allBelow]);refine EffR.enter fun Q hQ=>?_
 refine ecalls_I 127 [.tmp 8,.tmp 9] Tryz.func10 ?_
 repeat' (first|refine esem_seqK 2596148429269775033553209916653327 ?_|(refine stp ?_;simp only[go_sem])|(refine EffR.at (openT_c B G s hp ho hr ps tb hx) ?_)|(simp only[go_sem])|fail)
 rintro v bl nx ⟨B1,v1,rfl,rfl,hS1,he1,htx⟩
 haveI:=hS1;haveI:Big nx:=⟨hS1.big⟩;have h3:=he1.le;have hlen:=tlen_c (p:=p) B1 G s v1 _ ps tb htx hsum (by omega);obtain ⟨x',r,v2,rfl,hxa,-⟩:=htx;have hxt:=hxa.lt
 repeat' (first|refine esem_seqK 2596148429269775033553209916653327 ?_|refine esem_block ?_|(refine stp ?_;simp only[go_sem])|(refine EffW.at (hlen ) [] rfl (by first|(simp[hxt,namW_lt hxt];done)|fail) ?_;(try simp only[go_sem]))|(refine spl (fun h=>?_) (fun h=>?_)<;>first|omega|((try simp only[opRun]);(try simp only[go_sem,h])))|fail)
 exact done_R0 hQ h3 (Bg.below (t:=nx)) (by simp[EV.bel,allBelow]) ⟨rfl,B1,rfl,hS1,he1⟩
def objsE (p:Gp) (s:Gs):Nat→EO
 | 2=>.cells [.ptr (some ⟨4,0⟩),.map (some 3),.bool true] 163 0 true 0
 | 3=>.map []
 | 4=>.cells [.ptr (some ⟨5,0⟩),.ptr (some ⟨7,0⟩),.ptr none] 193 0 true 0
 | k=>objs p s k
theorem objsE_bel {p:Gp} {s:Gs} {t:Nat} (h1:11+p.nl≤t):∀ k,k<11→(objsE p s k).bel t:=fun k hk=>by
 have h2:=objs_bel (p:=p) (s:=s) h1 k hk
 match k,hk with
 | 0,_ | 1,_ | 5,_ | 6,_ | 7,_ | 8,_ | 9,_ | 10,_=>exact h2
 | 2,_ | 3,_ | 4,_=>simp[objsE,EO.bel,allBelow,EV.bel];try omega
theorem objsE_over (p:Gp) (s:Gs) (ho:s.over=false):∀ k,k<11→(if k=1 then EO.cells [.ptr (some ⟨4,0⟩),.int .i64 p.at_,.int .i64 p.n,.map (some 8),.ptr none] 165 0 true 0 else if k=0 then .cells [.ptr (some ⟨1,0⟩),.ptr (some ⟨2,0⟩),.map (some 9),.map (some 10),.int .i64 s.least,.bool true] 56 0 true 0 else objsE p s k)=objs p { s with over:=true,put:=[] } k:=fun k hk=>by
 match k,hk with
 | 0,_ | 1,_ | 2,_ | 3,_ | 4,_ | 5,_ | 6,_ | 7,_ | 8,_ | 9,_ | 10,_=>rfl
theorem txnend_r (G:List Gl) (s:Gs) [Big t] [h:StL p B t] (ho:s.over=false):EffR G Tryz.prog 82 [.ptr (some ⟨2,0⟩)] (gnd p s B) t (fun v bl nx=>v=.tuple []∧bl=stB (objsE p s) B∧nx=t):=by
 have hset:∀ (f:Nat→EO) (i:Nat) (o:EO),i<11→setL (stB f B) i o=stB (fun k=>if k=i then o else f k) B:=fun f i o hi=>StG.setL hi
 have hlk:∀ (f:Nat→EO) (i:Nat),i<11→lkp (stB f B) i=some (f i):=fun f i hi=>StG.lkp hi
 refine EffR.enter fun Q hQ=>?_
 have o2:objs p s 2=.cells [.ptr (some ⟨4,0⟩),.map (some 3),.bool false] 163 0 true 0:=by simp only[objs,ho]
 have o3:objs p s 3=.map (puE s.put):=rfl;have o4:objs p s 4=.cells [.ptr (some ⟨5,0⟩),.ptr (some ⟨7,0⟩),.ptr (some ⟨2,0⟩)] 193 0 true 0:=by simp only[objs,ho,whoE];rfl
 refine ecalls_I 15 [] Tryz.func82 ?_
 repeat' (first|refine esem_seqK 1 ?_|(refine stp ?_;simp only[go_sem,hset,hlk,o2,o4])|((refine eop_clear ?_;unfold eClear);simp only[go_sem,hset,hlk,o3])|fail)
 have e:∀ k,k<11→(if k=4 then EO.cells [.ptr (some ⟨5,0⟩),.ptr (some ⟨7,0⟩),.ptr none] 193 0 true 0 else if k=3 then .map [] else if k=2 then .cells [.ptr (some ⟨4,0⟩),.map (some 3),.bool true] 163 0 true 0 else objs p s k)=objsE p s k:=fun k hk=>by
  match k,hk with
  | 0,_ | 1,_ | 2,_ | 3,_ | 4,_ | 5,_ | 6,_ | 7,_ | 8,_ | 9,_ | 10,_=>rfl
 rw[stB_congr e];haveI:=(h.toStG.new (f:=objsE p s) (objsE_bel h.top)).bg;exact done_R0 hQ (Nat.le_refl _) (Bg.below (t:=t)) (by simp[EV.bel,allBelow]) ⟨rfl,rfl,rfl⟩
theorem txndrop_r (G:List Gl) (s:Gs) [Big t] [h:StL p B t] (ho:s.over=false):EffR G Tryz.prog 41 [.ptr (some ⟨2,0⟩)] (gnd p s B) t (fun v bl nx=>v=.int .i64 0∧bl=stB (objsE p s) B∧nx=t):=by
 refine EffR.enter fun Q hQ=>?_
 refine ecalls_I 20 [.tmp 2] Tryz.func41 ?_
 repeat' (first|refine esem_seqK 8205 ?_|refine esem_block ?_|(refine stp ?_;simp only[go_sem,ho])|(refine EffR.at (txnend_r (p:=p) B G s ho) ?_)|(simp only[go_sem])|fail)
 rintro v bl nx ⟨rfl,rfl,hn⟩
 subst nx;haveI:=(h.toStG.new (f:=objsE p s) (objsE_bel h.top)).bg
 repeat' (first|refine esem_seqK 8205 ?_|(refine stp ?_;simp only[go_sem])|fail)
 exact done_R0 hQ (Nat.le_refl _) (Bg.below (t:=t)) (by simp[EV.bel]) ⟨rfl,rfl,rfl⟩
theorem workend_r (G:List Gl) (s:Gs) [Big t] [h:StL p B t] (ho:s.over=false):EffR G Tryz.prog 42 [.ptr (some ⟨0,0⟩)] (stB (objsE p s) B) t (fun v bl nx=>v=.tuple []∧bl=gnd p { s with over:=true,put:=[] } B∧nx=t):=by
 have hset:∀ (f:Nat→EO) (i:Nat) (o:EO),i<11→setL (stB f B) i o=stB (fun k=>if k=i then o else f k) B:=fun f i o hi=>StG.setL hi
 have hlk:∀ (f:Nat→EO) (i:Nat),i<11→lkp (stB f B) i=some (f i):=fun f i hi=>StG.lkp hi
 refine EffR.enter fun Q hQ=>?_
 have o0:objsE p s 0=.cells [.ptr (some ⟨1,0⟩),.ptr (some ⟨2,0⟩),.map (some 9),.map (some 10),.int .i64 s.least,.bool false] 56 0 true 0:=by simp only[objsE,objs,ho]
 have o1:objsE p s 1=.cells [.ptr (some ⟨4,0⟩),.int .i64 p.at_,.int .i64 p.n,.map (some 8),.ptr (some ⟨0,0⟩)] 165 0 true 0:=by simp only[objsE,objs,ho,whoE];rfl
 haveI:=(h.toStG.new (f:=objsE p s) (objsE_bel h.top)).bg;refine ecalls_I 20 [] Tryz.func42 ?_
 repeat' (first|refine esem_seqK 8193 ?_|(refine stp ?_;simp only[go_sem,hset,hlk,o0,o1])|(refine ⟨(eqS_ptr T25 rfl T56 (by decide)).1,?_⟩)|fail)
 rw[stB_congr (objsE_over p s ho)];exact done_R0 hQ (Nat.le_refl _) (Bg.below (t:=t)) (by simp[EV.bel,allBelow]) ⟨rfl,rfl,rfl⟩
theorem wdrop_c (G:List Gl) (s:Gs) [Big t] [h:StL p B t] (ho:s.over=false):EffR G Tryz.prog 13 [.ptr (some ⟨0,0⟩)] (gnd p s B) t (fun v bl nx=>v=.int .i64 0∧bl=gnd p { s with over:=true,put:=[] } B∧nx=t):=by
 refine EffR.enter fun Q hQ=>?_
 refine ecalls_I 17 [.tmp 2] Tryz.func13 ?_
 repeat' (first|refine esem_seqK 549 ?_|(refine stp ?_;simp only[go_sem,ho])|(refine EffW.at (there_w (p:=p) B G s ) [] rfl (by (simp;done)) ?_;(try simp only[go_sem]))|(refine EffR.at (txndrop_r (p:=p) B G s ho) ?_)|(simp only[go_sem])|fail)
 rintro v bl nx ⟨rfl,rfl,hn⟩
 subst nx;haveI:=(h.toStG.new (f:=objsE p s) (objsE_bel h.top)).bg
 repeat' (first|refine esem_seqK 549 ?_|(refine stp ?_;simp only[go_sem])|(refine EffR.at (workend_r (p:=p) B G s ho) ?_)|(simp only[go_sem])|fail)
 rintro v bl nx ⟨rfl,rfl,hn⟩
 subst nx
 repeat' (first|refine esem_seqK 549 ?_|(refine stp ?_;simp only[go_sem])|fail)
 exact done_R0 hQ (Nat.le_refl _) (Bg.below (t:=t)) (by simp[EV.bel]) ⟨rfl,rfl,rfl⟩
end
end Go.Proofs.YtgajmgkhlkghjaaGreatDoor
