/-
  Own work: a part of the proof that the last text closes.
-/
import Derived.Test.YtncphnpndkjkaaaGreatDoorHj
namespace Go.Proofs.YtncphnpndkjkaaaGreatDoor
open Go.E
set_option linter.all false
set_option maxRecDepth 100000
set_option maxHeartbeats 16000000
section
variable {p:Gp} (B:List (Nat × EO)) {t:Nat}
theorem EffR.drop {G:List Gl} {P:Program} {g:FuncId} {args:List EV} {s s':Gs} {v0:EV} [hS0:StL p B t] (h:EffR G P g args (gnd p s B) t (fun v bl nx=>v=v0∧∃ B',bl=gnd p s' B'∧StL p B' nx∧Ext B t B' nx)) (hv:v0.bel t):EffW G P g args t [] (gnd p s B) 0 v0 [] (gnd p s' B) 0:=by
 unfold EffW Eff;refine ECalls.mono h ?_
 rintro x w ⟨π,x0,s0,hC,v,rfl,hg,rfl,B',hb,hS,he⟩
 refine ⟨π,_,⟨gnd p s' B,t,G⟩,⟨hC.id,fun i j hi hj=>hC.inj i j (Nat.lt_of_lt_of_le hi he.le) (Nat.lt_of_lt_of_le hj he.le),Nat.le_refl _,by rw[← hg];exact hC.gl,hC.x,hv,Bg.below,fun i o ho=>?_⟩,rfl,rfl⟩;obtain ⟨hi,hl⟩:=ES.get_lt ho;simp only at hi hl
 refine hC.get i o ?_;have hit:i<s0.nx:=Nat.lt_of_lt_of_le hi he.le;unfold ES.get;rw[if_pos hit,hb]
 rcases Nat.lt_or_ge i 11 with q | q
 ·rw[StG.lkp q] at hl
  rw[StG.lkp q];exact hl
 ·rw[StG.lkp_hi q] at hl
  rw[StG.lkp_hi q,he.same i hi];exact hl
theorem cread_c (G:List Gl) (s:Gs) [Big t] [hS0:StL p B t] (hp:p.ok) (ho:s.over=false) (hr:ovl s.put 64 8=zU 8) (ps:List Ck) (tb:List TP) (hx:TxOK p s ps tb) (a b:Nat) (hab:a≤b) (hb:b≤zVM ps) :
  EffW G Tryz.prog 55 [.ptr (some ⟨0,0⟩),.int .u32 (zWQ tb),.int .i64 a,.int .i64 b] t [] (gnd p s B) 0 (.tuple [.str (((zQP ps).drop a).take (b - a)),.int .i64 0]) [] (gnd p s B) 0:=by
 have h1:=hp.big;have h2:=hp.fit;have hln:=hx.len;have hsum:=hx.sum;refine EffR.drop B ?_ (by simp[EV.bel,zQX]);refine EffR.enter fun Q hQ=>?_
 refine zQV 38 [.tmp 8,.tmp 9] Tryz.func55 ?_
 repeat' (first|refine zQQ 8590462735 ?_|(refine stp ?_;simp only[go_sem])|(refine EffR.at (yZG B G s hp ho hr ps tb hx) ?_)|(simp only[go_sem])|fail)
 rintro v bl nx ⟨B1,v1,rfl,rfl,hS1,he1,htx⟩
 haveI:=hS1;haveI:Big nx:=⟨hS1.big⟩;have h3:=he1.le;have hlen:=yYR (p:=p) B1 G s v1 _ ps tb htx hsum (by omega);have hpc:=xZF (p:=p) B1 G s v1 _ ps tb htx hsum (by omega) (fun x hx'=>(hx.part x hx').pos) a b hab hb;obtain ⟨x,r,v2,rfl,hxa,-⟩:=htx;have hxt:=hxa.lt
 repeat' (first|refine zQQ 8590462735 ?_|(refine stp ?_;simp only[go_sem])|(refine EffW.at (hlen ) [] rfl (by first|(simp[hxt,zQR hxt];done)|fail) ?_;(try simp only[go_sem]))|(refine EffW.at (hpc ) [] rfl (by first|(simp[hxt,zQR hxt];done)|fail) ?_;(try simp only[go_sem]))|(refine spl (fun h=>?_) (fun h=>?_)<;>first|omega|((try simp only[zZQ]);(try simp only[go_sem,h])))|fail)
 exact zWX hQ h3 (Bg.below (t:=nx)) (by simp[EV.bel,zQX]) ⟨rfl,B1,rfl,hS1,he1⟩
theorem undPs:Tryz.prog.underlying 187=some (.slice 192):=by kernel_rfl
def xZV (n:Nat):List EV:=zWT [.str [],.int .i64 0,.int .i64 0] n
theorem xZZ (n:Nat):(xZV n).length=n*3:=by simp[xZV,zZJ]
theorem zFX:∀ n,zQX 0 (xZV n)
 | 0=>trivial
 | n+1=>by
   unfold xZV;rw[zWT,zQB];exact ⟨by simp[zQX,EV.bel],zFX n⟩
theorem xJT (n:Nat):(xZV n).all EV.one=true:=yZX rfl n
theorem clonep_c (G:List Gl) (s:Gs) [Big t] [hS0:StL p B t] (r z:Nat) (l:List Ck) (hat:AtB B t r (.cells (ckC l) 192 z true 0)) (h0:0<l.length) (hln:l.length≤1000000) :
  EffR G Tryz.prog 83 [.slice (some ⟨r,0⟩) l.length l.length] (gnd p s B) t (fun v bl nx=>∃ B' T cX,bl=gnd p s B'∧StL p B' nx∧Ext B t B' nx∧t≤T∧l.length≤cX∧v=.slice (some ⟨T,0⟩) l.length cX∧AtB B' nx T (.cells (ckC l++xZV (cX - l.length)) 192 0 true 0)):=by
 have hA:=hat.f (p:=p);have hrt:=hat.lt;have hckl:=zWR l;have hck1:=zNK l;have i0:(l.length=0)=False:=eq_false (by omega);have htk:List.take (l.length*3) (ckC l)=ckC l:=List.take_of_length_le (by omega);refine EffR.enter fun Q hQ=>?_
 refine zQV 8 [.tmp 2] Tryz.func83 ?_
 repeat' (first|(refine zVG (ts:=#[187,187]) ?_;unfold zJN;simp only[go_sem,hA,hckl,hA,hckl,hck1,htk])|refine zQQ 21 ?_|(refine stp ?_;simp only[go_sem])|(refine ⟨(xWZ undPs).1,?_⟩)|(refine fun (cX:Nat) (hX:_≤cX)=>?_)|(refine spl (fun h=>?_) (fun h=>?_)<;>first|omega|((try simp only[zZQ,zJB,zKN,zRM])))|(refine zQT ?_ ?_;focus omega))
 have hT:11≤t:=hS0.big;have hx:=StL.above (p:=p) (B:=B) (t:=t) (t':=t+2) (X:=[(t+1,.cells (ckC l++xZV (cX - l.length)) 192 0 true 0),(t,.cells [] 192 0 true 0)]) (by omega) (by simp[zXT]) (by simp[zWN,lkp]) (by
  simp[zXD,zQJ (Nat.zero_le _) _ (zFX (cX - l.length))])
 simp only[List.cons_append,List.nil_append] at hx
 haveI:=hx.1;have e:stB (zXG p s) ((t+1,.cells (ckC l++xZV (cX - l.length)) 192 0 true 0)::(t,.cells [] 192 0 true 0)::B)=(t+1,.cells (ckC l++xZV (cX - l.length)) 192 0 true 0)::(t,.cells [] 192 0 true 0)::stB (zXG p s) B:=by
  rw[zXK,if_neg (by omega),zXK,if_neg (by omega)]
 rw[show zWT [EV.str [],EV.int .i64 0,EV.int .i64 0] (cX - l.length)=xZV (cX - l.length) from rfl,← e];exact zWX hQ (by omega) (Bg.below (t:=t+2)) (by simp[EV.bel]) ⟨_,t+1,cX,rfl,hx.1,hx.2,by omega,hX,rfl,⟨by omega,by omega,by simp[lkp]⟩⟩
end
section
variable {p:Gp} (B:List (Nat × EO)) {t:Nat}
theorem repl_c (G:List Gl) (s:Gs) [Big t] [hS0:StL p B t] (l nx_:List Ck) (r cX q mc zq i:Nat) (D0 D1:List EV) (hat:AtB B t r (.cells (ckC l++D0) 192 0 true 0)) (hD0:D0.length=(cX - l.length)*3) (hD0p:zQX 0 D0) (hD0o:D0.all EV.one=true) (hcX:l.length≤cX) (hil:i<l.length) (hln:l.length≤1000000)
  (haq:AtB B t q (.cells (ckC nx_++D1) 192 zq true 0)) (hqr:q ≠ r) (hmc:nx_.length≤mc) (h0:0<nx_.length) (hmn:nx_.length≤1000000) :
  EffR G Tryz.prog 85 [.slice (some ⟨r,0⟩) l.length cX,.int .i64 i,.int .i64 (i+1:Nat),.slice (some ⟨q,0⟩) nx_.length mc] (gnd p s B) t (fun v bl nx=>∃ B' r' cap D z,bl=gnd p s B'∧StL p B' nx∧t≤nx∧(∀ j,j<t→j ≠ r→lkp B' j=lkp B j)∧(r'=r∨t≤r')∧v=.slice (some ⟨r',0⟩) (l.length - 1+nx_.length) cap∧AtB B' nx r' (.cells (ckC (l.take i++nx_++l.drop (i+1))++D) 192 z true 0)∧l.length - 1+nx_.length≤cap∧(cap*3≤(l.length - 1+nx_.length)*3+D.length)∧(z=0∨z=3∧cap*3=(l.length - 1+nx_.length)*3+D.length)∧zQX 0 D∧D.all EV.one=true):=by
 have hA:=hat.f (p:=p);have hQA:=haq.f (p:=p);have hrt:=hat.lt;have hqt:=haq.lt;have hckl:=zWR l;have hckn:=zWR nx_;have hCl:(ckC l++D0).length=cX*3:=by rw[List.length_append,hckl,hD0];omega
 have hQl:(ckC nx_++D1).length=nx_.length*3+D1.length:=by rw[List.length_append,hckn]
 have hCo:(ckC l++D0).all EV.one=true:=by rw[List.all_append,zNK,hD0o];rfl
 have hno:=zNK nx_;have htn:List.take (nx_.length*3) (ckC nx_++D1)=ckC nx_:=List.take_left' hckn;have i0:(nx_.length=0)=False:=eq_false (by omega);have hsrc:(nx_.length*3≤nx_.length*3+D1.length)=True:=eq_true (by omega);have hnm:((i:Int)+nx_.length+((l.length - (i+1):Nat):Int))=((l.length - 1+nx_.length:Nat):Int):=by omega
 refine EffR.enter fun Q hQ=>?_
 refine zQV 224 [.tmp 8] Tryz.func85 ?_
 by_cases hin:i+1=l.length
 ·repeat' (first|refine zQQ 383123885930096062271794698053396311827682563515776783 ?_|(refine stp ?_;simp only[go_sem,hA,hQA,hCl,hQl,hno,htn,hsrc,Int.toNat_natCast])|(refine spl (fun h=>?_) (fun h=>?_)<;>first|omega|try simp only[go_sem,h])|(refine zQT ?_ ?_;focus omega))
  ·have hi3:(ckC l++D0).take (i*3)=ckC (l.take i):=by rw[List.take_append_of_le_length (by omega),yMF]
   have hpw:zZH (ckC l++D0) (i*3) (ckC nx_)=ckC (l.take i++nx_++l.drop (i+1))++D0.drop ((nx_.length - 1)*3):=by
    unfold zZH;rw[hi3,List.drop_eq_nil_of_le (show l.length≤i+1 by omega),List.append_nil,zXJ,List.append_assoc,List.drop_append,List.drop_eq_nil_of_le (show (ckC l).length≤i*3+(ckC nx_).length by omega),List.nil_append,show i*3+(ckC nx_).length - (ckC l).length=(nx_.length - 1)*3 by omega]
   have hbl:zQX 0 (D0.drop ((nx_.length - 1)*3)):=by
    have:=hD0p;rw[← List.take_append_drop ((nx_.length - 1)*3) D0,zQB] at this
    exact this.2
   have hdo:(D0.drop ((nx_.length - 1)*3)).all EV.one=true:=by
    rw[← List.take_append_drop ((nx_.length - 1)*3) D0,List.all_append,Bool.and_eq_true] at hD0o
    exact hD0o.2
   have hdl:(D0.drop ((nx_.length - 1)*3)).length=D0.length - (nx_.length - 1)*3:=List.length_drop;rw[hpw,zYF _ hat.hi];haveI hS':StL p (setL B r (.cells (ckC (l.take i++nx_++l.drop (i+1))++D0.drop ((nx_.length - 1)*3)) 192 0 true 0)) t:=StL.updC hat (by rw[zQB];exact ⟨zXD _ _,zQJ (Nat.zero_le _) _ hbl⟩);exact zWX hQ (Nat.le_refl _) (Bg.below (t:=t)) (by simp[EV.bel];exact hrt) ⟨_,r,cX,_,0,rfl,hS',Nat.le_refl _,fun j hj hne=>zJP hne,Or.inl rfl,by rw[show i+nx_.length=l.length - 1+nx_.length by omega],hat.updC,by omega,by rw[hdl];omega,Or.inl rfl,hbl,hdo⟩
  ·have hi3:(ckC l++D0).take (i*3)=ckC (l.take i):=by rw[List.take_append_of_le_length (by omega),yMF]
   have hpw:(ckC l++D0).take (i*3)++ckC nx_=ckC (l.take i++nx_++l.drop (i+1)):=by
    rw[hi3,List.drop_eq_nil_of_le (show l.length≤i+1 by omega),List.append_nil,zXJ]
   have hT:11≤t:=hS0.big;rw[hpw];have hx:=StL.above (p:=p) (B:=B) (t:=t) (t':=t+1) (X:=[(t,.cells (ckC (l.take i++nx_++l.drop (i+1))++[]) 192 3 true 0)]) (by omega) (by simp[zXT]) (by simp[zWN,lkp]) (by
    simp[zXD])
   simp only[List.cons_append,List.nil_append] at hx
   haveI:=hx.1;have e:stB (zXG p s) ((t,.cells (ckC (l.take i++nx_++l.drop (i+1))++[]) 192 3 true 0)::B)=(t,.cells (ckC (l.take i++nx_++l.drop (i+1))) 192 3 true 0)::stB (zXG p s) B:=by
    rw[zXK,if_neg (by omega),List.append_nil]
   rw[← e];exact zWX hQ (by omega) (Bg.below (t:=t+1)) (by simp[EV.bel]) ⟨_,t,i+nx_.length,[],3,rfl,hx.1,by omega,fun j hj hne=>by simp[lkp,show ¬ t=j by omega],Or.inr (Nat.le_refl _),by rw[show i+nx_.length=l.length - 1+nx_.length by omega],⟨by omega,by omega,by simp[lkp]⟩,by omega,by simp;omega,Or.inr ⟨rfl,by simp;omega⟩,trivial,rfl⟩
 ·have hsb:((l.length - 1+nx_.length:Nat):Int) - (i:Int)=((l.length - 1+nx_.length - i:Nat):Int):=by omega
  have hmin:min nx_.length (l.length - 1+nx_.length - i)=nx_.length:=by omega
  have htk2:List.take (nx_.length*3) (ckC nx_)=ckC nx_:=List.take_of_length_le (by omega);have hr11:=hat.hi;have hpb:zQX t (zZH (ckC l++D0) (i*3) (ckC nx_)):=zRN (by rw[zQB];exact ⟨zXD _ _,zQJ (Nat.zero_le _) _ hD0p⟩) (zXD _ _);haveI hS1:StL p (setL B r (.cells (zZH (ckC l++D0) (i*3) (ckC nx_)) 192 0 true 0)) t:=StL.updC hat hpb;have hA2:=(hat.updC (c':=zZH (ckC l++D0) (i*3) (ckC nx_)) (z':=0) (f':=0) (w':=true)).f (p:=p);have hdr:(ckC l++D0).drop ((i+1)*3)=ckC (l.drop (i+1))++D0:=by rw[List.drop_append_of_le_length (by omega),ckC_drop]
  have hi3:(ckC l++D0).take (i*3)=ckC (l.take i):=by rw[List.take_append_of_le_length (by omega),yMF]
  have hdl:(ckC (l.drop (i+1))).length=(l.length - (i+1))*3:=by rw[zWR,List.length_drop]
  have htl:(ckC (l.take i)).length=i*3:=by rw[zWR,List.length_take];omega
  have hmin2:min (l.length - (i+1)) (l.length - 1+nx_.length - (i+nx_.length))=l.length - (i+1):=by omega
  have htk3:List.take ((l.length - (i+1))*3) (ckC (l.drop (i+1)))=ckC (l.drop (i+1)):=List.take_of_length_le (by omega);have hno3:=zNK (l.drop (i+1))
  rcases Nat.lt_or_ge cX (l.length - 1+nx_.length) with hfit | hfit
  ·have hzl:∀ k,(zWT [EV.str [],EV.int .i64 0,EV.int .i64 0] k).length=k*3:=fun k=>by rw[zZJ];rfl
   have hzl2:(i*3+(l.length - 1+nx_.length - i)*3)=(l.length - 1+nx_.length)*3:=by omega
   have hcc0:((i+1)*3+(l.length - (i+1))*3≤cX*3)=True:=eq_true (by omega);have hW4:List.take ((l.length - (i+1))*3) (List.drop ((i+1)*3) (ckC l++D0))=ckC (l.drop (i+1)):=by rw[hdr,List.take_left' hdl]
   have hpl0:(zZH (ckC (l.take i)++zWT [EV.str [],EV.int .i64 0,EV.int .i64 0] (l.length - 1+nx_.length - i)) (i*3) (ckC nx_)).length=(l.length - 1+nx_.length)*3:=by
    have:=hzl (l.length - 1+nx_.length - i);rw[zZS _ _ _ (by rw[List.length_append];omega),List.length_append];omega
   have hmin0:min (l.length - (i+1)) (i+(l.length - 1+nx_.length - i) - (i+nx_.length))=l.length - (i+1):=by omega
   repeat' (first|refine zQQ 383123885930096062271794698053396311827682563515776783 ?_|(refine stp ?_;simp only[go_sem,hA,hQA,hCl,hQl,hno,htn,hsrc,Int.toNat_natCast,hsb,hmin,htk2,zYF _ hr11,hi3,List.length_append,htl,hzl,hzl2,hcc0,hW4,hpl0,hmin0,hno3,hdl,htk3])|(refine zWV (id:=9) mixed [(0,[]),(1,[]),(4,[]),(7,[]),(8,[]),(2,[]),(3,[]),(5,[]),(6,[]),(9,[]),(10,[]),(11,[]),(12,[])] (by kernel_rfl) ?_;simp only[go_sem,hA,Int.toNat_natCast])|(refine zWV (id:=13) mixed [(0,[]),(1,[]),(2,[]),(6,[]),(7,[]),(3,[]),(4,[]),(5,[]),(8,[]),(9,[])] (by kernel_rfl) ?_;simp only[go_sem,hA,Int.toNat_natCast])|(refine yRN ?_;unfold eCap;simp only[go_sem,hA])|(simp only[go_sem,hnm])|(simp (disch:=omega) only[zQK])|(refine spl (fun h=>?_) (fun h=>?_)<;>first|omega|try simp only[go_sem,h])|(refine zQT ?_ ?_;focus omega))
   have hZ:=hzl (l.length - 1+nx_.length - i);generalize zWT [EV.str [],EV.int .i64 0,EV.int .i64 0] (l.length - 1+nx_.length - i)=Z at hZ ⊢
   have hfin:zZH (zZH (ckC (l.take i)++Z) (i*3) (ckC nx_)) ((i+nx_.length)*3) (ckC (l.drop (i+1)))=ckC (l.take i++nx_++l.drop (i+1)):=by
    have e1:zZH (ckC (l.take i)++Z) (i*3) (ckC nx_)=(ckC (l.take i)++ckC nx_)++Z.drop (ckC nx_).length:=by
     unfold zZH;rw[List.take_left' htl,List.drop_append,List.drop_eq_nil_of_le (by omega),List.nil_append,List.append_assoc,show i*3+(ckC nx_).length - (ckC (l.take i)).length=(ckC nx_).length by omega]
    have e3:((ckC (l.take i)++ckC nx_)++Z.drop (ckC nx_).length).drop ((i+nx_.length)*3+(ckC (l.drop (i+1))).length)=[]:=List.drop_eq_nil_of_le (by rw[List.length_append,List.length_append,List.length_drop];omega);rw[e1,zZH,List.take_left' (by rw[List.length_append];omega),e3,List.append_nil,zXJ,zXJ,List.append_assoc]
   have hT:11≤t:=hS0.big;rw[hfin,show i+(l.length - 1+nx_.length - i)=l.length - 1+nx_.length by omega];have hx:=StL.above (p:=p) (B:=B) (t:=t) (t':=t+24) (X:=[(t+13,.cells (ckC (l.take i++nx_++l.drop (i+1))++[]) 192 3 true 0)]) (by omega) (by simp[zXT]) (by simp[zWN,lkp]) (by
    simp[zXD])
   simp only[List.cons_append,List.nil_append] at hx
   haveI:=hx.1;have e:stB (zXG p s) ((t+13,.cells (ckC (l.take i++nx_++l.drop (i+1))++[]) 192 3 true 0)::B)=(t+13,.cells (ckC (l.take i++nx_++l.drop (i+1))) 192 3 true 0)::stB (zXG p s) B:=by
    rw[zXK,if_neg (by omega),List.append_nil]
   rw[← e];exact zWX hQ (by omega) (Bg.below (t:=t+24)) (by simp[EV.bel]) ⟨_,t+13,l.length - 1+nx_.length,[],3,rfl,hx.1,by omega,fun j hj hne=>by simp[lkp,show ¬ t+13=j by omega],Or.inr (by omega),rfl,⟨by omega,by omega,by simp[lkp]⟩,by omega,by simp,Or.inr ⟨rfl,by simp⟩,trivial,rfl⟩
  ·have hC2l:(zZH (ckC l++D0) (i*3) (ckC nx_)).length=cX*3:=by rw[zZS _ _ _ (by omega),hCl]
   have hcc:((i+1)*3+(l.length - (i+1))*3≤cX*3)=True:=eq_true (by omega)
   rcases Nat.eq_or_lt_of_le (show 1≤nx_.length from h0) with hm1 | hm1
   ·have hpw:zZH (ckC l++D0) (i*3) (ckC nx_)=(ckC (l.take i)++ckC nx_)++(ckC (l.drop (i+1))++D0):=by
     unfold zZH;rw[hi3,show i*3+(ckC nx_).length=(i+1)*3 by omega,hdr,List.append_assoc]
    have hW:List.take ((l.length - (i+1))*3) (List.drop ((i+1)*3) (zZH (ckC l++D0) (i*3) (ckC nx_)))=ckC (l.drop (i+1)):=by
     rw[hpw,List.drop_left' (by rw[List.length_append];omega),List.take_left' hdl]
    have hp3:zQX t (zZH (zZH (ckC l++D0) (i*3) (ckC nx_)) ((i+nx_.length)*3) (ckC (l.drop (i+1)))):=zRN hpb (zXD _ _);haveI hS2:StL p (setL (setL B r (.cells (zZH (ckC l++D0) (i*3) (ckC nx_)) 192 0 true 0)) r (.cells (zZH (zZH (ckC l++D0) (i*3) (ckC nx_)) ((i+nx_.length)*3) (ckC (l.drop (i+1)))) 192 0 true 0)) t:=StL.updC (hat.updC (c':=zZH (ckC l++D0) (i*3) (ckC nx_)) (z':=0) (f':=0) (w':=true)) hp3;have hat3:=(hat.updC (c':=zZH (ckC l++D0) (i*3) (ckC nx_)) (z':=0) (f':=0) (w':=true)).updC (c':=zZH (zZH (ckC l++D0) (i*3) (ckC nx_)) ((i+nx_.length)*3) (ckC (l.drop (i+1)))) (z':=0) (f':=0) (w':=true);have hA3:=hat3.f (p:=p);have hC3l:(zZH (zZH (ckC l++D0) (i*3) (ckC nx_)) ((i+nx_.length)*3) (ckC (l.drop (i+1)))).length=cX*3:=by rw[zZS _ _ _ (by omega),hC2l]
    have hz0:l.length - (l.length - 1+nx_.length)=0:=by omega
    repeat' (first|refine zQQ 383123885930096062271794698053396311827682563515776783 ?_|(refine stp ?_;simp only[go_sem,hA,hQA,hCl,hQl,hno,htn,hsrc,Int.toNat_natCast,hmin,htk2,zYF _ hr11,hA2,hC2l,hcc,hW,hmin2,htk3,hno3,hdl,hA3,hz0])|(refine zWV (id:=9) mixed [(0,[]),(1,[]),(4,[]),(7,[]),(8,[]),(2,[]),(3,[]),(5,[]),(6,[]),(9,[]),(10,[]),(11,[]),(12,[])] (by kernel_rfl) ?_;simp only[go_sem,hA,Int.toNat_natCast])|(refine zWV (id:=18) mixed [(0,[]),(1,[]),(2,[]),(6,[]),(7,[]),(3,[]),(4,[]),(5,[]),(8,[]),(9,[])] (by kernel_rfl) ?_;simp only[go_sem,hA,Int.toNat_natCast,hA2])|(refine yRN ?_;unfold eCap;simp only[go_sem,hA])|((refine zGY ?_;unfold yXY);simp only[go_sem,hA,zYF _ hr11,hA3,hC3l])|(simp only[go_sem,hnm])|(simp (disch:=omega) only[zQK])|(refine spl (fun h=>?_) (fun h=>?_)<;>first|omega|try simp only[go_sem,h])|(refine zQT ?_ ?_;focus omega))
    rw[zRQ];have hfin:zZH (zZH (ckC l++D0) (i*3) (ckC nx_)) ((i+nx_.length)*3) (ckC (l.drop (i+1)))=ckC (l.take i++nx_++l.drop (i+1))++D0:=by
     rw[hpw,yWJ _ _ _ _ _ (by rw[List.length_append];omega) rfl];simp only[zXJ,List.append_assoc]
    rw[hfin] at hp3 hat3 ⊢
    rw[hfin] at hS2
    haveI hS3:=StL.updC (p:=p) (z':=0) (f':=0) (w':=true) hat3 hp3;have hat4:=hat3.updC (c':=ckC (l.take i++nx_++l.drop (i+1))++D0) (z':=0) (f':=0) (w':=true);haveI hS4:=(hS3.up (show t≤t+23 by omega)).1;exact zWX hQ (by omega) (Bg.below (t:=t+23)) (by simp[EV.bel];omega) ⟨_,r,cX,D0,0,rfl,hS4,by omega,fun j hj hne=>by rw[zJP hne,zJP hne,zJP hne],Or.inl rfl,rfl,⟨hat4.hi,by omega,hat4.lk⟩,by omega,by omega,Or.inl rfl,hD0p,hD0o⟩
   ·have hW4:List.take ((l.length - (i+1))*3) (List.drop ((i+1)*3) (ckC l++D0))=ckC (l.drop (i+1)):=by rw[hdr,List.take_left' hdl]
    have hp4:zQX t (zZH (ckC l++D0) ((i+nx_.length)*3) (ckC (l.drop (i+1)))):=zRN (by rw[zQB];exact ⟨zXD _ _,zQJ (Nat.zero_le _) _ hD0p⟩) (zXD _ _);have hC4l:(zZH (ckC l++D0) ((i+nx_.length)*3) (ckC (l.drop (i+1)))).length=cX*3:=by rw[zZS _ _ _ (by omega),hCl]
    have hat4:=hat.updC (c':=zZH (ckC l++D0) ((i+nx_.length)*3) (ckC (l.drop (i+1)))) (z':=0) (f':=0) (w':=true);haveI hS4:StL p (setL B r (.cells (zZH (ckC l++D0) ((i+nx_.length)*3) (ckC (l.drop (i+1)))) 192 0 true 0)) t:=StL.updC hat hp4;have hA4:=hat4.f (p:=p);have haq4:AtB (setL B r (.cells (zZH (ckC l++D0) ((i+nx_.length)*3) (ckC (l.drop (i+1)))) 192 0 true 0)) t q (.cells (ckC nx_++D1) 192 zq true 0):=⟨haq.hi,haq.lt,by rw[zJP hqr];exact haq.lk⟩;have hQA4:=haq4.f (p:=p)
    repeat' (first|refine zQQ 383123885930096062271794698053396311827682563515776783 ?_|(refine stp ?_;simp only[go_sem,hA,hQA,hCl,hQl,hno,htn,hsrc,Int.toNat_natCast,hmin,htk2,zYF _ hr11,hcc,hmin2,htk3,hno3,hdl,hW4,hC4l,hA4,hQA4])|(refine zWV (id:=9) mixed [(0,[]),(1,[]),(4,[]),(7,[]),(8,[]),(2,[]),(3,[]),(5,[]),(6,[]),(9,[]),(10,[]),(11,[]),(12,[])] (by kernel_rfl) ?_;simp only[go_sem,hA,Int.toNat_natCast])|(refine zWV (id:=22) mixed [(0,[]),(1,[]),(2,[]),(6,[]),(7,[]),(3,[]),(4,[]),(5,[]),(8,[]),(9,[])] (by kernel_rfl) ?_;simp only[go_sem,hA,Int.toNat_natCast])|(refine yRN ?_;unfold eCap;simp only[go_sem,hA])|(refine xWT (tS:=187) (tR:=4) (e:=192) Tryz.func121 (by kernel_rfl) (by kernel_rfl) (by kernel_rfl) (by kernel_rfl) undPs T192 (by simp only[ES.get];rw[if_pos (by omega)];exact hA.1 _) (by simp only[ES.get];rw[if_pos (by omega)];exact hQA.1 _) (fun e=>hqr e.symm) (by omega) (by show (i+nx_.length)*3<(ckC l++D0).length;omega) (Nat.zero_le _) (by omega) ?_)|(simp only[go_sem,hnm])|(simp (disch:=omega) only[zQK])|(refine spl (fun h=>?_) (fun h=>?_)<;>first|omega|try simp only[go_sem,h])|(refine zQT ?_ ?_;focus omega))
    have hfin:zZH (zZH (ckC l++D0) ((i+nx_.length)*3) (ckC (l.drop (i+1)))) (i*3) (ckC nx_)=ckC (l.take i++nx_++l.drop (i+1))++D0.drop ((nx_.length - 1)*3):=by
     have e1:(ckC l++D0).drop ((i+nx_.length)*3+(ckC (l.drop (i+1))).length)=D0.drop ((nx_.length - 1)*3):=by
      rw[List.drop_append,List.drop_eq_nil_of_le (by omega),List.nil_append]
      congr 1;omega
     have e2:(zZH (ckC l++D0) ((i+nx_.length)*3) (ckC (l.drop (i+1)))).take (i*3)=ckC (l.take i):=by
      unfold zZH;rw[List.take_append_of_le_length (by rw[List.length_take];omega),List.take_take,Nat.min_eq_left (by omega),hi3]
     have e3:(zZH (ckC l++D0) ((i+nx_.length)*3) (ckC (l.drop (i+1)))).drop (i*3+(ckC nx_).length)=ckC (l.drop (i+1))++D0.drop ((nx_.length - 1)*3):=by
      unfold zZH;rw[List.drop_left' (by rw[List.length_take];omega),e1]
     conv=>lhs;rw[zZH]
     rw[e2,e3];simp only[zXJ,List.append_assoc]
    have hbl:zQX 0 (D0.drop ((nx_.length - 1)*3)):=by
     have:=hD0p;rw[← List.take_append_drop ((nx_.length - 1)*3) D0,zQB] at this
     exact this.2
    have hdo:(D0.drop ((nx_.length - 1)*3)).all EV.one=true:=by
     rw[← List.take_append_drop ((nx_.length - 1)*3) D0,List.all_append,Bool.and_eq_true] at hD0o
     exact hD0o.2
    have hddl:(D0.drop ((nx_.length - 1)*3)).length=D0.length - (nx_.length - 1)*3:=List.length_drop;rw[hfin];have hp5:zQX t (ckC (l.take i++nx_++l.drop (i+1))++D0.drop ((nx_.length - 1)*3)):=by rw[zQB];exact ⟨zXD _ _,zQJ (Nat.zero_le _) _ hbl⟩
    haveI hS5:=StL.updC (p:=p) (z':=0) (f':=0) (w':=true) hat4 hp5;have hat5:=hat4.updC (c':=ckC (l.take i++nx_++l.drop (i+1))++D0.drop ((nx_.length - 1)*3)) (z':=0) (f':=0) (w':=true);haveI hS6:=(hS5.up (show t≤t+23 by omega)).1;exact zWX hQ (by omega) (Bg.below (t:=t+23)) (by simp[EV.bel];omega) ⟨_,r,cX,_,0,rfl,hS6,by omega,fun j hj hne=>by rw[zJP hne,zJP hne],Or.inl rfl,rfl,⟨hat5.hi,by omega,hat5.lk⟩,by omega,by rw[hddl];omega,Or.inl rfl,hbl,hdo⟩
end
section
variable {p:Gp}
theorem yWD:∀ (l:List Ck) (s:Gs),(∀ x∈l,x.b = -1∨0≤x.b)→(zVD p s l).1=(zVJ p s (l.map zJD)).1∧(zVJ p s (l.map zJD)).2.map zZR=(zVD p s l).2.map zZN∧∀ l1,(zVD p s l).2=some l1→l1.map (·.T)=l.map (·.T)∧l1.map (·.f)=l.map (·.f)∧∀ x∈l1,0≤x.b
 | [],s,_=>⟨rfl,rfl,fun l1 e=>by
   have e:some []=some l1:=e
   cases e;exact ⟨rfl,rfl,fun x h=>by cases h⟩⟩
 | x::l,s,hb=>by
   have hx:=hb x (List.mem_cons_self ..);have hl:∀ z∈l,z.b = -1∨0≤z.b:=fun z hz=>hb z (List.mem_cons_of_mem _ hz)
   simp only[List.map_cons,zVD,zVJ];have ex:(zJD x).b=x.b:=rfl;rw[ex]
   by_cases h1:x.b = -1
   ·rw[if_pos (show x.b<0 by omega),if_pos h1]
    cases hq:zBH p s with
    | none=>exact ⟨rfl,rfl,fun l1 e=>by cases e⟩
    | some b=>
      obtain ⟨i1,i2,i3⟩:=yWD l (zHS s b) hl;simp only;refine ⟨i1,?_,fun l1 e=>?_⟩
      ·cases hg:(zVJ p (zHS s b) (l.map zJD)).2 with
       | none=>
         rw[hg] at i2
         cases hc:(zVD p (zHS s b) l).2 with
         | none=>rfl
         | some m=>rw[hc] at i2;cases i2
       | some g=>
         rw[hg] at i2
         cases hc:(zVD p (zHS s b) l).2 with
         | none=>rw[hc] at i2;cases i2
         | some m=>
           rw[hc] at i2
           have i2:zZR g=zZN m:=by simpa using i2
           simp[zZR,zZN] at i2 ⊢
           exact i2
      ·cases hc:(zVD p (zHS s b) l).2 with
       | none=>rw[hc] at e;cases e
       | some m=>
         rw[hc] at e
         obtain ⟨j1,j2,j3⟩:=i3 m hc;have e:⟨x.T,x.f,(b:Int)⟩::m=l1:=by simpa using e
         subst e;refine ⟨by simp[j1],by simp[j2],fun z hz=>?_⟩
         rcases List.mem_cons.1 hz with rfl | hz
         ·exact Int.natCast_nonneg b
         ·exact j3 z hz
   ·rw[if_neg (show ¬ x.b<0 by omega),if_neg h1];obtain ⟨i1,i2,i3⟩:=yWD l s hl;refine ⟨i1,?_,fun l1 e=>?_⟩
    ·cases hg:(zVJ p s (l.map zJD)).2 with
     | none=>
       rw[hg] at i2
       cases hc:(zVD p s l).2 with
       | none=>rfl
       | some m=>rw[hc] at i2;cases i2
     | some g=>
       rw[hg] at i2
       cases hc:(zVD p s l).2 with
       | none=>rw[hc] at i2;cases i2
       | some m=>
         rw[hc] at i2
         have i2:zZR g=zZN m:=by simpa using i2
         simp[zZR,zZN,zJD] at i2 ⊢
         exact i2
    ·cases hc:(zVD p s l).2 with
     | none=>rw[hc] at e;cases e
     | some m=>
       rw[hc] at e
       obtain ⟨j1,j2,j3⟩:=i3 m hc;have e:x::m=l1:=by simpa using e
       subst e;refine ⟨by simp[j1],by simp[j2],fun z hz=>?_⟩
       rcases List.mem_cons.1 hz with rfl | hz
       ·omega
       ·exact j3 z hz
theorem yRJ (us:List Nat):∀ (l:List PL) (s:Gs),(zKD us s l).taken.length≤s.taken.length
 | [],s=>Nat.le_refl _
 | y::l,s=>by
   simp only[zKD]
   split
   ·exact yRJ us l s
   ·refine Nat.le_trans (yRJ us l _) ?_;show (s.taken.erase _).length≤_;exact (List.erase_sublist ..).length_le
theorem Chain.mono {s s':Gs} {c:Nat}:∀ {l:List TP},Chain p s c l→(∀ b∈l.map (·.1),b∈s'.taken∧rd p s' b=rd p s b)→Chain p s' c l
 | [],_,_=>trivial
 | (b,cs)::l,h,k=>by
   obtain ⟨q1,q2⟩:=k b (List.mem_cons_self ..);exact ⟨⟨h.1.lt,q1,q2.trans h.1.is,h.1.pos,h.1.fill,h.1.len⟩,h.2.1,Chain.mono h.2.2 fun b' hb=>k b' (List.mem_cons_of_mem _ hb)⟩
theorem mem_blkC {l:List Ck} {b:Nat}:b∈zZN l↔∃ x∈l,x.b.toNat=b:=by simp[zZN]
structure PlOK (ps pl:List Ck):Prop where
 blk:∀ x∈pl,x.b = -1∨∃ b:Nat,x.b=b∧b∈zZN ps
 pos:∀ x∈pl,1≤x.T.length
 fill:∀ x∈pl,x.T.length≤252
 gap:∀ x∈pl,x.f≤x.T.length
 old:(zRW (pl.map zJD)).Nodup
 sum:zVM pl≤1048576
theorem PlOK.nn {ps pl:List Ck} (h:PlOK ps pl):∀ x∈pl,x.b = -1∨0≤x.b:=fun x hx=>(h.blk x hx).imp id fun ⟨b,e,_⟩=>by omega
theorem yNJ:∀ {l:List PL} {b:Nat},b∈zRW l→∃ y∈l,y.b ≠ -1∧y.b.toNat=b
 | y::l,b,h=>by
   simp only[zRW] at h
   split at h
   ·obtain ⟨z,q1,q2⟩:=yNJ h;exact ⟨z,List.mem_cons_of_mem _ q1,q2⟩
   ·rename_i hy
    rcases List.mem_cons.1 h with rfl | h
    ·exact ⟨y,List.mem_cons_self ..,hy,rfl⟩
    ·obtain ⟨z,q1,q2⟩:=yNJ h;exact ⟨z,List.mem_cons_of_mem _ q1,q2⟩
theorem PlOK.sub {ps pl:List Ck} (h:PlOK ps pl) {b:Nat} (hb:b∈zRW (pl.map zJD)):b∈zZN ps:=by
 obtain ⟨y,q1,q2,q3⟩:=yNJ hb;obtain ⟨x,hx,rfl⟩:=List.mem_map.1 q1
 rcases h.blk x hx with e | ⟨c,e,hc⟩
 ·exact absurd e q2
 ·have:(zJD x).b=x.b:=rfl;rw[this,e] at q3
  simp at q3
  exact q3 ▸ hc
theorem PlOK.sett {ps pl:List Ck} (h:PlOK ps pl):PlOK ps (zXF 0 pl) where
 blk:=yWQ (fun x=>x.b = -1∨∃ b:Nat,x.b=b∧b∈zZN ps) (fun x y _ hx hy=>by simp only[zJF];split<;>assumption) pl h.blk
 pos:=yWQ (fun x=>1≤x.T.length) (fun x y _ hx hy=>by simp only[zJF,List.length_append];omega) pl h.pos
 fill:=yWQ (fun x=>x.T.length≤252) (fun x y hf hx hy=>by simp only[zJF,List.length_append];omega) pl h.fill
 gap:=yWQ (fun x=>x.f≤x.T.length) (fun x y hf hx hy=>by simp only[zJF];omega) pl h.gap
 old:=(yYS pl h.nn).1.nodup h.old
 sum:=by rw[← zQD,zFV,zQD];exact h.sum
structure MidC (p:Gp) (s:Gs) (ps:List Ck) (tb:List TP) (pl:List Ck) (s2:Gs) (l2:List Ck):Prop where
 ok:GsOK p s2
 chain:Chain p s2 16 tb
 over:s2.over=s.over
 low:∀ y,y<p.at_→zDY s2.put y=zDY s.put y
 taken:∀ b,b∈s2.taken↔(b∈s.taken∧b ∉ zZN ps)∨b∈zZN l2
 mine:∀ b∈zZN l2,b∈zZN ps∨b ∉ s.taken
 nd:(zZN l2).Nodup
 rd:∀ b,b ∉ zZN l2→Go.Proofs.YtncphnpndkjkaaaGreatDoor.rd p s2 b=Go.Proofs.YtncphnpndkjkaaaGreatDoor.rd p s b
 here:∀ y∈l2,Go.Proofs.YtncphnpndkjkaaaGreatDoor.rd p s2 y.b.toNat=zKX y.T y.f
 nn:∀ y∈l2,0≤y.b
 Ts:l2.map (·.T)=(zXF 0 pl).map (·.T)
 fs:l2.map (·.f)=(zXF 0 pl).map (·.f)
 cnt:s2.taken.length≤s.taken.length+zRD (pl.map zJD)
theorem TxOK.blk_use {s:Gs} {ps:List Ck} {tb:List TP} (h:TxOK p s ps tb) {b:Nat} (hb:b∈zZN ps):b∈s.taken:=by
 obtain ⟨x,hx,rfl⟩:=mem_blkC.1 hb;exact (h.part x hx).use
theorem TxOK.all_use {s:Gs} {ps:List Ck} {tb:List TP} (h:TxOK p s ps tb):∀ b∈tb.map (·.1)++zZN ps,b∈s.taken:=fun b hb=>by
 rcases List.mem_append.1 hb with q | q
 ·exact h.chain.uses b q
 ·exact h.blk_use q
theorem yKQ (l:List Ck):zZR (l.map zJD)=zZN l:=by simp[zZR,zZN,zJD]
theorem xVD {s:Gs} {ps:List Ck} {tb:List TP} {pl:List Ck} (hs:GsOK p s) (hx:TxOK p s ps tb) (hpl:PlOK ps pl):∀ s1 l1,zVD p s (zXF 0 pl)=(s1,some l1) →
  ∃ nw,s1.taken=s.taken++nw∧GsOK p s1∧(zZN l1).Nodup∧(∀ b,b∈zZN l1↔b∈zRW ((zXF 0 pl).map zJD)∨b∈nw)∧s1.put=s.put∧s1.over=s.over∧nw.length=zRD ((zXF 0 pl).map zJD)∧(∀ b∈zZN l1,b∈s1.taken)∧l1.map (·.T)=(zXF 0 pl).map (·.T)∧l1.map (·.f)=(zXF 0 pl).map (·.f)∧∀ x∈l1,0≤x.b:=by
 intro s1 l1 e;have hse:=hpl.sett;obtain ⟨e1,e2,e3⟩:=yWD (p:=p) (zXF 0 pl) s hse.nn;rw[e] at e1 e2 e3
 simp only at e1 e2 e3
 obtain ⟨t1,t2,t3⟩:=e3 l1 rfl
 cases hg:zVJ p s ((zXF 0 pl).map zJD) with
 | mk a o=>
   rw[hg] at e1 e2
   cases o with
   | none=>cases e2
   | some m=>
     simp only[Option.map_some,Option.some.injEq] at e1 e2
     subst e1;have hu:∀ b∈zRW ((zXF 0 pl).map zJD),b∈s.taken:=fun b hb=>hx.blk_use (hse.sub hb)
     obtain ⟨nw,h1,h2,h3,h4,h5,h6,h7⟩:=zPT _ s hs hu hse.old _ m hg;rw[e2] at h3 h4
     refine ⟨nw,h1,h2,h3,h4,h5,h6,h7,fun b hb=>?_,t1,t2,t3⟩;rw[h1,List.mem_append];exact ((h4 b).1 hb).imp (hu b) id
theorem mid_ok {s s1 s2:Gs} {ps:List Ck} {tb:List TP} {pl l2:List Ck} (hs:GsOK p s) (hx:TxOK p s ps tb) (hpl:PlOK ps pl) (hf:zVD p s (zXF 0 pl)=(s1,some l2)) (hw:WrC p (zKD (zZN l2) s1 (ps.map zJD)) s2 l2 l2.length):MidC p s ps tb pl s2 l2:=by
 obtain ⟨nw,h1,h2,h3,h4,h5,h6,h7,h8,h9,h10,h11⟩:=xVD hs hx hpl s1 l2 hf;have hse:=hpl.sett;have hpn:(zZN ps).Nodup:=(List.nodup_append.1 hx.nd).2.1;obtain ⟨g1,g2,g3,g4⟩:=zFH (zZN l2) (ps.map zJD) s1 h2 (by rw[yKQ];exact hpn) (fun b hb=>by rw[yKQ] at hb;rw[h1];exact List.mem_append_left _ (hx.blk_use hb));rw[yKQ] at g2
 have hput:(zKD (zZN l2) s1 (ps.map zJD)).put=s.put:=g3.trans h5;have hno:∀ b,b ∉ zZN l2→∀ j y,j<l2.length→l2[j]? = some y→y.b.toNat ≠ b:=fun b hb j y _ hy e=>hb (mem_blkC.2 ⟨y,List.mem_of_getElem? hy,e⟩)
 have hnw:∀ b∈nw,b ∉ s.taken:=fun b hb w=>by
  have hnd':=h2.nd;rw[h1] at hnd'
  exact (List.nodup_append.1 hnd').2.2 _ w _ hb rfl
 have htk:∀ b,b∈s2.taken↔(b∈s.taken∧b ∉ zZN ps)∨b∈zZN l2:=fun b=>by
  rw[hw.taken,g2,h1,List.mem_append]
  constructor
  ·rintro ⟨q1,q2⟩
   rcases q2 with q2 | q2
   ·exact .inr q2
   ·rcases q1 with q1 | q1
    ·exact .inl ⟨q1,q2⟩
    ·exact .inr ((h4 b).2 (.inr q1))
  ·rintro (⟨q1,q2⟩ | q)
   ·exact ⟨.inl q1,.inr q2⟩
   ·refine ⟨?_,.inl q⟩;have:=h8 b q
    rwa [h1,List.mem_append] at this
 have hmine:∀ b∈zZN l2,b∈zZN ps∨b ∉ s.taken:=fun b hb=>((h4 b).1 hb).imp (fun q=>hse.sub q) (hnw b)
 have hrd:∀ b,b ∉ zZN l2→Go.Proofs.YtncphnpndkjkaaaGreatDoor.rd p s2 b=Go.Proofs.YtncphnpndkjkaaaGreatDoor.rd p s b:=fun b hb=>by
  rw[hw.else_ b (hno b hb)];unfold Go.Proofs.YtncphnpndkjkaaaGreatDoor.rd;rw[hput]
 have htd:∀ b∈tb.map (·.1),b ∉ zZN ps∧b ∉ zZN l2:=fun b hb=>by
  have q:b ∉ zZN ps:=fun w=>(List.nodup_append.1 hx.nd).2.2 _ hb _ w rfl
  exact ⟨q,fun w=>(hmine b w).elim q fun w=>w (hx.chain.uses b hb)⟩
 refine ⟨⟨by rw[hw.taken];exact g1.nd,fun b hb=>by rw[hw.taken];exact g1.low b (by rw[← hw.least];exact hb),fun b hb=>g1.lt b (by rw[← hw.taken];exact hb),by rw[hw.least];exact g1.least⟩,hx.chain.mono fun b hb=>⟨(htk b).2 (.inl ⟨hx.chain.uses b hb,(htd b hb).1⟩),hrd b (htd b hb).2⟩,by rw[hw.over,g4,h6],fun y hy=>by rw[hw.low y hy,hput],htk,hmine,h3,hrd,fun y hy=>?_,h11,h9,h10,?_⟩
 ·obtain ⟨j,hj,e⟩:=List.mem_iff_getElem.1 hy;exact hw.here j y hj (by rw[← e];exact List.getElem?_eq_getElem hj)
 ·rw[hw.taken];have a1:=yRJ (zZN l2) (ps.map zJD) s1;have a2:=(yYS pl hpl.nn).2;rw[h1,List.length_append] at a1
  omega
structure EdOK (p:Gp) (s:Gs) (was:List Nat) (T:List UInt8) (s':Gs) (ps:List Ck) (tb:List TP):Prop where
 tx:TxOK p s' ps tb
 flat:zQP ps=T
 ok:GsOK p s'
 taken:∀ b,b∈s'.taken↔(b∈s.taken∧b ∉ was)∨b∈tb.map (·.1)++zZN ps
 mine:∀ b∈tb.map (·.1)++zZN ps,b∈was∨b ∉ s.taken
 rd:∀ b,b ∉ was→b ∉ tb.map (·.1)++zZN ps→Go.Proofs.YtncphnpndkjkaaaGreatDoor.rd p s' b=Go.Proofs.YtncphnpndkjkaaaGreatDoor.rd p s b
 over:s'.over=s.over
 low:∀ y,y<p.at_→zDY s'.put y=zDY s.put y
theorem yZD:∀ {l m:List Ck},l.map (·.T)=m.map (·.T)→zQP l=zQP m∧zVM l=zVM m∧l.length=m.length
 | l,m,h=>by
   have e1:zQP l=zQP m:=by rw[zQP,zQP,List.flatMap_def,List.flatMap_def,h]
   exact ⟨e1,by rw[← zQD,← zQD,e1],by simpa using congrArg List.length h⟩
theorem ed_ok {s s2 s3:Gs} {ps:List Ck} {tb tb':List TP} {pl l2:List Ck} (hx:TxOK p s ps tb) (hpl:PlOK ps pl) (hm:MidC p s ps tb pl s2 l2) (ht:TabW p s2 (tb.map (·.1)) (zKQ l2) s3 tb'):EdOK p s (tb.map (·.1)++zZN ps) (zQP pl) s3 l2 tb':=by
 have hse:=hpl.sett;have htd:∀ b∈tb.map (·.1),b ∉ zZN ps∧b ∉ zZN l2:=fun b hb=>by
  have q:b ∉ zZN ps:=fun w=>(List.nodup_append.1 hx.nd).2.2 _ hb _ w rfl
  exact ⟨q,fun w=>(hm.mine b w).elim q fun w=>w (hx.chain.uses b hb)⟩
 have hlt:∀ b∈zZN l2,b∈s2.taken:=fun b hb=>(hm.taken b).2 (.inr hb)
 have htd2:∀ b∈tb'.map (·.1),b ∉ zZN l2:=fun b hb w=>(ht.mine b hb).elim (fun q=>(htd b q).2 w) fun q=>q (hlt b w)
 obtain ⟨f1,f2,f3⟩:=yZD hm.Ts;have hget:∀ {j:Nat} {y:Ck},l2[j]? = some y→∃ z,(zXF 0 pl)[j]? = some z∧y.T=z.T∧y.f=z.f:=fun {j y} hy=>by
  have h1:=congrArg (·[j]?) hm.Ts;have h2:=congrArg (·[j]?) hm.fs;simp only[List.getElem?_map,hy,Option.map_some] at h1 h2
  cases hz:(zXF 0 pl)[j]? with
  | none=>rw[hz] at h1;cases h1
  | some z=>rw[hz] at h1 h2;simp at h1 h2;exact ⟨z,rfl,h1,h2⟩
 have htake:∀ b,b∈s3.taken↔(b∈s.taken∧b ∉ tb.map (·.1)++zZN ps)∨b∈tb'.map (·.1)++zZN l2:=fun b=>by
  rw[ht.taken,hm.taken,List.mem_append,List.mem_append]
  constructor
  ·rintro (⟨(⟨q1,q2⟩ | q1),q3⟩ | q)
   ·exact .inl ⟨q1,fun w=>w.elim q3 q2⟩
   ·exact .inr (.inr q1)
   ·exact .inr (.inl q)
  ·rintro (⟨q1,q2⟩ | q | q)
   ·exact .inl ⟨.inl ⟨q1,fun w=>q2 (.inr w)⟩,fun w=>q2 (.inl w)⟩
   ·exact .inr q
   ·exact .inl ⟨.inr q,fun w=>(htd b w).2 q⟩
 refine ⟨⟨ht.chain,by rw[ht.cells];rfl,?_,fun x hx'=>?_,xQV fun j x y h1 h2=>?_,by rw[f2];exact hse.sum⟩,by rw[f1,zFV],ht.ok,htake,fun b hb=>?_,fun b h1 h2=>?_,ht.over.trans hm.over,fun y hy=>(ht.low y hy).trans (hm.low y hy)⟩
 ·exact List.nodup_append.2 ⟨ht.nd,hm.nd,fun a ha c hc e=>htd2 a ha (e ▸ hc)⟩
 ·have hb:x.b.toNat∈zZN l2:=mem_blkC.2 ⟨x,hx',rfl⟩;have hu:x.b.toNat∈s3.taken:=(htake _).2 (.inr (List.mem_append_right _ hb));obtain ⟨j,hj,e⟩:=List.mem_iff_getElem.1 hx';obtain ⟨z,hz,e1,e2⟩:=hget (j:=j) (y:=x) (by rw[← e];exact List.getElem?_eq_getElem hj);have hzm:=List.mem_of_getElem? hz;refine ⟨hm.nn x hx',ht.ok.lt _ hu,hu,?_,by rw[e1];exact hse.pos z hzm,by rw[e1];exact hse.fill z hzm,by rw[e1,e2];exact hse.gap z hzm⟩;rw[ht.rd _ (fun w=>(htd _ w).2 hb) (fun w=>htd2 _ w hb)];exact hm.here x hx'
 ·obtain ⟨a,ha,e1,-⟩:=hget h1;obtain ⟨c,hc,e2,-⟩:=hget h2;rw[e1,e2];exact settC_fit pl j a c ha hc
 ·rw[List.mem_append] at hb ⊢
  rcases hb with hb | hb
  ·rcases ht.mine b hb with q | q
   ·exact .inl (.inl q)
   ·by_cases w:b∈zZN ps
    ·exact .inl (.inr w)
    ·exact .inr fun v=>q ((hm.taken b).2 (.inl ⟨v,w⟩))
  ·exact (hm.mine b hb).imp .inr id
 ·rw[List.mem_append] at h1 h2
  rw[ht.rd b (fun w=>h1 (.inl w)) (fun w=>h2 (.inl w)),hm.rd b fun w=>h2 (.inr w)]
end
section
theorem zRX:∀ {l m:List Nat},l.Nodup→(∀ b∈l,b∈m)→l.length≤m.length
 | [],_,_,_=>Nat.zero_le _
 | a::l,m,hn,hs=>by
   have hn':=List.nodup_cons.1 hn;have h1:=zRX (l:=l) (m:=m.erase a) hn'.2 (fun b hb=>by
    have hne:b ≠ a:=fun e=>hn'.1 (by rw[← e];exact hb)
    exact (List.mem_erase_of_ne hne).2 (hs b (List.mem_cons_of_mem _ hb)))
   have h2:=hs a (List.mem_cons_self ..);rw[List.length_erase_of_mem h2] at h1
   have:=List.length_pos_of_mem h2;simp only[List.length_cons];omega
theorem yPS:∀ (l:List PL),l.length=(zRW l).length+zRD l
 | []=>rfl
 | y::l=>by
   have:=yPS l;simp only[zRW,zRD]
   split<;>simp only[List.length_cons]<;>omega
theorem PlOK.len {ps pl:List Ck} (h:PlOK ps pl):pl.length≤ps.length+zRD (pl.map zJD):=by
 have h1:=zRX h.old (fun b hb=>h.sub hb);have h2:=yPS (pl.map zJD);rw[List.length_map] at h2
 have h3:(zZN ps).length=ps.length:=by simp[zZN]
 omega
theorem yRG {p:Gp} {s s1:Gs} {ps pl:List Ck} (hs:GsOK p s) (hpl:PlOK ps pl) (h:zVD p s (zXF 0 pl)=(s1,none)):p.n<s.taken.length+zRD (pl.map zJD):=by
 obtain ⟨e1,e2,-⟩:=yWD (p:=p) (zXF 0 pl) s hpl.sett.nn;rw[h] at e1 e2
 have e2:(zVJ p s ((zXF 0 pl).map zJD)).2=none:=by
  cases hq:(zVJ p s ((zXF 0 pl).map zJD)).2 with
  | none=>rfl
  | some m=>rw[hq] at e2;cases e2
 have:=zSS _ s hs (zVJ p s ((zXF 0 pl).map zJD)).1 (by rw[← e2]);have:=(yYS pl hpl.nn).2;omega
variable {p:Gp} (B:List (Nat × EO)) {t:Nat}
def EdQ (p:Gp) (s:Gs) (was:List Nat) (T:List UInt8) (k:Nat) (v:EV) (s':Gs):Prop:=
 (∃ ps' tb',v=.tuple [.int .u32 (zWQ tb'),.int .i64 0]∧EdOK p s was T s' ps' tb')∨(v=.tuple [.int .u32 0,.int .i64 7]∧p.n<s.taken.length+k)
theorem yFX (G:List Gl) (s:Gs) [Big t] [hS0:StL p B t] (hp:p.ok) (ho:s.over=false) (hs:GsOK p s) (hr:ovl s.put 64 8=zU 8) (ps:List Ck) (tb:List TP) (hx:TxOK p s ps tb) (hps:ps ≠ []) (x rp:Nat) (v2:EV)
  (hxa:AtB B t x (.cells [.ptr (some ⟨0,0⟩),.int .u32 (zWQ tb),zVW rp ps.length,v2] 196 0 true 0)) (hat:AtB B t rp (.cells (ckC ps) 192 3 true 0))
  (pl:List Ck) (hpl:PlOK ps pl) (hpn:pl.length≤1000000) (h0:0<pl.length) (r cap z0:Nat) (D:List EV) (hrow:AtB B t r (.cells (ckC pl++D) 192 z0 true 0)) (hcap:pl.length≤cap) (hcD:cap*3≤pl.length*3+D.length) (hz:z0=0∨z0=3∧cap*3=pl.length*3+D.length) (hD:zQX 0 D) (hDo:D.all EV.one=true) (hrr:rp ≠ r) :
  EffR G Tryz.prog 82 [.ptr (some ⟨x,0⟩),.slice (some ⟨r,0⟩) pl.length cap] (gnd p s B) t (fun v bl nx=>∃ B' s',bl=gnd p s' B'∧StL p B' nx∧t≤nx∧(∀ j,j<t→j ≠ r→lkp B' j=lkp B j)∧EdQ p s (tb.map (·.1)++zZN ps) (zQP pl) (2*zRD (pl.map zJD)) v s'):=by
 have h1:=hp.big;have h2:=hp.fit;have hxt:=hxa.lt;have hrt:=hrow.lt;have hrpt:=hat.lt;have hln:=hx.len;have hckl:=zWR pl;have hps0:0<ps.length:=List.length_pos_iff.2 hps;have hxr:x ≠ r:=fun e=>by
  have h3:=hxa.lk;rw[e,hrow.lk] at h3
  simp at h3
 have hset:=yDX (p:=p) (t:=t) B G s pl hpn hpl.fill r cap z0 (ckC pl++D) hrt hrow hcap (by rw[List.length_append,hckl];exact hcD) (by rw[List.length_append,hckl];exact hz) (List.take_left' hckl) (by rw[zQB];exact ⟨zXD _ _,hD⟩) (by rw[List.all_append,zNK,hDo];rfl);refine EffR.enter fun Q hQ=>?_
 refine zQV 26 [.tmp 4,.tmp 5] Tryz.func82 ?_
 repeat' (first|refine zQQ 8307 ?_|(refine stp ?_;simp only[go_sem])|(refine EffR.at hset ?_)|(simp only[go_sem])|fail)
 rintro v bl nx ⟨B1,C,hnx,rfl,hS1,hsame1,rfl,hat1,hCl,hCt,hCp,hCo⟩
 subst nx;have hl1:0<(zXF 0 pl).length∧(zXF 0 pl).length≤pl.length:=by
  refine ⟨?_,yKJ pl⟩
  rcases Nat.eq_zero_or_pos (zXF 0 pl).length with e | e
  ·have e2:zXF 0 pl=[]:=List.eq_nil_of_length_eq_zero e;have e3:=zFV pl;rw[e2] at e3
   have e4:=zQD pl;rw[← e3] at e4
   obtain ⟨y,hy⟩:=List.exists_mem_of_length_pos h0;have e5:=hpl.pos y hy;obtain ⟨j,hj,e⟩:=List.mem_iff_getElem.1 hy;have e6:=zVV (l:=pl) (i:=j) (x:=y) (by rw[← e];exact List.getElem?_eq_getElem hj);have e7:=zKJ pl (j+1);have e8:(zQP []).length=0:=rfl;omega
  ·exact e
 obtain ⟨D1,hD1⟩:∃ D1,C=ckC (zXF 0 pl)++D1:=⟨C.drop ((zXF 0 pl).length*3),by rw[← hCt,List.take_append_drop]⟩;subst hD1;haveI:=hS1;have hxB1:AtB B1 t x _:=⟨hxa.hi,hxa.lt,by rw[hsame1 x hxr];exact hxa.lk⟩;have hpB1:AtB B1 t rp _:=⟨hat.hi,hat.lt,by rw[hsame1 rp hrr];exact hat.lk⟩;have hse:=hpl.sett;rw[zQB] at hCp
 have hwr:=wr_c (p:=p) (t:=t) B1 G s hp ho hs.least x rp r cap z0 (zWQ tb) v2 ps (zXF 0 pl) D1 hCp.2 hxB1 (fun _=>hpB1) hrpt hrt hxr hrr hat1 (by omega) (by omega) (by omega)
  (fun y hy=>⟨(hse.blk y hy).imp id fun ⟨b,e,hb⟩=>⟨b,e,hs.lt b (hx.blk_use hb),hx.blk_use hb⟩,hse.fill y hy,hse.gap y hy⟩)
  (fun y hy=>⟨y.b.toNat,by have:=(hx.part y hy).nn;omega,(hx.part y hy).use⟩) (List.nodup_append.1 hx.nd).2.1
  (fun s1 l1 e=>by
   obtain ⟨nw,q1,q2,q3,q4,q5,q6,q7,q8,-⟩:=xVD hs hx hpl s1 l1 e;exact ⟨q3,q8⟩)
 repeat' (first|refine zQQ 8307 ?_|(refine stp ?_;simp only[go_sem])|(refine EffR.at hwr ?_)|(simp only[go_sem])|fail)
 rintro v bl nx ⟨B2,s2,rfl,hnx,hS2,hsame2,hres⟩
 subst nx;haveI:=hS2;have hsame:∀ j,j ≠ r→lkp B2 j=lkp B j:=fun j hj=>(hsame2 j hj).trans (hsame1 j hj)
 cases hfk:zVD p s (zXF 0 pl) with
 | mk s1 o=>
   rw[hfk] at hres
   cases o with
   | none=>
     obtain ⟨rfl,rfl⟩:=hres
     repeat' (first|refine zQQ 8307 ?_|(refine stp ?_;simp only[go_sem])|fail)
     have:=yRG hs hpl hfk;exact zWX hQ (Nat.le_refl _) (Bg.below (t:=t)) (by simp[EV.bel,zQX]) ⟨B2,_,rfl,hS2,Nat.le_refl _,fun j _ hj=>hsame j hj,.inr ⟨rfl,by omega⟩⟩
   | some l2=>
     obtain ⟨rfl,hat2,hwc⟩:=hres;have hmid:=mid_ok hs hx hpl hfk hwc;have hl2:l2.length=(zXF 0 pl).length:=(yZD hmid.Ts).2.2;have hxB2:AtB B2 t x _:=⟨hxa.hi,hxa.lt,by rw[hsame x hxr];exact hxa.lk⟩;have hpB2:AtB B2 t rp _:=⟨hat.hi,hat.lt,by rw[hsame rp hrr];exact hat.lk⟩;have hX:=hxB2.f (p:=p);have hcW:=yVN (p:=p) (t:=t) B2 G s2 ps (zVW rp ps.length) (by rw[zWZ hps0];exact .inr ⟨rp,ps.length,[],3,rfl,by rw[List.append_nil];exact hpB2,Nat.le_refl _⟩)
      (fun y hy=>⟨⟨y.b.toNat,by have:=(hx.part y hy).nn;omega,by have:=(hx.part y hy).lt;omega⟩,(hx.part y hy).fill⟩) (by omega)
     repeat' (first|refine zQQ 8307 ?_|(refine stp ?_;simp only[go_sem,hX])|(refine EffR.at hcW ?_)|(simp only[go_sem])|fail)
     rintro v bl nx ⟨B3,evW,rfl,hS3,he3,⟨rW,rfl,hlW,hrW,hatW⟩,hcvW,hgeW⟩
     haveI:=hS3;haveI:Big nx:=⟨hS3.big⟩;have h3:=he3.le;have hWl:evW.length=ps.length:=by rw[hcvW.length];simp[zKQ]
     have hmT:∀ y∈l2,y.T.length≤252:=fun y hy=>by
      have:y.T∈(zXF 0 pl).map (·.T):=hmid.Ts ▸ List.mem_map.2 ⟨y,hy,rfl⟩;obtain ⟨z,q1,q2⟩:=List.mem_map.1 this;rw[← q2];exact hse.fill z q1
     have hcM:=yVN (p:=p) (t:=nx) B3 G s2 l2 (.slice (some ⟨r,0⟩) (zXF 0 pl).length cap) (.inr ⟨r,cap,D1,z0,by rw[hl2],hat2.mono he3,by omega⟩)
      (fun y hy=>⟨⟨y.b.toNat,by have:=hmid.nn y hy;omega,by have:=hmid.ok.lt _ ((hmid.taken y.b.toNat).2 (.inr (mem_blkC.2 ⟨y,hy,rfl⟩)));omega⟩,hmT y hy⟩) (by omega)
     have hxB3:=hxB2.mono he3;have hX3:=hxB3.f (p:=p)
     repeat' (first|(refine EffR.at hcM ?_)|(simp only[go_sem])|fail)
     rintro v bl nx2 ⟨B4,evM,rfl,hS4,he4,⟨rM,rfl,hlM,hrM,hatM⟩,hcvM,hgeM⟩
     haveI:=hS4;haveI:Big nx2:=⟨hS4.big⟩;have h4:=he4.le;have hMl:evM.length=l2.length:=by rw[hcvM.length];simp[zKQ]
     have cW:(zKQ ps).length=ps.length:=by simp[zKQ]
     have cM:(zKQ l2).length=l2.length:=by simp[zKQ]
     have hmo:s2.over=false:=by rw[hmid.over];exact ho
     have hmr:ovl s2.put 64 8=zU 8:=by rw[← hr];exact yWP fun k hk=>hmid.low _ (by have:=hp.at0;omega)
     have hrw:=rows_c (p:=p) (t:=nx2) B4 G s2 hp hmo hmid.ok hmr x rp ps.length v2 tb hmid.chain (List.nodup_append.1 hx.nd).1 (by omega) ((hxB3).mono he4) rW rM evW evM (zKQ ps) (zKQ l2) (hcvW.mono he4) hcvM ((hatW (by omega)).mono he4) (hatM (by omega)) hx.cells
      (fun z hz=>by obtain ⟨y,-,rfl⟩:=List.mem_map.1 hz;exact zPS _ _) (by omega) (by omega) (by omega)
      (fun i j d d' o o' n n' c c' e1 e2=>by
       have q1:d<nx:=zHK hcvW.below e1;have q2:=hgeM j d' o' n' c' e2
       omega)
     rw[zWZ (b:=rW) (n:=evW.length) (by omega),zWZ (b:=rM) (n:=evM.length) (by omega),show evW.length=(zKQ ps).length by omega,show evM.length=(zKQ l2).length by omega]
     repeat' (first|(refine EffR.at hrw ?_)|(simp only[go_sem])|fail)
     rintro v bl nx3 ⟨B5,s5,rfl,hS5,he5,hres⟩
     haveI:=hS5;have h5:=he5.le;have hall:∀ j,j<t→j ≠ r→lkp B5 j=lkp B j:=fun j hj hne=>by
      rw[he5.same j (by omega),he4.same j (by omega),he3.same j hj,hsame j hne]
     rcases hres with ⟨tb',rfl,htab⟩ | ⟨rfl,q1,q2⟩
     ·repeat' (first|(refine stp ?_;simp only[go_sem])|(simp only[go_sem])|fail)
      exact zWX hQ (by omega) (Bg.below (t:=nx3)) (by simp[EV.bel,zQX]) ⟨B5,s5,rfl,hS5,by omega,hall,.inl ⟨l2,tb',rfl,ed_ok hx hpl hmid htab⟩⟩
     ·repeat' (first|(refine stp ?_;simp only[go_sem])|(simp only[go_sem])|fail)
      have q3:=hpl.len;have q4:=hmid.cnt;exact zWX hQ (by omega) (Bg.below (t:=nx3)) (by simp[EV.bel,zQX]) ⟨B5,s5,rfl,hS5,by omega,hall,.inr ⟨rfl,by omega⟩⟩
end
section
theorem yYV:∀ (k:Nat) (s:List UInt8),zRW ((cutL k s (-1)).map zJD)=[]∧zRD ((cutL k s (-1)).map zJD)=k
 | 0,s=>⟨rfl,rfl⟩
 | k+1,s=>by
   obtain ⟨h1,h2⟩:=yYV k (s.drop (zNY s.length (k+1)));rw[cutL,List.map_cons];refine ⟨?_,?_⟩
   ·rw[yWR (by rfl)];exact h1
   ·rw[yWS (by rfl),h2]
theorem cutL_has (k:Nat) (s:List UInt8) (b:Int) (hb:0≤b):zRW ((cutL (k+1) s b).map zJD)=[b.toNat]∧zRD ((cutL (k+1) s b).map zJD)=k:=by
 obtain ⟨h1,h2⟩:=yYV k (s.drop (zNY s.length (k+1)));rw[cutL,List.map_cons];refine ⟨?_,?_⟩
 ·rw[zHP (by exact hb),h1];rfl
 ·rw[zTJ (by exact hb),h2]
def ySJ (x:Ck) (k:Nat) (s:List UInt8):List Ck:=
 if 252<x.T.length+s.length then yTT (x.T.take k++s++x.T.drop k) x.b else [⟨x.T.take k++s++x.T.drop k,k+s.length,x.b⟩]
def zTD (ps:List Ck) (i:Nat) (x:Ck) (k:Nat) (s:List UInt8):List Ck:=ps.take i++ySJ x k s++ps.drop (i+1)
theorem xVQ:∀ {l:List Ck},(∀ x∈l,0≤x.b)→zRW (l.map zJD)=zZN l∧zRD (l.map zJD)=0
 | [],_=>⟨rfl,rfl⟩
 | x::l,h=>by
   obtain ⟨h1,h2⟩:=xVQ (l:=l) fun y hy=>h y (List.mem_cons_of_mem _ hy)
   have hx:=h x (List.mem_cons_self ..);rw[List.map_cons];refine ⟨?_,?_⟩
   ·rw[zHP (by exact hx),h1];rfl
   ·rw[zTJ (by exact hx),h2]
theorem split_ck {l:List Ck} {i:Nat} {x:Ck} (h:l[i]? = some x):l=l.take i++x::l.drop (i+1):=by
 have hl:=(List.getElem?_eq_some_iff.1 h).1
 conv=>lhs;rw[← List.take_append_drop i l,List.drop_eq_getElem_cons hl]
 rw[(List.getElem?_eq_some_iff.1 h).2]
theorem yYP (x:Ck) (b:List Ck):zVM (x::b)=x.T.length+zVM b:=by simp[zVM]
theorem yWF (a b:List Ck):zQP (a++b)=zQP a++zQP b:=by simp[zQP]
theorem yHW (x:Ck) (b:List Ck):zQP (x::b)=x.T++zQP b:=by simp[zQP]
theorem xPG {x:Ck} {k:Nat} {s:List UInt8} (hb:0≤x.b) (hk:k≤x.T.length) (h1:1≤x.T.length) (h2:x.T.length≤252) :
  zQP (ySJ x k s)=x.T.take k++s++x.T.drop k∧(∀ y∈ySJ x k s,(y.b = -1∨y.b=x.b)∧1≤y.T.length∧y.T.length≤252∧y.f≤y.T.length)∧zRW ((ySJ x k s).map zJD)=[x.b.toNat]∧zRD ((ySJ x k s).map zJD)≤(s.length+251) / 252∧0<(ySJ x k s).length∧(ySJ x k s).length≤(s.length+251) / 252+1:=by
 have hl:(x.T.take k++s++x.T.drop k).length=x.T.length+s.length:=by simp only[List.length_append,List.length_take,List.length_drop];omega
 unfold ySJ
 split
 ·rename_i hc
  generalize x.T.take k++s++x.T.drop k=P at *
  unfold yTT;obtain ⟨m,hm⟩:∃ m,(P.length+251) / 252=m+1:=⟨(P.length+251) / 252 - 1,by omega⟩;have hle:P.length≤252*(m+1):=by omega
  have hge:m+1≤P.length:=by omega
  rw[hm];obtain ⟨o1,o2⟩:=cutL_has m P x.b hb;refine ⟨yTP _ _ _ hle,fun y hy=>?_,o1,by omega,by rw[zTX];omega,by rw[zTX];omega⟩;obtain ⟨q1,q2⟩:=yXH _ _ _ hle y hy;exact ⟨(yMN _ _ _ y hy).symm,yMB _ _ _ hge y hy,q1,by omega⟩
 ·rename_i hc
  refine ⟨by simp[zQP],fun y hy=>?_,?_,?_,by simp,by simp⟩
  ·obtain rfl:=List.mem_singleton.1 hy;exact ⟨.inr rfl,by rw[hl];omega,by rw[hl];omega,by show k+s.length≤(x.T.take k++s++x.T.drop k).length;rw[hl];omega⟩
  ·rw[List.map_cons,zHP (by exact hb)];rfl
  ·rw[List.map_cons,zTJ (by exact hb)];exact Nat.zero_le _
theorem xRV {p:Gp} {s:Gs} {ps:List Ck} {tb:List TP} (h:TxOK p s ps tb) {i k:Nat} {x:Ck} (hi:ps[i]? = some x) (hk:k≤x.T.length) {t:List UInt8} (ht:zVM ps+t.length≤1048576) :
  PlOK ps (zTD ps i x k t)∧zQP (zTD ps i x k t)=(zQP ps).take (zVM (ps.take i)+k)++t++(zQP ps).drop (zVM (ps.take i)+k)∧zRD ((zTD ps i x k t).map zJD)≤(t.length+251) / 252:=by
 have hpx:=h.part x (List.mem_of_getElem? hi);obtain ⟨n1,n2,n3,n4,n5,n6⟩:=xPG (k:=k) (s:=t) hpx.nn hk hpx.pos hpx.fill;have hs:=split_ck hi;have hta:∀ y∈ps.take i,y∈ps:=fun y hy=>List.take_subset _ _ hy
 have hda:∀ y∈ps.drop (i+1),y∈ps:=fun y hy=>List.drop_subset _ _ hy
 obtain ⟨a1,a2⟩:=xVQ (l:=ps.take i) fun y hy=>(h.part y (hta y hy)).nn
 obtain ⟨d1,d2⟩:=xVQ (l:=ps.drop (i+1)) fun y hy=>(h.part y (hda y hy)).nn
 have hflat:zQP (zTD ps i x k t)=(zQP ps).take (zVM (ps.take i)+k)++t++(zQP ps).drop (zVM (ps.take i)+k):=by
  have e1:zQP ps=zQP (ps.take i)++(x.T++zQP (ps.drop (i+1))):=by
   conv=>lhs;rw[hs]
   rw[yWF,yHW]
  have e2:=zQD (ps.take i);unfold zTD;rw[yWF,yWF,n1,e1,← e2];generalize zQP (ps.take i)=A;generalize zQP (ps.drop (i+1))=D;rw[List.take_append,List.drop_append,List.take_of_length_le (l:=A) (by omega),List.drop_of_length_le (l:=A) (by omega),Nat.add_sub_cancel_left,List.take_append_of_le_length hk,List.drop_append_of_le_length hk];simp only[List.append_assoc,List.nil_append]
 have hall:∀ y∈zTD ps i x k t,(y∈ps)∨((y.b = -1∨y.b=x.b)∧1≤y.T.length∧y.T.length≤252∧y.f≤y.T.length):=fun y hy=>by
  unfold zTD at hy
  rcases List.mem_append.1 hy with q | q
  ·rcases List.mem_append.1 q with q | q
   ·exact .inl (hta y q)
   ·exact .inr (n2 y q)
  ·exact .inl (hda y q)
 have hbp:∀ y∈ps,∃ b:Nat,y.b=b∧b∈zZN ps:=fun y hy=>⟨y.b.toNat,by have:=(h.part y hy).nn;omega,mem_blkC.2 ⟨y,hy,rfl⟩⟩
 have hbl:zZN ps=zZN (ps.take i)++([x.b.toNat]++zZN (ps.drop (i+1))):=by
  conv=>lhs;rw[hs]
  rw[yFY];rfl
 refine ⟨⟨fun y hy=>?_,fun y hy=>?_,fun y hy=>?_,fun y hy=>?_,?_,?_⟩,hflat,?_⟩
 ·rcases hall y hy with q | q
  ·exact .inr (hbp y q)
  ·rcases q.1 with e | e
   ·exact .inl e
   ·rw[e];exact .inr (hbp x (List.mem_of_getElem? hi))
 ·exact (hall y hy).elim (fun q=>(h.part y q).pos) fun q=>q.2.1
 ·exact (hall y hy).elim (fun q=>(h.part y q).fill) fun q=>q.2.2.1
 ·exact (hall y hy).elim (fun q=>(h.part y q).gap) fun q=>q.2.2.2
 ·unfold zTD;rw[List.map_append,List.map_append,zTK,zTK,a1,d1,n3,List.append_assoc,← hbl];exact (List.nodup_append.1 h.nd).2.1
 ·rw[← zQD,hflat];simp only[List.length_append,List.length_take,List.length_drop,zQD];have:=zVV hi;have:=zKJ ps (i+1);omega
 ·unfold zTD;rw[List.map_append,List.map_append,zBD,zBD,a2,d2];omega
theorem cutG_ok (t:List UInt8) (ht:t.length≤1048576) (h0:0<t.length):PlOK [] (yTT t (-1))∧zQP (yTT t (-1))=t∧zRD ((yTT t (-1)).map zJD)=(t.length+251) / 252∧0<(yTT t (-1)).length∧(yTT t (-1)).length≤t.length:=by
 unfold yTT;obtain ⟨m,hm⟩:∃ m,(t.length+251) / 252=m:=⟨_,rfl⟩;have hle:t.length≤252*m:=by omega
 have hge:m≤t.length:=by omega
 rw[hm];have hf:=yTP m t (-1) hle;refine ⟨⟨fun y hy=>.inl ((yMN _ _ _ y hy).elim id id),yMB _ _ _ hge,fun y hy=>(yXH _ _ _ hle y hy).1,fun y hy=>by have:=(yXH _ _ _ hle y hy).2;omega,by rw[(yYV m t).1];exact List.nodup_nil,by rw[← zQD,hf];exact ht⟩,hf,(yYV m t).2,by rw[zTX];omega,by rw[zTX];exact hge⟩
theorem EdOK.refl {p:Gp} {s:Gs} {ps:List Ck} {tb:List TP} (h:TxOK p s ps tb) (hs:GsOK p s):EdOK p s (tb.map (·.1)++zZN ps) (zQP ps) s ps tb where
 tx:=h
 flat:=rfl
 ok:=hs
 taken b:=by
  constructor
  ·intro q
   by_cases w:b∈tb.map (·.1)++zZN ps
   ·exact .inr w
   ·exact .inl ⟨q,w⟩
  ·rintro (q | q)
   ·exact q.1
   ·exact h.all_use b q
 mine b hb:=.inl hb
 rd _ _ _:=rfl
 over:=rfl
 low _ _:=rfl
theorem TxOK.nil_of {p:Gp} {s:Gs} {tb:List TP} (h:TxOK p s [] tb):tb=[]:=by
 cases tb with
 | nil=>rfl
 | cons x l=>
   have h1:=h.cells;have h2:=h.chain.1.pos;obtain ⟨b,cs⟩:=x;simp only[List.flatMap_cons,List.map_nil,List.append_eq_nil_iff] at h1
   simp only at h2
   rw[h1.1] at h2
   simp at h2
end
section
variable {p:Gp} (B:List (Nat × EO)) {t:Nat}
theorem TxOK.nil (s:Gs):TxOK p s [] []:=⟨trivial,rfl,List.nodup_nil,fun x hx=>absurd hx (by simp),trivial,by simp[zVM]⟩
def Ed0 (p:Gp) (s:Gs) (pl:List Ck) (v:EV) (s':Gs):Prop:=
 match zVD p s (zXF 0 pl) with
 | (_,none)=>v=.tuple [.int .u32 0,.int .i64 7]∧p.n<s.taken.length+zRD (pl.map zJD)
 | (s1,some l2)=>∃ s2,(s2.taken=s1.taken∧s2.least=s1.least)∧match zVJ p s2 (zXB (248 / 16) [] (zJX (248 / 16) [] 0 (zKQ l2))) with
   | (_,none)=>v=.tuple [.int .u32 0,.int .i64 7]∧p.n<s.taken.length+2*zRD (pl.map zJD)
   | (_,some l3)=>v=.tuple [.int .u32 (zWQ (l3.map yFB)),.int .i64 0]∧EdOK p s [] (zQP pl) s' l2 (l3.map yFB)
theorem Ed0.edq {s:Gs} {pl:List Ck} {v:EV} {s':Gs} (h:Ed0 p s pl v s'):EdQ p s [] (zQP pl) (2*zRD (pl.map zJD)) v s':=by
 unfold Ed0 at h
 split at h
 ·exact .inr ⟨h.1,by have:=h.2;omega⟩
 ·obtain ⟨s2,-,h⟩:=h
  split at h
  ·exact .inr h
  ·exact .inl ⟨_,_,h⟩
theorem ccarry0_c (G:List Gl) (s:Gs) [Big t] [hS0:StL p B t] (hp:p.ok) (ho:s.over=false) (hs:GsOK p s) (hr:ovl s.put 64 8=zU 8) (x rp:Nat) (v2:EV)
  (hxa:AtB B t x (.cells [.ptr (some ⟨0,0⟩),.int .u32 0,zVW rp 0,v2] 196 0 true 0)) (hrpt:rp<t)
  (pl:List Ck) (hpl:PlOK [] pl) (hpn:pl.length≤1000000) (h0:0<pl.length) (r cap z0:Nat) (D:List EV) (hrow:AtB B t r (.cells (ckC pl++D) 192 z0 true 0)) (hcap:pl.length≤cap) (hcD:cap*3≤pl.length*3+D.length) (hz:z0=0∨z0=3∧cap*3=pl.length*3+D.length) (hD:zQX 0 D) (hDo:D.all EV.one=true) (hrr:rp ≠ r) :
  EffR G Tryz.prog 82 [.ptr (some ⟨x,0⟩),.slice (some ⟨r,0⟩) pl.length cap] (gnd p s B) t (fun v bl nx=>∃ B' s',bl=gnd p s' B'∧StL p B' nx∧t≤nx∧(∀ j,j<t→j ≠ r→lkp B' j=lkp B j)∧Ed0 p s pl v s'):=by
 have h1:=hp.big;have h2:=hp.fit;have hxt:=hxa.lt;have hrt:=hrow.lt;have hx:TxOK p s [] []:=TxOK.nil s;have hckl:=zWR pl;have hxr:x ≠ r:=fun e=>by
  have h3:=hxa.lk;rw[e,hrow.lk] at h3
  simp at h3
 have hset:=yDX (p:=p) (t:=t) B G s pl hpn hpl.fill r cap z0 (ckC pl++D) hrt hrow hcap (by rw[List.length_append,hckl];exact hcD) (by rw[List.length_append,hckl];exact hz) (List.take_left' hckl) (by rw[zQB];exact ⟨zXD _ _,hD⟩) (by rw[List.all_append,zNK,hDo];rfl);refine EffR.enter fun Q hQ=>?_
 refine zQV 26 [.tmp 4,.tmp 5] Tryz.func82 ?_
 repeat' (first|refine zQQ 8307 ?_|(refine stp ?_;simp only[go_sem])|(refine EffR.at hset ?_)|(simp only[go_sem])|fail)
 rintro v bl nx ⟨B1,C,hnx,rfl,hS1,hsame1,rfl,hat1,hCl,hCt,hCp,hCo⟩
 subst nx;have hl1:0<(zXF 0 pl).length∧(zXF 0 pl).length≤pl.length:=by
  refine ⟨?_,yKJ pl⟩
  rcases Nat.eq_zero_or_pos (zXF 0 pl).length with e | e
  ·have e2:zXF 0 pl=[]:=List.eq_nil_of_length_eq_zero e;have e3:=zFV pl;rw[e2] at e3
   have e4:=zQD pl;rw[← e3] at e4
   obtain ⟨y,hy⟩:=List.exists_mem_of_length_pos h0;have e5:=hpl.pos y hy;obtain ⟨j,hj,e⟩:=List.mem_iff_getElem.1 hy;have e6:=zVV (l:=pl) (i:=j) (x:=y) (by rw[← e];exact List.getElem?_eq_getElem hj);have e7:=zKJ pl (j+1);have e8:(zQP []).length=0:=rfl;omega
  ·exact e
 obtain ⟨D1,hD1⟩:∃ D1,C=ckC (zXF 0 pl)++D1:=⟨C.drop ((zXF 0 pl).length*3),by rw[← hCt,List.take_append_drop]⟩;subst hD1;haveI:=hS1;have hxB1:AtB B1 t x _:=⟨hxa.hi,hxa.lt,by rw[hsame1 x hxr];exact hxa.lk⟩;have hse:=hpl.sett;rw[zQB] at hCp
 have hwr:=wr_c (p:=p) (t:=t) B1 G s hp ho hs.least x rp r cap z0 0 v2 [] (zXF 0 pl) D1 hCp.2 hxB1 (fun h=>absurd rfl h) hrpt hrt hxr hrr hat1 (by omega) (by omega) (by simp)
  (fun y hy=>⟨(hse.blk y hy).imp id fun ⟨b,e,hb⟩=>absurd hb (by simp[zZN]),hse.fill y hy,hse.gap y hy⟩)
  (fun y hy=>absurd hy (by simp)) List.nodup_nil
  (fun s1 l1 e=>by
   obtain ⟨nw,q1,q2,q3,q4,q5,q6,q7,q8,-⟩:=xVD hs hx hpl s1 l1 e;exact ⟨q3,q8⟩)
 repeat' (first|refine zQQ 8307 ?_|(refine stp ?_;simp only[go_sem])|(refine EffR.at hwr ?_)|(simp only[go_sem])|fail)
 rintro v bl nx ⟨B2,s2,rfl,hnx,hS2,hsame2,hres⟩
 subst nx;haveI:=hS2;have hsame:∀ j,j ≠ r→lkp B2 j=lkp B j:=fun j hj=>(hsame2 j hj).trans (hsame1 j hj)
 cases hfk:zVD p s (zXF 0 pl) with
 | mk s1 o=>
   rw[hfk] at hres
   cases o with
   | none=>
     obtain ⟨rfl,rfl⟩:=hres
     repeat' (first|refine zQQ 8307 ?_|(refine stp ?_;simp only[go_sem])|fail)
     have:=yRG hs hpl hfk;refine zWX hQ (Nat.le_refl _) (Bg.below (t:=t)) (by simp[EV.bel,zQX]) ⟨B2,_,rfl,hS2,Nat.le_refl _,fun j _ hj=>hsame j hj,?_⟩;unfold Ed0;rw[hfk];exact ⟨rfl,this⟩
   | some l2=>
     obtain ⟨rfl,hat2,hwc⟩:=hres;have hmid:=mid_ok hs hx hpl hfk hwc;have hl2:l2.length=(zXF 0 pl).length:=(yZD hmid.Ts).2.2;have hxB2:AtB B2 t x _:=⟨hxa.hi,hxa.lt,by rw[hsame x hxr];exact hxa.lk⟩;have hX:=hxB2.f (p:=p);have hcW:=yVN (p:=p) (t:=t) B2 G s2 [] (zVW rp 0) (.inl ⟨rfl,rfl⟩) (fun y hy=>absurd hy (by simp)) (by simp)
     repeat' (first|refine zQQ 8307 ?_|(refine stp ?_;simp only[go_sem,hX])|(refine EffR.at hcW ?_)|(simp only[go_sem])|fail)
     rintro v bl nx ⟨B3,evW,rfl,hS3,he3,⟨rW,rfl,hlW,hrW,hatW⟩,hcvW,hgeW⟩
     haveI:=hS3;haveI:Big nx:=⟨hS3.big⟩;have h3:=he3.le;have hWl:evW.length=0:=by rw[hcvW.length];simp[zKQ]
     have hmT:∀ y∈l2,y.T.length≤252:=fun y hy=>by
      have:y.T∈(zXF 0 pl).map (·.T):=hmid.Ts ▸ List.mem_map.2 ⟨y,hy,rfl⟩;obtain ⟨z,q1,q2⟩:=List.mem_map.1 this;rw[← q2];exact hse.fill z q1
     have hcM:=yVN (p:=p) (t:=nx) B3 G s2 l2 (.slice (some ⟨r,0⟩) (zXF 0 pl).length cap) (.inr ⟨r,cap,D1,z0,by rw[hl2],hat2.mono he3,by omega⟩)
      (fun y hy=>⟨⟨y.b.toNat,by have:=hmid.nn y hy;omega,by have:=hmid.ok.lt _ ((hmid.taken y.b.toNat).2 (.inr (mem_blkC.2 ⟨y,hy,rfl⟩)));omega⟩,hmT y hy⟩) (by omega)
     have hxB3:=hxB2.mono he3;have hX3:=hxB3.f (p:=p);rw[hWl,zWY]
     repeat' (first|(refine EffR.at hcM ?_)|(simp only[go_sem])|fail)
     rintro v bl nx2 ⟨B4,evM,rfl,hS4,he4,⟨rM,rfl,hlM,hrM,hatM⟩,hcvM,hgeM⟩
     haveI:=hS4;haveI:Big nx2:=⟨hS4.big⟩;have h4:=he4.le;have hMl:evM.length=l2.length:=by rw[hcvM.length];simp[zKQ]
     have cM:(zKQ l2).length=l2.length:=by simp[zKQ]
     have hmo:s2.over=false:=by rw[hmid.over];exact ho
     have hmr:ovl s2.put 64 8=zU 8:=by rw[← hr];exact yWP fun k hk=>hmid.low _ (by have:=hp.at0;omega)
     have hrw:=rows0_c (p:=p) (t:=nx2) B4 G s2 hp hmo hmid.ok hmr x rp 0 v2 ((hxB3).mono he4) rM evM (zKQ l2) hcvM (hatM (by omega))
      (fun z hz=>by obtain ⟨y,-,rfl⟩:=List.mem_map.1 hz;exact zPS _ _) (by omega) (by omega)
     rw[zWZ (b:=rM) (n:=evM.length) (by omega),show evM.length=(zKQ l2).length by omega]
     repeat' (first|(refine EffR.at hrw ?_)|(simp only[go_sem])|fail)
     rintro v bl nx3 ⟨B5,s5,rfl,hS5,he5,hres⟩
     haveI:=hS5;have h5:=he5.le;have hall:∀ j,j<t→j ≠ r→lkp B5 j=lkp B j:=fun j hj hne=>by
      rw[he5.same j (by omega),he4.same j (by omega),he3.same j hj,hsame j hne]
     have hs2:s2.taken=s1.taken∧s2.least=s1.least:=⟨hwc.taken,hwc.least⟩
     cases hfg:zVJ p s2 (zXB (248 / 16) [] (zJX (248 / 16) [] 0 (zKQ l2))) with
     | mk s6 o=>
       rw[hfg] at hres
       cases o with
       | none=>
         obtain ⟨rfl,q2⟩:=hres
         repeat' (first|(refine stp ?_;simp only[go_sem])|(simp only[go_sem])|fail)
         have q3:=hpl.len;have q4:=hmid.cnt;have q5:([]:List Ck).length=0:=rfl;refine zWX hQ (by omega) (Bg.below (t:=nx3)) (by simp[EV.bel,zQX]) ⟨B5,s5,rfl,hS5,by omega,hall,?_⟩;unfold Ed0;rw[hfk];refine ⟨s2,hs2,?_⟩;rw[hfg];exact ⟨rfl,by omega⟩
       | some l3=>
         obtain ⟨rfl,htab⟩:=hres
         repeat' (first|(refine stp ?_;simp only[go_sem])|(simp only[go_sem])|fail)
         refine zWX hQ (by omega) (Bg.below (t:=nx3)) (by simp[EV.bel,zQX]) ⟨B5,s5,rfl,hS5,by omega,hall,?_⟩;unfold Ed0;rw[hfk];refine ⟨s2,hs2,?_⟩;rw[hfg];exact ⟨rfl,ed_ok hx hpl hmid htab⟩
end
end Go.Proofs.YtncphnpndkjkaaaGreatDoor
