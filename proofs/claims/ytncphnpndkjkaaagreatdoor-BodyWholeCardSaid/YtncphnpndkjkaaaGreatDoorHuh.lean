/-
  Own work: a part of the proof that the last text closes.
-/
import Derived.Test.YtncphnpndkjkaaaGreatDoorHuf
import Derived.Test.YtncphnpndkjkaaaGreatDoorHug
namespace Go.Proofs.YtncphnpndkjkaaaGreatDoor
open Go.E
set_option linter.all false
set_option maxRecDepth 100000
set_option maxHeartbeats 16000000
section
theorem yKB {P:Program} {c:Code} {Q:X→Fr→ES→Prop} {fr:Fr} {G:List Gl} {B':List (Nat × EO)} {nx d a nb lg pl hp lv pu:Nat} {lns:List Nat} (A:List EO) (hA:∀ o∈A,o.bel 0) (hw:WorkH B' nx d a (514+4*nb) lns lg pl hp nb lv pu) (hB':Bg nx B') (hat:∀ j o,A[j]? = some o→AtG B' nx j o) (hta:A.length≤a) (hln:∀ b∈lns,A.length≤b)
  {Y:Nat} {r g k:EV} (hx:AtG B' nx Y (xP (pE d) (pE hp) (pE (pu+4)) r g k)) (hY:A.length≤Y) (hd:∀ b∈lns,b ≠ Y)
  (F:List (Nat × EV)) (hF:zQS fr (renF (nam 0 (yJZ d a lns lg pl hp lv pu A.length++[Y])) F)) (hb:zWP (11+(514+4*nb)+A.length+1) F) (h:ESem P 0 c Q ⟨F,.unk,fr.n,fr.ds⟩ ⟨(11+(514+4*nb)+A.length,xP (pE 5) (pE 1) (pE 0) .unk .unk .unk)::gnd (pY nb) sZ (bcL (514+4*nb) A),11+(514+4*nb)+A.length+1,G⟩):ESem P 0 c Q fr ⟨B',nx,G⟩:=by
 have hn:=xVB (G:=G) A hA hw hB' hat hta hln;have hlt:=hx.lt;have hne:∀ {j:Nat} {o:EO},AtG B' nx j o→(∀ c,o ≠ .cells c 38 0 true 0)→Y ≠ j:=fun {j o} hj ho e=>by
  have:=hj.lk;rw[← e,hx.lk] at this
  exact ho _ (Option.some.inj this).symm
 have hnq:Y ∉ yJZ d a lns lg pl hp lv pu A.length:=by
  intro hm;unfold yJZ at hm
  rcases List.mem_append.1 hm with q | q
  ·have h1:=hne hw.wk (by simp);have h2:=hne hw.heap (by simp);have h3:=hne hw.txn (by simp);have h4:=hne hw.put (by simp);have h5:=hne hw.pool (by simp);have h6:=hne hw.dev.dev (by simp);have h7:=hne hw.dev.arr (by simp);have h8:=hne hw.log (by simp);have h9:=hne hw.live (by simp);have h10:=hne hw.tk (by simp);have h11:=hne hw.gv (by simp);simp only[List.mem_cons,List.not_mem_nil,or_false] at q
   omega
  ·rcases List.mem_append.1 q with q | q
   ·exact hd Y q rfl
   ·have:=List.mem_range.1 q;omega
 have hgx:(⟨B',nx,G⟩:ES).get Y=some (xP (pE d) (pE hp) (pE (pu+4)) r g k):=by unfold ES.get;rw[if_pos hlt];exact hx.lk
 have hgx':(⟨setL B' Y (xP (pE d) (pE hp) (pE (pu+4)) .unk .unk .unk),nx,G⟩:ES).get Y=some (xP (pE d) (pE hp) (pE (pu+4)) .unk .unk .unk):=by
  unfold ES.get;rw[if_pos hlt];show lkp (setL B' Y _) Y=_;rw[zWF,if_pos rfl,hx.lk];rfl
 have hsame:∀ b,b ≠ Y→(⟨setL B' Y (xP (pE d) (pE hp) (pE (pu+4)) .unk .unk .unk),nx,G⟩:ES).get b=(⟨B',nx,G⟩:ES).get b:=fun b hb=>by
  have hb':¬ Y=b:=fun e=>hb e.symm
  unfold ES.get;simp only[zWF,if_neg hb']
 refine xKX hgx hgx' rfl (fun i v hi=>?_) hsame rfl rfl ?_
 ·match i,hi with
  | 0,hi=>exact .inr hi
  | 1,hi=>exact .inr hi
  | 2,hi=>exact .inr hi
  | 3,hi=>exact .inl (by simpa using hi.symm)
  | 4,hi=>exact .inl (by simpa using hi.symm)
  | 5,hi=>exact .inl (by simpa using hi.symm)
  | i+6,hi=>simp at hi
 ·have hQl:(yJZ d a lns lg pl hp lv pu A.length).length=11+(514+4*nb)+A.length:=by have:=hn.top;omega
  have hlo:∀ i,i<11→nam 0 (yJZ d a lns lg pl hp lv pu A.length++[Y]) i=[pu+4,hp,pu+1,pu,pl,d,a,lg,lv,pu+2,pu+3].getD i 0:=fun i hi=>by
   rw[← xJZ d a lns lg pl hp lv pu A.length i hi];unfold nam;rw[if_neg (by omega),if_neg (by omega),List.getD_eq_getElem?_getD,List.getD_eq_getElem?_getD,List.getElem?_append_left (by omega)]
  refine yHZ F _ _ 0 _ hF hb (hn.snoc (s2:=⟨setL B' Y (xP (pE d) (pE hp) (pE (pu+4)) .unk .unk .unk),nx,G⟩) Y hnq hlt rfl hsame (xP (pE 5) (pE 1) (pE 0) .unk .unk .unk) ?_ ?_) h
  ·simp[EO.bel,zQX,EV.bel];omega
  ·rw[hgx'];simp only[EO.ren,zZG,EV.ren,hlo 0 (by omega),hlo 1 (by omega),hlo 5 (by omega),List.getD_cons_zero,List.getD_cons_succ]
end
section
theorem flatChg:flatT Tryz.prog 48=some [0,1,1]:=by kernel_rfl
theorem undChg:Tryz.prog.underlying 48=some (.struct (Tryz.prog.fieldsOf 48)):=by kernel_rfl
theorem chgEq (a:Int) (o w:List UInt8):EqS Tryz.prog .eql 48 (.agg [.int .i64 a,.str o,.str w]) (.agg [.int .i64 a,.str o,.str w]) true∧EqS Tryz.prog .neq 48 (.agg [.int .i64 a,.str o,.str w]) (.agg [.int .i64 a,.str o,.str w]) false:=by
 have:=zFN (xs:=[.int .i64 a,.str o,.str w]) (ys:=[.int .i64 a,.str o,.str w]) flatChg undChg ⟨rfl,trivial⟩
 simpa only[eqE,eqE.eqL,decide_true,Bool.and_true,Bool.true_and,Bool.not_true] using this
def sW:List UInt8:=[0x68,0xc3,0xa9,0xff,0x7a]
theorem sW_c:(tlG sW 0).1=4∧itU sW 1=1∧itU sW 2=3∧itU sW 3=4:=by decide +kernel
theorem xTK {d a:Nat} {lns:List Nat} {lg pl hp lv pu k n Y:Nat} (hl:lns.length=n):nam 0 (yJZ d a lns lg pl hp lv pu k++[Y]) (11+n+k)=Y:=by
 have hq:(yJZ d a lns lg pl hp lv pu k).length=11+n+k:=by
  unfold yJZ;simp only[List.length_append,List.length_cons,List.length_nil,List.length_range,hl];omega
 unfold nam;rw[if_neg (by omega),Nat.sub_zero,List.getD_eq_getElem?_getD,List.getElem?_append_right (by omega),hq,Nat.sub_self];rfl
theorem yNV (nb:Nat):OneOK (pY nb) sZ [] []:=⟨TxOK.nil _,⟨List.nodup_nil,by simp[sZ],by simp[sZ],by simp[sZ]⟩,rfl,rfl,by simp[sZ],by simp[zVM]⟩
abbrev xU:EO:=xP (pE 5) (pE 1) (pE 0) .unk .unk .unk
theorem stX {p:Gp} {B:List (Nat × EO)} {t:Nat} (hS:StL p B t):StL p ((t,xU)::B) (t+1)∧AtB ((t,xU)::B) (t+1) t xU∧Ext B t ((t,xU)::B) (t+1)∧∀ s,stB (zXG p s) ((t,xU)::B)=(t,xU)::stB (zXG p s) B:=by
 have h0:=hS.big;have hab:=StL.above (p:=p) (B:=B) (t:=t) (t':=t+1) (X:=[(t,xU)]) (by omega) (by simp[zXT]) (by simp[zWN,lkp]) (by simp[EO.bel,zQX,EV.bel];omega);simp only[List.cons_append,List.nil_append] at hab
 exact ⟨hab.1,⟨h0,by omega,by simp[lkp]⟩,hab.2,fun s=>by rw[zXK,if_neg (by omega)]⟩
theorem works_c (G:List Gl) (hG:Tabs G):E.Pure G Tryz.prog 5 [] (.bool true):=by
 unfold E.Pure;haveI:Bg 0 []:=⟨trivial,trivial⟩;refine yTQ 74 [.tmp 0] Tryz.func5 rfl rfl rfl (by kernel_rfl) (le_ble rfl) trivial ?_
 repeat' (first|refine zQQ 536904703 ?_|(refine stp ?_;simp only[go_sem])|(refine EffR.at (xPV [] G 8 (by omega) (by omega)) ?_)|(simp only[go_sem])|fail)
 rintro v B1 nx ⟨X,wk',d,a,lns,lg,pl,hp,lv,pu,r,rhp,rfl,hB1,hK,hw,hta,hln,hx,hX,hXl⟩
 haveI:=hB1;have htop:=xTK (d:=d) (a:=a) (lg:=lg) (pl:=pl) (hp:=hp) (lv:=lv) (pu:=pu) (k:=0) (Y:=X) hw.dev.len;have hS:StL (pY 8) (bcL 546 []) 557:=yFR (nb:=8) (A:=[]) (fun _ h=>absurd h List.not_mem_nil)
 repeat' (first|(refine zZF 4 ?_)|refine zQQ 536904703 ?_|(refine stp ?_;simp only[go_sem])|fail)
 refine ⟨?_⟩;refine yKB (nb:=8) [] (fun _ h=>absurd h List.not_mem_nil) hw hB1 (by simp) (Nat.zero_le _) (fun _ _=>Nat.zero_le _) hx (Nat.zero_le _) hXl [(1,.ptr (some ⟨557,0⟩))] ?_ (by simp[zWP,EV.bel]) ?_
 ·have htop':nam 0 (yJZ d a lns lg pl hp lv pu 0++[X]) 557=X:=htop;have htop2:(yJZ d a lns lg pl hp lv pu 0++[X]).getD 557 0=X:=htop';simp only[go_sem,zQS,renF,EV.ren,List.length_nil,and_true];rw[htop2]
 show ESem _ _ _ _ _ ⟨(557,xU)::stB (zXG (pY 8) sZ) (bcL 546 []),557+1,G⟩;clear hw hx hXl hK hta hln htop;generalize bcL 546 []=B0 at hS ⊢
 generalize (557:Nat)=t0 at hS ⊢
 obtain ⟨hS2,hxa,-,hst⟩:=stX hS;rw[← hst];generalize (t0,xU)::B0=B2 at hS2 hxa hst ⊢
 clear hst;have hU:=hxa.f (p:=pY 8);haveI:=hS2;haveI:Big (t0+1):=⟨hS2.big⟩;have hpk:=pY_ok (nb:=8) (by omega);have hop:EffR G Tryz.prog 6 [.ptr (some ⟨0,0⟩),.int .u32 0] (gnd (pY 8) sZ B2) (t0+1) _:=bOpen_c B2 G hG sZ hpk [] [] (yNV 8)
 repeat' (first|(refine stp ?_;simp only[go_sem,hU])|(refine EffR.at hop ?_)|(simp only[go_sem])|fail)
 rintro v bl nx3 ⟨B3,x,b,rfl,rfl,hS3,he3,hx3,hb3⟩
 haveI:=hS3;haveI:Big nx3:=⟨hS3.big⟩;have hbt:=hb3.lt;have hed:=bEdit_c B3 G hG sZ hpk [] [] (yNV 8) hx3 hb3 0 0 (Nat.le_refl _) (Nat.zero_le _) sW (by decide) (by decide) (.inr ⟨Nat.le_refl _,by decide,by decide⟩);rw[show itU (zQP []) 0=0 from rfl,show zQP []=[] from rfl,show ((0:Nat):Int)=0 from rfl] at hed
 have hed2:EffR G Tryz.prog 11 [.ptr (some ⟨b,0⟩),.int .i64 0,.int .i64 0,.str [0x68,0xc3,0xa9,0xff,0x7a]] (gnd (pY 8) sZ B3) nx3 _:=hed
 repeat' (first|refine zQQ 536904703 ?_|(refine stp ?_;simp only[go_sem])|(refine EffR.at hed2 ?_)|(simp only[go_sem])|fail)
 rintro v bl nx4 ⟨rfl,rfl,s',ps',tb',rfl,hf,hO⟩
 have hf':zQP ps'=sW:=hf;haveI:=zRG (p:=pY 8) B3 hx3 (zWQ tb');have hx4:=yDQ B3 hx3 (zWQ tb');have hb4:=yFD B3 hb3 (body_ne B3 hb3 hx3) (zWQ tb');obtain ⟨w1,w2,w3,w4⟩:=sW_c;have htx:=ySQ (stT B3 x (zWQ tb')) G hG s' hpk ps' tb' hO hx4 hb4 1 3 (by omega) (by rw[hf',w1];omega);have hat:=bAt_c (stT B3 x (zWQ tb')) G hG s' hpk ps' tb' hO hx4 hb4 2 (by rw[hf',w1];omega);have hta:=xTP (stT B3 x (zWQ tb')) G hG s' hpk ps' tb' hO hx4 hb4;have hsw:(sW=[0x68,0xc3,0xa9,0xff,0x7a])=True:=eq_true rfl;have hce:=(chgEq 0 [] [0x68,0xc3,0xa9,0xff,0x7a]).1;rw[hf',w2,w4,show (sW.drop 1).take (4 - 1)=[0xc3,0xa9,0xff] from rfl,show ((1:Nat):Int)=1 from rfl,show ((3:Nat):Int)=3 from rfl] at htx
 rw[hf',w3,show ((2:Nat):Int)=2 from rfl,show ((3:Nat):Int)=3 from rfl] at hat
 unfold zZY at hta
 rw[hf',w1,show ((4:Nat):Int)=4 from rfl] at hta
 generalize stT B3 x (zWQ tb')=B4 at *
 repeat' (first|refine zQQ 536904703 ?_|(refine stp ?_;simp only[go_sem,hsw])|(refine EffW.at (htx ) [] rfl (by first|(simp[hbt,zQR hbt];done)|fail) ?_;(try simp only[go_sem]))|(refine EffW.at (hat ) [] rfl (by first|(simp[hbt,zQR hbt];done)|fail) ?_;(try simp only[go_sem]))|(refine EffW.at (hta ) [] rfl (by first|(simp[hbt,zQR hbt];done)|fail) ?_;(try simp only[go_sem]))|(refine ⟨hce,?_⟩)|(simp only[go_sem])|fail)
 all_goals exact xWD rfl trivial
end
section
theorem yDV (G:List Gl) (i:Int) (n:Nat) (h0:1≤n) (hn:n≤9000000000) (h1:-9223372036854775808≤i) (h2:i≤9223372036854775807):E.Pure G Tryz.prog 8 [.int .i64 i,.int .i64 n] (.int .i64 ((i % (n:Int)).toNat:Nat)):=by
 refine zXP fun V hV=>?_
 have hp:(0:Int)<n:=by omega
 have hm1:i.tmod n<n:=by have:=Int.tmod_lt_of_pos i hp;omega
 have hm2:-(n:Int)<i.tmod n:=by
  have:=Int.lt_tmod_of_pos i hp;omega
 have he:(i.tmod n<0∧i.tmod n+n=i % n)∨(0≤i.tmod n∧i.tmod n=i % n):=by
  have q:=Int.tmod_eq_emod (a:=i) (b:=n);have q3:=Int.emod_nonneg i (by omega:(n:Int) ≠ 0);have q4:=Int.emod_lt_of_pos i hp
  split at q
  ·exact .inr ⟨by omega,by omega⟩
  ·have:(((n:Int).natAbs:Nat):Int)=n:=by omega
   exact .inl ⟨by omega,by omega⟩
 have hr0:0≤i % (n:Int):=Int.emod_nonneg i (by omega);have hcast:(((i % (n:Int)).toNat:Nat):Int)=i % n:=Int.toNat_of_nonneg hr0;rw[hcast] at hV
 have hn0:((n:Int)=0)=False:=by simp;omega
 refine zQV 14 [.tmp 4] Tryz.func8 ?_
 repeat' (first|refine zQQ 531 ?_|(refine stp ?_;simp only[go_sem,hn0])|(simp (disch:=omega) only[zQK])|(refine spl (fun h=>?_) (fun h=>?_)<;>((try simp only[go_sem,h])))|fail)
 ·rw[show i.tmod (n:Int)+(n:Int)=i % (n:Int) by omega];(refine zQH (by simp[EV.bel]) ?_;rw[hV])
 ·rw[show i.tmod (n:Int)=i % (n:Int) by omega];(refine zQH (by simp[EV.bel]) ?_;rw[hV])
theorem rcut_c (G:List Gl) (w:List UInt8):E.Pure G Tryz.prog 9 [.str w,.int .i64 150] (.str (w.take 150)):=by
 refine zXP fun V hV=>?_
 refine zQV 13 [.tmp 4] Tryz.func9 ?_
 repeat' (first|refine zQQ 275 ?_|(refine stp ?_;simp only[go_sem])|(refine spl (fun h=>?_) (fun h=>?_)<;>((try simp only[go_sem,h])))|(refine zQT ?_ ?_;focus omega))
 all_goals (refine zQH (by simp[EV.bel]) ?_;rw[hV];try rfl)
 all_goals (rw[List.take_of_length_le (by omega)])
theorem xQT (s:List UInt8) (n:Nat):∀ k,itU s (n+k)≤itU s n+4*k
 | 0=>Nat.le_refl _
 | k+1=>by
   have ih:=xQT s n k
   rcases Nat.lt_or_ge (itU s (n+k)) s.length with q | q
   ·have:=zZB q;have h4:=yXS (s.drop (itU s (n+k)));rw[← Nat.add_assoc];omega
   ·have:=yNF q;rw[← Nat.add_assoc];omega
theorem SlV.upH {A:List EO} {v:EV} {l:List Ed} (h:SlV A v l) {nb d a lg pl hp lv pu Y:Nat} {lns:List Nat} (hl:lns.length=514+4*nb) :
  ∃ v',v=v'.ren (nam 0 (yJZ d a lns lg pl hp lv pu A.length++[Y]))∧SlG (bcL (514+4*nb) A) (11+(514+4*nb)+A.length) v' l:=by
 rcases h with ⟨rfl,rfl⟩ | ⟨b,ty,rfl,h⟩
 ·exact ⟨.slice none 0 0,rfl,.inl ⟨rfl,rfl⟩⟩
 ·have hb:=(List.getElem?_eq_some_iff.1 h).1;refine ⟨.slice (some ⟨11+(514+4*nb)+b,0⟩) l.length l.length,?_,.inr ⟨_,ty,rfl,bcL_argH h⟩⟩;have hq:(yJZ d a lns lg pl hp lv pu A.length).length=11+lns.length+A.length:=by
   unfold yJZ;simp only[List.length_append,List.length_cons,List.length_nil,List.length_range];omega
  have e:=xTJ d a lns lg pl hp lv pu A.length b hb;have e2:nam 0 (yJZ d a lns lg pl hp lv pu A.length++[Y]) (11+lns.length+b)=b:=by
   refine Eq.trans ?_ e;unfold nam;rw[if_neg (by omega),if_neg (by omega),List.getD_eq_getElem?_getD,List.getD_eq_getElem?_getD,List.getElem?_append_left (by rw[Nat.sub_zero,hq];omega)]
  simp only[EV.ren];rw[← hl,e2]
theorem edsE_get3 {l:List Ed} {i:Nat} {y:Ed} (h:l[i]? = some y):(xWR l)[i*3]? = some (.int .i64 y.at_)∧(xWR l)[i*3+1]? = some (.int .i64 y.n)∧(xWR l)[i*3+2]? = some (.str y.w):=by
 obtain ⟨h1,h2⟩:=yHP h;have key:∀ k,k<3→(xWR l)[i*3+k]? = (edE y)[k]?:=fun k hk=>by
  rw[← h1,List.getElem?_take,if_pos hk,List.getElem?_drop]
 exact ⟨key 0 (by omega),key 1 (by omega),key 2 (by omega)⟩
theorem SlG.mono {B B':List (Nat × EO)} {t t':Nat} {v:EV} {l:List Ed} (h:SlG B t v l) (e:Ext B t B' t'):SlG B' t' v l:=by
 rcases h with h | ⟨b,ty,h1,h2⟩
 ·exact .inl h
 ·exact .inr ⟨b,ty,h1,h2.mono e⟩
end
end Go.Proofs.YtncphnpndkjkaaaGreatDoor
