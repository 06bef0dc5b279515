/-
  Own work: walks and laws of the functions that the statement reaches; the statement itself stands in the last text.
-/
import Derived.Test.YtgajmgkhlkghjaaGreatDoorHs
namespace Go.Proofs.YtgajmgkhlkghjaaGreatDoor
open Go.E
set_option linter.all false
set_option maxRecDepth 100000
set_option maxHeartbeats 16000000
theorem withinI_c (G:List Gl) (i:Int) (n:Nat) (h0:1≤n) (hn:n≤9000000000) (h1:-9223372036854775808≤i) (h2:i≤9223372036854775807):E.Pure G Tryz.prog 9 [.int .i64 i,.int .i64 n] (.int .i64 ((i % (n:Int)).toNat:Nat)):=by
 refine pure_hid fun V hV=>?_
 have hp:(0:Int)<n:=by omega
 have hm1:i.tmod n<n:=by have:=Int.tmod_lt_of_pos i hp;omega
 have hm2:-(n:Int)<i.tmod n:=by
  have:=Int.lt_tmod_of_pos i hp
  omega
 have he:(i.tmod n<0∧i.tmod n+n=i % n)∨(0≤i.tmod n∧i.tmod n=i % n):=by
  have q:=Int.tmod_eq_emod (a:=i) (b:=n)
  have q3:=Int.emod_nonneg i (by omega:(n:Int) ≠ 0)
  have q4:=Int.emod_lt_of_pos i hp
  split at q
  ·exact .inr ⟨by omega,by omega⟩
  ·have:(((n:Int).natAbs:Nat):Int)=n:=by omega
   exact .inl ⟨by omega,by omega⟩
 have hr0:0≤i % (n:Int):=Int.emod_nonneg i (by omega)
 have hcast:(((i % (n:Int)).toNat:Nat):Int)=i % n:=Int.toNat_of_nonneg hr0
 rw[hcast] at hV
 have hn0:((n:Int)=0)=False:=by simp;omega
 refine ecalls_I 14 [.tmp 4] Tryz.func9 ?_
 repeat' (first|refine esem_seqK 531 ?_|(refine stp ?_;simp only[go_sem,hn0])|(simp (disch:=omega) only[wrap64E])|(refine spl (fun h=>?_) (fun h=>?_)<;>((try simp only[go_sem,h])))|fail)
 ·rw[show i.tmod (n:Int)+(n:Int)=i % (n:Int) by omega];(refine done_zero (by simp[EV.bel]) ?_;rw[hV])
 ·rw[show i.tmod (n:Int)=i % (n:Int) by omega];(refine done_zero (by simp[EV.bel]) ?_;rw[hV])
structure Ed where
 at_:Int
 n:Int
 w:List UInt8
def edE (e:Ed):List EV:=[.int .i64 e.at_,.int .i64 e.n,.str e.w]
def edsE (l:List Ed):List EV:=l.flatMap edE
def Ed.ok (e:Ed):Prop:=(-9223372036854775808≤e.at_∧e.at_≤9223372036854775807)∧-9223372036854775808≤e.n∧e.n≤9223372036854775807
theorem edsE_length (l:List Ed):(edsE l).length=l.length*3:=by
 induction l with
 | nil=>rfl
 | cons x l ih=>unfold edsE at ih ⊢;rw[List.flatMap_cons,List.length_append,ih];simp[edE];omega
theorem edsE_take3 {l:List Ed} {i:Nat} {x:Ed} (h:l[i]? = some x):((edsE l).drop (i*3)).take 3=edE x∧i*3+3≤(edsE l).length:=by
 have hl:=(List.getElem?_eq_some_iff.1 h).1
 refine ⟨?_,by rw[edsE_length];omega⟩
 have e:l=l.take i++x::l.drop (i+1):=by
  conv=>lhs;rw[← List.take_append_drop i l,List.drop_eq_getElem_cons hl]
  rw[(List.getElem?_eq_some_iff.1 h).2]
 have hlen:(edsE (l.take i)).length=i*3:=by rw[edsE_length,List.length_take];omega
 conv=>lhs;rw[e]
 unfold edsE at hlen ⊢
 rw[List.flatMap_append,List.drop_left' hlen,List.flatMap_cons]
 exact List.take_left' rfl
theorem edsE_below (l:List Ed) (k:Nat):allBelow k (edsE l):=allBelow_flat fun _ _=>⟨trivial,trivial,trivial,trivial⟩
def SlV (A:List EO) (v:EV) (l:List Ed):Prop:=(v=.slice none 0 0∧l=[])∨∃ b ty,v=.slice (some ⟨b,0⟩) l.length l.length∧A[b]? = some (.cells (edsE l) ty 3 false 0)
def SlG (B:List (Nat × EO)) (t:Nat) (v:EV) (l:List Ed):Prop:=(v=.slice none 0 0∧l=[])∨∃ b ty,v=.slice (some ⟨b,0⟩) l.length l.length∧AtB B t b (.cells (edsE l) ty 3 false 0)
theorem SlV.up {A:List EO} {v:EV} {l:List Ed} (h:SlV A v l) {nb d a lg pl hp lv pu:Nat} {lns:List Nat} (hl:lns.length=258+4*nb) :
  ∃ v',v=v'.ren (nam 0 (canQ d a lns lg pl hp lv pu A.length))∧SlG (bcL (258+4*nb) A) (11+(258+4*nb)+A.length) v' l:=by
 rcases h with ⟨rfl,rfl⟩ | ⟨b,ty,rfl,h⟩
 ·exact ⟨.slice none 0 0,rfl,.inl ⟨rfl,rfl⟩⟩
 ·have hb:=(List.getElem?_eq_some_iff.1 h).1
  refine ⟨.slice (some ⟨11+(258+4*nb)+b,0⟩) l.length l.length,?_,.inr ⟨_,ty,rfl,bcL_arg h⟩⟩
  simp only[EV.ren]
  rw[← hl,canQ_arg _ _ _ _ _ _ _ _ _ _ hb]
theorem SlG.f {B:List (Nat × EO)} {t:Nat} {v:EV} {l:List Ed} (h:SlG B t v l):(∀ k,v.bel (t+k)=True)∧v.bel t=True∧(∀ k q,v.ren (nam (t+k) q)=v)∧∀ (e a b:Nat) (z:List EV) (s:ES) (K:EV→Prop),elen ⟨.slice e,a,b,z⟩ v s K=K (.int .i64 l.length):=by
 rcases h with ⟨rfl,rfl⟩ | ⟨b,ty,rfl,h⟩
 ·exact ⟨fun _=>by simp[EV.bel],by simp[EV.bel],fun _ _=>rfl,fun _ _ _ _ _ _=>rfl⟩
 ·have:=h.lt
  refine ⟨fun k=>by simp[EV.bel];omega,by simp[EV.bel];omega,fun k q=>?_,fun _ _ _ _ _ _=>rfl⟩
  simp only[EV.ren,nam]
  rw[if_pos (by omega)]
structure Tw where
 i:Nat
 s:Gs
 p0:List Ck
 b0:List TP
 p1:List Ck
 b1:List TP
structure TwOK (p:Gp) (z:Tw):Prop where
 lt:z.i≤20
 x0:TxOK p z.s z.p0 z.b0
 x1:TxOK p z.s z.p1 z.b1
 ok:GsOK p z.s
 over:z.s.over=false
 low:ovl z.s.put 64 8=zU 8
 dj:∀ b∈z.b0.map (·.1)++blkC z.p0,b ∉ z.b1.map (·.1)++blkC z.p1
 n0:totC z.p0≤300*z.i
 n1:totC z.p1≤300*z.i
theorem two_law (G:List Gl) (hG:Tabs G) (one other:List Ed) (h1:∀ e∈one,e.ok) (h2:∀ e∈other,e.ok) (room:Int) (hr1:-9223372036854775808≤room) (hr2:room≤9223372036854775807) (A:List EO) (hA:∀ o∈A,o.bel 0) (hA0:∀ o∈A,tyE o=0) (v1 v2:EV) (hv1:SlV A v1 one) (hv2:SlV A v2 other)
  (B0:List (Nat × EO)) (hB0:Bg A.length B0) (hBA:∀ j o,A[j]? = some o→lkp B0 j=some o) :
  ECalls Tryz.prog 3 [v1,v2,.int .i64 room] ⟨B0,A.length,G⟩ fun x s2=>x=.ret (.bool true)∧s2=⟨[],A.length,G⟩:=by
 have aw:=awake_c G hG
 have hwi:=withinI_c G room 20 (by omega) (by omega) hr1 hr2
 rw[show ((20:Nat):Int)=20 from rfl] at hwi
 have hm:(room % 20).toNat<20:=by omega
 generalize (room % 20).toNat=m at hwi hm
 have e1:(8:Int)+(m:Int)=((8+m:Nat):Int):=by omega
 refine ecalls_flat 151 [.tmp 6] Tryz.func3 rfl rfl rfl (by kernel_rfl) (le_ble rfl) trivial ?_
 repeat' (first|refine esem_seqK 1427247862847244753576141603062413014954147655 ?_|(refine stp ?_;simp only[go_sem])|(refine Pure.at (aw) (by simp) (by simp) rfl ?_;(try simp only[go_sem]))|(refine Pure.at (hwi) (by simp) (by simp) rfl ?_;(try simp only[go_sem,e1]))|(refine EffR.at (plain_c B0 G (8+m) (by omega) (by omega)) ?_)|(simp only[go_sem])|(simp (disch:=omega) only[wrap64E])|fail)
 rintro v B1 nx ⟨d,a,lns,lg,pl,hp,lv,pu,rfl,hB1,hK,hw,hta,hln⟩
 haveI:=hB1
 obtain ⟨w1,rfl,hs1⟩:=hv1.up (nb:=8+m) (d:=d) (a:=a) (lg:=lg) (pl:=pl) (hp:=hp) (lv:=lv) (pu:=pu) hw.dev.len
 obtain ⟨w2,rfl,hs2⟩:=hv2.up (nb:=8+m) (d:=d) (a:=a) (lg:=lg) (pl:=pl) (hp:=hp) (lv:=lv) (pu:=pu) hw.dev.len
 have hat:∀ j o,A[j]? = some o→AtG B1 nx j o:=fun j o h=>hK.keep ⟨(List.getElem?_eq_some_iff.1 h).1,hBA j o h⟩ (by rw[hA0 o (List.mem_of_getElem? h)];decide)
 have f1:=hs1.f
 have f2:=hs2.f
 have hS:StL (pZ (8+m)) (bcL (258+4*(8+m)) A) (11+(258+4*(8+m))+A.length):=bcL_StL hA
 repeat' (first|(refine esem_ground A hA hw hB1 hat hta hln [(0,w1),(1,w2),(8,.ptr (some ⟨0,0⟩)),(9,.bool true)] (by simp only[go_sem,weakL,renF,EV.ren,and_true,true_and];rfl) (by simp[frBel,EV.bel,f1,f2];omega) ?_)|refine esem_seqK 1427247862847244753576141603062413014954147655 ?_|refine esem_block ?_|(refine stp ?_;simp only[go_sem])|fail)
 have hpk:=pZ_ok (nb:=8+m) (by omega)
 clear hat hw hK hv1 hv2 hta hln hBA hwi aw
 generalize 11+(258+4*(8+m))+A.length=T at hS hs1 hs2 f1 f2 ⊢
 generalize bcL (258+4*(8+m)) A=B at hS hs1 hs2 ⊢
 generalize 8+m=nb at hS hpk ⊢
 haveI:=hS
 haveI:Big T:=⟨hS.big⟩
 have hbg:=hS.big
 obtain ⟨tot,htot⟩:∃ tot,IntKind.i64.wrap ((one.length:Int)+(other.length:Int))=tot:=⟨_,rfl⟩
 refine esem_loopP (fun z:Tw=>[(0,w1),(1,w2),(8,.ptr (some ⟨0,0⟩)),(10,.ptr (some ⟨T,0⟩)),(11,.ptr (some ⟨T+1,0⟩)),(12,.int .i64 z.i)]) (fun z:Tw=>(T+1,.cells [.str (flatC z.p0),.str (flatC z.p1)] 31 0 true 0)::(T,.cells [.int .u32 (refOf z.b0),.int .u32 (refOf z.b1)] 30 0 true 0)::stB (objs (pZ nb) z.s) B) (fun z:Tw=>T+2) (fun z:Tw=>TwOK (pZ nb) z) (fun z:Tw=>20 - z.i) (⟨0,sZ,[],[],[],[]⟩) ?_ ?_ ?_ ?_ ?_
 ·intro z hz
  refine ⟨by simp[frBel,EV.bel,f1,f2],?_,Nat.zero_le _⟩
  simp[blBelow,EO.bel,allBelow,EV.bel,Bg.blBelow]
 ·exact ⟨by decide,TxOK.nil _,TxOK.nil _,⟨List.nodup_nil,by simp[sZ],by simp[sZ],by simp[sZ]⟩,rfl,rfl,by simp[blkC],by simp[totC],by simp[totC]⟩
 ·simp only[go_sem,weakL]
 ·simp[go_sem,lessL];exact ⟨rfl,rfl⟩
 ·intro z hz
  simp only at hz ⊢
  have hz20:=hz.lt
  repeat' (first|(refine esem_holdR 13 ?_)|refine esem_seqK 1427247862847244753576141603062413014954147655 ?_|refine esem_block ?_|(refine stp ?_;simp only[go_sem,f1.2.2.2,f2.2.2.2,htot])|(simp (disch:=omega) only[wrap64E,wrapU8E,wrapU16E,wrapU32E,wrapU64E,wrapI32E,tdivE,tmodE])|(refine spl (fun h=>?_) (fun h=>?_)<;>((try simp only[opRun,opSkip]);(try simp only[go_sem,h])))|fail)
  ·refine ⟨?_⟩
   obtain ⟨k,hk,hk2⟩:∃ k:Nat,(z.i:Int) % 2=k∧k<2:=⟨z.i % 2,by omega,by omega⟩
   simp only[hk]
   refine esem_cut2 (fun _:Ed=>[(0,w1),(1,w2),(8,.ptr (some ⟨0,0⟩)),(10,.ptr (some ⟨T,0⟩)),(11,.ptr (some ⟨T+1,0⟩)),(12,.int .i64 z.i),(13,.int .i64 k),(14,.ptr (some ⟨T+2,0⟩))]) (fun e=>(T+2,.cells (edE e) 33 0 true 0)::(T+1,.cells [.str (flatC z.p0),.str (flatC z.p1)] 31 0 true 0)::(T,.cells [.int .u32 (refOf z.b0),.int .u32 (refOf z.b1)] 30 0 true 0)::stB (objs (pZ nb) z.s) B) (fun _=>T+3) Ed.ok ?_ ?_ (fun e he=>?_)
   ·intro e he
    refine ⟨by simp[frBel,EV.bel,f1,f2],?_,Nat.zero_le _⟩
    simp[blBelow,EO.bel,allBelow,EV.bel,Bg.blBelow,edE]
   ·repeat' (first|(refine esem_holdR 14 ?_)|(refine stp ?_;simp only[go_sem,f1.2.2.2])|(simp (disch:=omega) only[wrap64E,tdivE])|(refine spl (fun h=>?_) (fun h=>?_)<;>((try simp only[opRun,opSkip]);(try simp only[go_sem,h])))|fail)
    ·refine ⟨?_⟩
     have ei:(z.i:Int) / 2=((z.i / 2:Nat):Int):=by omega
     rcases hs1 with ⟨rfl,hnil⟩ | ⟨b,ty,rfl,hat⟩
     ·exfalso;have hl0:one.length=0:=by rw[hnil];rfl
      omega
     ·obtain ⟨e,he⟩:∃ e,one[z.i / 2]? = some e:=⟨one[z.i / 2]'(by omega),List.getElem?_eq_getElem _⟩
      have hX:=hat.f (p:=pZ nb)
      have ht3:=edsE_take3 he
      repeat' (first|(refine stp ?_;simp only[go_sem,hX,edE])|(simp only[go_sem,ht3,ei,edE])|(simp (disch:=omega) only[wrap64E,tdivE])|(refine and_om ?_ ?_;focus omega))
      all_goals (simp only[KeptX];exact ⟨e,h1 e (List.mem_of_getElem? he),by simp,by simp,by simp[go_sem,weakL],by simp[go_sem,lessL]⟩)
    ·refine esem_skip ?_
     simp only[KeptX];exact ⟨(⟨0,0,[]⟩:Ed),(by simp[Ed.ok]),by simp,by simp,by simp[go_sem,weakL],by simp[go_sem,lessL,edE]⟩
    ·refine esem_skip ?_
     simp only[KeptX];exact ⟨(⟨0,0,[]⟩:Ed),(by simp[Ed.ok]),by simp,by simp,by simp[go_sem,weakL],by simp[go_sem,lessL,edE]⟩
   repeat' (first|(refine esem_holdR 15 ?_)|refine esem_seqK 1427247862847244753576141603062413014954147655 ?_|(simp only[go_sem])|fail)
   refine ⟨?_⟩
   refine esem_cut2 (fun _:Ed=>[(0,w1),(1,w2),(8,.ptr (some ⟨0,0⟩)),(10,.ptr (some ⟨T,0⟩)),(11,.ptr (some ⟨T+1,0⟩)),(12,.int .i64 z.i),(13,.int .i64 k),(14,.ptr (some ⟨T+2,0⟩))]) (fun e=>(T+2,.cells (edE e) 33 0 true 0)::(T+1,.cells [.str (flatC z.p0),.str (flatC z.p1)] 31 0 true 0)::(T,.cells [.int .u32 (refOf z.b0),.int .u32 (refOf z.b1)] 30 0 true 0)::stB (objs (pZ nb) z.s) B) (fun _=>T+3) Ed.ok ?_ ?_ (fun e2 he2=>?_)
   ·intro e he
    refine ⟨by simp[frBel,EV.bel,f1,f2],?_,Nat.zero_le _⟩
    simp[blBelow,EO.bel,allBelow,EV.bel,Bg.blBelow,edE]
   ·repeat' (first|(refine esem_holdR 16 ?_)|(refine stp ?_;simp only[go_sem,f2.2.2.2])|(simp (disch:=omega) only[wrap64E,tdivE])|(refine spl (fun h=>?_) (fun h=>?_)<;>((try simp only[opRun,opSkip]);(try simp only[go_sem,h])))|fail)
    ·refine ⟨?_⟩
     have ei:(z.i:Int) / 2=((z.i / 2:Nat):Int):=by omega
     rcases hs2 with ⟨rfl,hnil⟩ | ⟨b,ty,rfl,hat⟩
     ·exfalso;have hl0:other.length=0:=by rw[hnil];rfl
      omega
     ·obtain ⟨e,he⟩:∃ e,other[z.i / 2]? = some e:=⟨other[z.i / 2]'(by omega),List.getElem?_eq_getElem _⟩
      have hX:=hat.f (p:=pZ nb)
      have ht3:=edsE_take3 he
      repeat' (first|(refine stp ?_;simp only[go_sem,hX,edE])|(simp only[go_sem,ht3,ei,edE])|(simp (disch:=omega) only[wrap64E,tdivE])|(refine and_om ?_ ?_;focus omega))
      all_goals (simp only[KeptX];exact ⟨e,h2 e (List.mem_of_getElem? he),by simp,by simp,by simp[go_sem,weakL],by simp[go_sem,lessL]⟩)
    ·refine esem_skip ?_
     simp only[KeptX];exact ⟨e,he,by simp,by simp,by simp[go_sem,weakL],by simp[go_sem,lessL,edE]⟩
    ·refine esem_skip ?_
     simp only[KeptX];exact ⟨e,he,by simp,by simp,by simp[go_sem,weakL],by simp[go_sem,lessL,edE]⟩
   repeat' (first|(refine esem_holdR 17 ?_)|refine esem_seqK 1427247862847244753576141603062413014954147655 ?_|(simp only[go_sem])|fail)
   refine ⟨?_⟩
   refine esem_cut2 (fun _:Ed=>[(0,w1),(1,w2),(8,.ptr (some ⟨0,0⟩)),(10,.ptr (some ⟨T,0⟩)),(11,.ptr (some ⟨T+1,0⟩)),(12,.int .i64 z.i),(13,.int .i64 k),(14,.ptr (some ⟨T+2,0⟩))]) (fun e=>(T+2,.cells (edE e) 33 0 true 0)::(T+1,.cells [.str (flatC z.p0),.str (flatC z.p1)] 31 0 true 0)::(T,.cells [.int .u32 (refOf z.b0),.int .u32 (refOf z.b1)] 30 0 true 0)::stB (objs (pZ nb) z.s) B) (fun _=>T+3) (fun e=>e.ok∧e.w.length≤300) ?_ ?_ (fun ed hed=>?_)
   ·intro e he
    refine ⟨by simp[frBel,EV.bel,f1,f2],?_,Nat.zero_le _⟩
    simp[blBelow,EO.bel,allBelow,EV.bel,Bg.blBelow,edE]
   ·repeat' (first|(refine stp ?_;simp only[go_sem,edE])|(refine spl (fun h=>?_) (fun h=>?_)<;>((try simp only[go_sem,h])))|(refine and_om ?_ ?_;focus omega))
    ·simp only[KeptX];exact ⟨⟨e2.at_,e2.n,e2.w.take 300⟩,⟨he2,by simp only[List.length_take];omega⟩,by simp,by simp,by simp[go_sem,weakL],by simp[go_sem,lessL]⟩
    ·refine esem_skip ?_
     simp only[KeptX];exact ⟨e2,⟨he2,by omega⟩,by simp,by simp,by simp[go_sem,weakL],by simp[go_sem,lessL]⟩
   obtain rfl | rfl:k=0∨k=1:=by omega
   ·have hlen:(flatC z.p0).length=totC z.p0:=flatC_length _
    have hcap:totC z.p0≤300*z.i:=hz.n0
    have hwt:=withinI_c G ed.at_ ((flatC z.p0).length+1) (by omega) (by omega) hed.1.1.1 hed.1.1.2
    have ew:((flatC z.p0).length:Int)+1=(((flatC z.p0).length+1:Nat):Int):=by omega
    have hal0:(ed.at_ % (((flatC z.p0).length+1:Nat):Int)).toNat≤totC z.p0:=by
     have q:=Int.emod_lt_of_pos ed.at_ (show (0:Int)<(((flatC z.p0).length+1:Nat):Int) by omega)
     omega
    generalize (ed.at_ % (((flatC z.p0).length+1:Nat):Int)).toNat=a at hwt hal0
    have hI:=cinsertD_c B G z.s hpk hz.over hz.ok hz.low z.p0 z.b0 hz.x0 a ed.w hal0 (by omega)
    repeat' (first|refine esem_seqK 1427247862847244753576141603062413014954147655 ?_|(refine drawQ (id:=19) mixed [(0,[]),(2,[]),(3,[]),(1,[]),(4,[]),(5,[]),(6,[]),(7,[]),(8,[])] (by kernel_rfl) ?_;simp only[go_sem,ew,edE])|(refine drawQ (id:=20) mixed [(0,[]),(1,[]),(2,[]),(4,[]),(5,[]),(3,[]),(6,[]),(7,[]),(8,[]),(9,[]),(10,[]),(11,[]),(12,[])] (by kernel_rfl) ?_;simp only[go_sem])|(refine Pure.at (hwt) (by simp) (by simp) rfl ?_;(try simp only[go_sem]))|(refine EffR.atW hI ?_ ?_ ?_)|(simp only[go_sem])|(simp (disch:=omega) only[wrap64E])|fail)
    ·simp[allBelow,EV.bel];try omega
    ·rintro v B' n ⟨s',rfl,rfl,hE,-⟩
     exact ⟨rfl,by rcases hE with ⟨_,_,rfl,-⟩ | ⟨rfl,-⟩<;>simp[EV.bel,allBelow],inferInstance⟩
    ·rintro v B' ⟨s',rfl,hE,-⟩ - hB'
     haveI:=hB'
     rcases hE with ⟨ps',tb',rfl,hed'⟩ | ⟨rfl,-⟩
     ·obtain ⟨hx',hdj'⟩:=hed'.frame hz.x1 (fun b hb w=>hz.dj b w hb)
      have hfl:=hed'.flat
      have ho':s'.over=false:=hed'.over.trans hz.over
      have hr':ovl s'.put 64 8=zU 8:=(ovl_same fun k hk=>hed'.low _ (by show 64+k<16512;omega)).trans hz.low
      have hR0:=cread_c B G s' hpk ho' hr' ps' tb' hed'.tx 0 (totC ps') (Nat.zero_le _) (Nat.le_refl _)
      have hR1:=cread_c B G s' hpk ho' hr' z.p1 z.b1 hx' 0 (totC z.p1) (Nat.zero_le _) (Nat.le_refl _)
      rw[List.drop_zero,Nat.sub_zero,List.take_of_length_le (l:=flatC _) (Nat.le_of_eq (flatC_length _)),show ((0:Nat):Int)=0 from rfl] at hR0 hR1
      have hfs:=hfl.symm
      have hl1:(List.take a (flatC z.p0)).length=a:=by rw[List.length_take,hlen];omega
      have hl2:List.take (totC z.p0 - a) (List.drop a (flatC z.p0))=List.drop a (flatC z.p0):=List.take_of_length_le (by rw[List.length_drop,hlen];omega)
      have hl3:(List.take a (flatC z.p0)++ed.w).length=a+ed.w.length:=by rw[List.length_append,hl1]
      have hl4:(List.drop a (flatC z.p0)).length=totC z.p0 - a:=by rw[List.length_drop,hlen]
      have htot':totC ps'=a+ed.w.length+(totC z.p0 - a):=by
       rw[← flatC_length ps',hfl,List.length_append,hl3,hl4]
      have hi1:z.i+1≤20:=by omega
      have hn':totC ps'≤300*(z.i+1):=by omega
      have hno:totC z.p1≤300*(z.i+1):=by have:=hz.n1;omega
      repeat' (first|(refine esem_holdR 29 ?_)|refine esem_seqK 1427247862847244753576141603062413014954147655 ?_|refine esem_block ?_|(refine stp ?_;simp only[go_sem])|(refine drawQ (id:=26) mixed [(0,[]),(1,[]),(2,[]),(4,[]),(6,[]),(9,[]),(10,[]),(12,[]),(3,[]),(5,[]),(7,[]),(8,[]),(11,[]),(13,[]),(14,[]),(15,[]),(16,[])] (by kernel_rfl) ?_;simp only[go_sem,hl1,hl2,hl3,hl4,hfs,flatC_length])|(refine drawQ (id:=30) mixed [(0,[]),(1,[]),(2,[]),(4,[]),(5,[]),(3,[]),(6,[]),(7,[]),(8,[]),(9,[]),(10,[]),(11,[]),(12,[]),(13,[])] (by kernel_rfl) ?_;simp only[go_sem,flatC_length])|(refine EffW.at (hR0 ) [] rfl (by (simp;done)) ?_;(try simp only[go_sem]))|(refine esem_loopN 1427247862847244753576141603062413014954147655 3 ?_;simp only[go_sem])|(refine and_om ?_ ?_;focus omega))
      refine ⟨?_⟩
      repeat' (first|refine esem_seqK 1427247862847244753576141603062413014954147655 ?_|refine esem_block ?_|(refine stp ?_;simp only[go_sem])|(refine drawQ (id:=30) mixed [(0,[]),(1,[]),(2,[]),(4,[]),(5,[]),(3,[]),(6,[]),(7,[]),(8,[]),(9,[]),(10,[]),(11,[]),(12,[]),(13,[])] (by kernel_rfl) ?_;simp only[go_sem,flatC_length])|(refine EffW.at (hR1 ) [] rfl (by (simp;done)) ?_;(try simp only[go_sem]))|(simp (disch:=omega) only[wrap64E])|fail)
      (refine ⟨⟨z.i+1,s',ps',tb',z.p1,z.b1⟩,T+2,[],?_,?_,rfl,rfl,?_,⟨?_,rfl,?_,?_,?_,?_,?_⟩⟩;rotate_left;(focus (simp only[];omega));(focus (simp[go_sem,weakL,f1,f2]));(focus (omega));(focus simp);(focus (simp));(focus (simp only[];omega));(focus (simp));(focus (simp));(try simp only[]))
      exact ⟨hi1,hed'.tx,hx',hed'.ok,ho',hr',fun b hb w=>hdj' b w hb,hn',hno⟩
     ·repeat' (first|refine esem_seqK 1427247862847244753576141603062413014954147655 ?_|(refine stp ?_;simp only[go_sem])|fail)
      exact done_flat rfl trivial
   ·have hlen:(flatC z.p1).length=totC z.p1:=flatC_length _
    have hcap:totC z.p1≤300*z.i:=hz.n1
    have hwt:=withinI_c G ed.at_ ((flatC z.p1).length+1) (by omega) (by omega) hed.1.1.1 hed.1.1.2
    have ew:((flatC z.p1).length:Int)+1=(((flatC z.p1).length+1:Nat):Int):=by omega
    have hal0:(ed.at_ % (((flatC z.p1).length+1:Nat):Int)).toNat≤totC z.p1:=by
     have q:=Int.emod_lt_of_pos ed.at_ (show (0:Int)<(((flatC z.p1).length+1:Nat):Int) by omega)
     omega
    generalize (ed.at_ % (((flatC z.p1).length+1:Nat):Int)).toNat=a at hwt hal0
    have hI:=cinsertD_c B G z.s hpk hz.over hz.ok hz.low z.p1 z.b1 hz.x1 a ed.w hal0 (by omega)
    repeat' (first|refine esem_seqK 1427247862847244753576141603062413014954147655 ?_|(refine drawQ (id:=19) mixed [(0,[]),(2,[]),(3,[]),(1,[]),(4,[]),(5,[]),(6,[]),(7,[]),(8,[])] (by kernel_rfl) ?_;simp only[go_sem,ew,edE])|(refine drawQ (id:=20) mixed [(0,[]),(1,[]),(2,[]),(4,[]),(5,[]),(3,[]),(6,[]),(7,[]),(8,[]),(9,[]),(10,[]),(11,[]),(12,[])] (by kernel_rfl) ?_;simp only[go_sem])|(refine Pure.at (hwt) (by simp) (by simp) rfl ?_;(try simp only[go_sem]))|(refine EffR.atW hI ?_ ?_ ?_)|(simp only[go_sem])|(simp (disch:=omega) only[wrap64E])|fail)
    ·simp[allBelow,EV.bel];try omega
    ·rintro v B' n ⟨s',rfl,rfl,hE,-⟩
     exact ⟨rfl,by rcases hE with ⟨_,_,rfl,-⟩ | ⟨rfl,-⟩<;>simp[EV.bel,allBelow],inferInstance⟩
    ·rintro v B' ⟨s',rfl,hE,-⟩ - hB'
     haveI:=hB'
     rcases hE with ⟨ps',tb',rfl,hed'⟩ | ⟨rfl,-⟩
     ·obtain ⟨hx',hdj'⟩:=hed'.frame hz.x0 (fun b hb w=>hz.dj b hb w)
      have hfl:=hed'.flat
      have ho':s'.over=false:=hed'.over.trans hz.over
      have hr':ovl s'.put 64 8=zU 8:=(ovl_same fun k hk=>hed'.low _ (by show 64+k<16512;omega)).trans hz.low
      have hR0:=cread_c B G s' hpk ho' hr' ps' tb' hed'.tx 0 (totC ps') (Nat.zero_le _) (Nat.le_refl _)
      have hR1:=cread_c B G s' hpk ho' hr' z.p0 z.b0 hx' 0 (totC z.p0) (Nat.zero_le _) (Nat.le_refl _)
      rw[List.drop_zero,Nat.sub_zero,List.take_of_length_le (l:=flatC _) (Nat.le_of_eq (flatC_length _)),show ((0:Nat):Int)=0 from rfl] at hR0 hR1
      have hfs:=hfl.symm
      have hl1:(List.take a (flatC z.p1)).length=a:=by rw[List.length_take,hlen];omega
      have hl2:List.take (totC z.p1 - a) (List.drop a (flatC z.p1))=List.drop a (flatC z.p1):=List.take_of_length_le (by rw[List.length_drop,hlen];omega)
      have hl3:(List.take a (flatC z.p1)++ed.w).length=a+ed.w.length:=by rw[List.length_append,hl1]
      have hl4:(List.drop a (flatC z.p1)).length=totC z.p1 - a:=by rw[List.length_drop,hlen]
      have htot':totC ps'=a+ed.w.length+(totC z.p1 - a):=by
       rw[← flatC_length ps',hfl,List.length_append,hl3,hl4]
      have hi1:z.i+1≤20:=by omega
      have hn':totC ps'≤300*(z.i+1):=by omega
      have hno:totC z.p0≤300*(z.i+1):=by have:=hz.n0;omega
      repeat' (first|(refine esem_holdR 29 ?_)|refine esem_seqK 1427247862847244753576141603062413014954147655 ?_|refine esem_block ?_|(refine stp ?_;simp only[go_sem])|(refine drawQ (id:=26) mixed [(0,[]),(1,[]),(2,[]),(4,[]),(6,[]),(9,[]),(10,[]),(12,[]),(3,[]),(5,[]),(7,[]),(8,[]),(11,[]),(13,[]),(14,[]),(15,[]),(16,[])] (by kernel_rfl) ?_;simp only[go_sem,hl1,hl2,hl3,hl4,hfs,flatC_length])|(refine drawQ (id:=30) mixed [(0,[]),(1,[]),(2,[]),(4,[]),(5,[]),(3,[]),(6,[]),(7,[]),(8,[]),(9,[]),(10,[]),(11,[]),(12,[]),(13,[])] (by kernel_rfl) ?_;simp only[go_sem,flatC_length])|(refine EffW.at (hR1 ) [] rfl (by (simp;done)) ?_;(try simp only[go_sem]))|(refine esem_loopN 1427247862847244753576141603062413014954147655 3 ?_;simp only[go_sem])|(refine and_om ?_ ?_;focus omega))
      refine ⟨?_⟩
      repeat' (first|refine esem_seqK 1427247862847244753576141603062413014954147655 ?_|refine esem_block ?_|(refine stp ?_;simp only[go_sem])|(refine drawQ (id:=30) mixed [(0,[]),(1,[]),(2,[]),(4,[]),(5,[]),(3,[]),(6,[]),(7,[]),(8,[]),(9,[]),(10,[]),(11,[]),(12,[]),(13,[])] (by kernel_rfl) ?_;simp only[go_sem,flatC_length])|(refine EffW.at (hR0 ) [] rfl (by (simp;done)) ?_;(try simp only[go_sem]))|(simp (disch:=omega) only[wrap64E])|fail)
      (refine ⟨⟨z.i+1,s',z.p0,z.b0,ps',tb'⟩,T+2,[],?_,?_,rfl,rfl,?_,⟨?_,rfl,?_,?_,?_,?_,?_⟩⟩;rotate_left;(focus (simp only[];omega));(focus (simp[go_sem,weakL,f1,f2]));(focus (omega));(focus simp);(focus (simp));(focus (simp only[];omega));(focus (simp));(focus (simp));(try simp only[]))
      exact ⟨hi1,hx',hed'.tx,hed'.ok,ho',hr',fun b hb w=>hdj' b hb w,hno,hn'⟩
     ·repeat' (first|refine esem_seqK 1427247862847244753576141603062413014954147655 ?_|(refine stp ?_;simp only[go_sem])|fail)
      exact done_flat rfl trivial
  all_goals exact done_flat rfl trivial
end Go.Proofs.YtgajmgkhlkghjaaGreatDoor
