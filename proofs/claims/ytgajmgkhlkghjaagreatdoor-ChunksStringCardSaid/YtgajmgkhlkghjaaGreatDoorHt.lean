/-
  Own work: a part of the proof that the last text closes.
-/
import Derived.Test.YtgajmgkhlkghjaaGreatDoorHs
namespace Go.Proofs.YtgajmgkhlkghjaaGreatDoor
open Go.E
set_option linter.all false
set_option maxRecDepth 100000
set_option maxHeartbeats 16000000
theorem withinI_c (G:List Gl) (i:Int) (n:Nat) (h0:1≤n) (hn:n≤9000000000) (h1:-9223372036854775808≤i) (h2:i≤9223372036854775807):E.Pure G Tryz.prog 9 [.int .i64 i,.int .i64 n] (.int .i64 ((i % (n:Int)).toNat:Nat)):=by
 refine pure_hid fun V hV=>?_
 have hp:(0:Int)<n:=by omega
 have hm1:i.tmod n<n:=by have:=Int.tmod_lt_of_pos i hp;omega
 have hm2:-(n:Int)<i.tmod n:=by
  have:=Int.lt_tmod_of_pos i hp;omega
 have he:(i.tmod n<0∧i.tmod n+n=i % n)∨(0≤i.tmod n∧i.tmod n=i % n):=by
  have q:=Int.tmod_eq_emod (a:=i) (b:=n);have q3:=Int.emod_nonneg i (by omega:(n:Int) ≠ 0);have q4:=Int.emod_lt_of_pos i hp
  split at q
  ·exact .inr ⟨by omega,by omega⟩
  ·have:(((n:Int).natAbs:Nat):Int)=n:=by omega
   exact .inl ⟨by omega,by omega⟩
 have hr0:0≤i % (n:Int):=Int.emod_nonneg i (by omega);have hcast:(((i % (n:Int)).toNat:Nat):Int)=i % n:=Int.toNat_of_nonneg hr0;rw[hcast] at hV
 have hn0:((n:Int)=0)=False:=by simp;omega
 refine zQV 14 [.tmp 4] Tryz.func9 ?_
 repeat' (first|refine zQQ 531 ?_|(refine stp ?_;simp only[go_sem,hn0])|(simp (disch:=omega) only[zQK])|(refine spl (fun h=>?_) (fun h=>?_)<;>((try simp only[go_sem,h])))|fail)
 ·rw[show i.tmod (n:Int)+(n:Int)=i % (n:Int) by omega];(refine done_zero (by simp[EV.bel]) ?_;rw[hV])
 ·rw[show i.tmod (n:Int)=i % (n:Int) by omega];(refine done_zero (by simp[EV.bel]) ?_;rw[hV])
structure Ed where
 at_:Int
 n:Int
 w:List UInt8
def edE (e:Ed):List EV:=[.int .i64 e.at_,.int .i64 e.n,.str e.w]
def edsE (l:List Ed):List EV:=l.flatMap edE
def Ed.ok (e:Ed):Prop:=(-9223372036854775808≤e.at_∧e.at_≤9223372036854775807)∧-9223372036854775808≤e.n∧e.n≤9223372036854775807
theorem edsE_length (l:List Ed):(edsE l).length=l.length*3:=by
 induction l with
 | nil=>rfl
 | cons x l ih=>unfold edsE at ih ⊢;rw[List.flatMap_cons,List.length_append,ih];simp[edE];omega
theorem edsE_take3 {l:List Ed} {i:Nat} {x:Ed} (h:l[i]? = some x):((edsE l).drop (i*3)).take 3=edE x∧i*3+3≤(edsE l).length:=by
 have hl:=(List.getElem?_eq_some_iff.1 h).1;refine ⟨?_,by rw[edsE_length];omega⟩;have e:l=l.take i++x::l.drop (i+1):=by
  conv=>lhs;rw[← List.take_append_drop i l,List.drop_eq_getElem_cons hl]
  rw[(List.getElem?_eq_some_iff.1 h).2]
 have hlen:(edsE (l.take i)).length=i*3:=by rw[edsE_length,List.length_take];omega
 conv=>lhs;rw[e]
 unfold edsE at hlen ⊢
 rw[List.flatMap_append,List.drop_left' hlen,List.flatMap_cons];exact List.take_left' rfl
theorem edsE_below (l:List Ed) (k:Nat):zQX k (edsE l):=allBelow_flat fun _ _=>⟨trivial,trivial,trivial,trivial⟩
def SlV (A:List EO) (v:EV) (l:List Ed):Prop:=(v=.slice none 0 0∧l=[])∨∃ b ty,v=.slice (some ⟨b,0⟩) l.length l.length∧A[b]? = some (.cells (edsE l) ty 3 false 0)
def SlG (B:List (Nat × EO)) (t:Nat) (v:EV) (l:List Ed):Prop:=(v=.slice none 0 0∧l=[])∨∃ b ty,v=.slice (some ⟨b,0⟩) l.length l.length∧AtB B t b (.cells (edsE l) ty 3 false 0)
theorem SlV.up {A:List EO} {v:EV} {l:List Ed} (h:SlV A v l) {nb d a lg pl hp lv pu:Nat} {lns:List Nat} (hl:lns.length=258+4*nb) :
  ∃ v',v=v'.ren (nam 0 (canQ d a lns lg pl hp lv pu A.length))∧SlG (bcL (258+4*nb) A) (11+(258+4*nb)+A.length) v' l:=by
 rcases h with ⟨rfl,rfl⟩ | ⟨b,ty,rfl,h⟩
 ·exact ⟨.slice none 0 0,rfl,.inl ⟨rfl,rfl⟩⟩
 ·have hb:=(List.getElem?_eq_some_iff.1 h).1;refine ⟨.slice (some ⟨11+(258+4*nb)+b,0⟩) l.length l.length,?_,.inr ⟨_,ty,rfl,bcL_arg h⟩⟩;simp only[EV.ren];rw[← hl,canQ_arg _ _ _ _ _ _ _ _ _ _ hb]
theorem SlG.f {B:List (Nat × EO)} {t:Nat} {v:EV} {l:List Ed} (h:SlG B t v l):(∀ k,v.bel (t+k)=True)∧v.bel t=True∧(∀ k q,v.ren (nam (t+k) q)=v)∧∀ (e a b:Nat) (z:List EV) (s:ES) (K:EV→Prop),elen ⟨.slice e,a,b,z⟩ v s K=K (.int .i64 l.length):=by
 rcases h with ⟨rfl,rfl⟩ | ⟨b,ty,rfl,h⟩
 ·exact ⟨fun _=>by simp[EV.bel],by simp[EV.bel],fun _ _=>rfl,fun _ _ _ _ _ _=>rfl⟩
 ·have:=h.lt;refine ⟨fun k=>by simp[EV.bel];omega,by simp[EV.bel];omega,fun k q=>?_,fun _ _ _ _ _ _=>rfl⟩;simp only[EV.ren,nam];rw[if_pos (by omega)]
structure Tw where
 i:Nat
 s:Gs
 p0:List Ck
 b0:List TP
 p1:List Ck
 b1:List TP
structure TwOK (p:Gp) (z:Tw):Prop where
 lt:z.i≤20
 x0:TxOK p z.s z.p0 z.b0
 x1:TxOK p z.s z.p1 z.b1
 ok:GsOK p z.s
 over:z.s.over=false
 low:ovl z.s.put 64 8=zU 8
 dj:∀ b∈z.b0.map (·.1)++blkC z.p0,b ∉ z.b1.map (·.1)++blkC z.p1
 n0:totC z.p0≤300*z.i
 n1:totC z.p1≤300*z.i
end Go.Proofs.YtgajmgkhlkghjaaGreatDoor
