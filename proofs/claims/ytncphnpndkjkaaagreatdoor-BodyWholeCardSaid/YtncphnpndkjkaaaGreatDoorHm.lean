/-
  Own work: a part of the proof that the last text closes.
-/
import Derived.Test.YtncphnpndkjkaaaGreatDoorHa
import Derived.Test.YtncphnpndkjkaaaGreatDoorFi
import Derived.Test.YtncphnpndkjkaaaGreatDoorHl
import Derived.Lib.DecodeNEq
import Derived.WalkKit
import Derived.Deep.QuietTactic
import Derived.BigQuiet
namespace Go.Proofs.YtncphnpndkjkaaaGreatDoor
set_option linter.all false
open Go.RowKit
set_option maxRecDepth 100000
set_option maxHeartbeats 16000000
def zRZ (n x0 x1 x2:Nat):Bool:=decide (Lib.firstT x0 % 8≤n) || (decide (1<n) && (decide (x1<Lib.accLo (Lib.firstT x0 / 16)) || decide (Lib.accHi (Lib.firstT x0 / 16)<x1))) || (decide (2<n) && (decide (x2<128) || decide (191<x2)))
theorem _root_.Go.Lib.below_draws_alloc (w:World) (o:Obj) (n:Nat):Below w.heap.size w ((w.alloc o).drewN n):=by
 have h:=(Below.refl w.heap.size w).alloc (Nat.le_refl _) o;exact ⟨h.os,h.tape,h.output,h.size,h.block⟩
theorem full_k (s:ByteArray) (w:World) (hT:Lib.Utf8Tabs 0 1 w) (h0:0<s.size) (h3:s.size≤3):Calls Tryz.prog 209 #[.string s] w fun e w'=>e=.returned (.bool (zRZ s.size (s.get! 0).toNat (s.get! 1).toNat (s.get! 2).toNat))∧Below w.heap.size w w':=by
 obtain ⟨x0,hx0⟩:∃ x0,s.get! 0=x0:=⟨_,rfl⟩;obtain ⟨x1,hx1⟩:∃ x1,s.get! 1=x1:=⟨_,rfl⟩;obtain ⟨x2,hx2⟩:∃ x2,s.get! 2=x2:=⟨_,rfl⟩;have hs0:s[0]'(by omega)=x0:=by rw[← hx0];exact (Utf8W.get!_of_lt s 0 (by omega)).symm
 have l0:=x0.toNat_lt;have l1:=x1.toNat_lt;have l2:=x2.toNat_lt;rw[hx0,hx1,hx2];have hc0:=hT.1 x0.toNat (by omega)
 rcases Lib.firstT_cases x0.toNat with hX | hX | hX | hX | hX | hX | hX | hX | hX
 ·have hv:zRZ s.size x0.toNat x1.toNat x2.toNat=true:=by unfold zRZ;rw[hX];simp
  rw[hv];rw[hX] at hc0
  clear hT hX
  go_enter Tryz.func209,Tryz.ntmps209
  go_wp2
  all_goals (go_ret;exact ⟨rfl,Below.refl _ _⟩)
 ·have hv:zRZ s.size x0.toNat x1.toNat x2.toNat=true:=by unfold zRZ;rw[hX];simp;omega
  rw[hv];rw[hX] at hc0
  clear hT hX
  go_enter Tryz.func209,Tryz.ntmps209
  go_wp2
  all_goals (go_ret;exact ⟨rfl,Below.refl _ _⟩)
 ·skip
  rw[hX] at hc0
  have ha0:=(hT.2 0 (by omega)).1;have ha1:=(hT.2 0 (by omega)).2;simp only[Lib.accLo,Lib.accHi,Nat.reduceMul,Nat.reduceAdd,Nat.reduceEqDiff,if_true,if_false] at ha0 ha1
  have hv:zRZ s.size x0.toNat x1.toNat x2.toNat=zRZ s.size x0.toNat x1.toNat x2.toNat:=rfl
  conv at hv=>rhs;unfold zRZ;rw[hX]
  simp only[Lib.accLo,Lib.accHi,Nat.reduceEqDiff,if_true,if_false,Nat.reduceMod,Nat.reduceDiv] at hv
  rw[hv];clear hT hX hv
  rcases (show s.size=1∨s.size=2∨s.size=3 by omega) with h1 | h1 | h1
  ·have hz:(s.size:Int)=1:=by omega
   have hd:decide ((1:Int)<(s.size:Int))=false:=by simp;omega
   go_enter Tryz.func209,Tryz.ntmps209
   go_wp2
   try go_quiet (fail)
   go_wp2
   all_goals (go_ret;refine ⟨?_,by exact Lib.below_draws_alloc w _ _⟩;simp[h1];try omega)
  ·have hz:(s.size:Int)=2:=by omega
   have hz1:(1:Int)<(s.size:Int):=by omega
   have hs1:s[1]'(by omega)=x1:=by rw[← hx1];exact (Utf8W.get!_of_lt s 1 (by omega)).symm
   rcases (show (x1.toNat:Int)<128∨128≤(x1.toNat:Int) by omega) with hl | hl
   ·have hd:decide ((x1.toNat:Int)<128)=true:=by simp;omega
    go_enter Tryz.func209,Tryz.ntmps209
    go_wp2
    try go_quiet (fail)
    go_wp2
    all_goals (go_ret;refine ⟨?_,by exact Below.refl _ _⟩;simp[h1];try omega)
   ·have hd:decide ((x1.toNat:Int)<128)=false:=by simp;omega
    go_enter Tryz.func209,Tryz.ntmps209
    go_wp2
    try go_quiet (fail)
    go_wp2
    all_goals (go_ret;refine ⟨?_,by exact Below.refl _ _⟩;simp[h1];try omega)
  ·have hz:(s.size:Int)=3:=by omega
   have hz1:(1:Int)<(s.size:Int):=by omega
   have hz2:(2:Int)<(s.size:Int):=by omega
   have hs1:s[1]'(by omega)=x1:=by rw[← hx1];exact (Utf8W.get!_of_lt s 1 (by omega)).symm
   have hs2:s[2]'(by omega)=x2:=by rw[← hx2];exact (Utf8W.get!_of_lt s 2 (by omega)).symm
   rcases (show (x1.toNat:Int)<128∨128≤(x1.toNat:Int) by omega) with hl | hl
   ·have hd:decide ((x1.toNat:Int)<128)=true:=by simp;omega
    go_enter Tryz.func209,Tryz.ntmps209
    go_wp2
    try go_quiet (fail)
    go_wp2
    all_goals (go_ret;refine ⟨?_,by exact Below.refl _ _⟩;simp[h1];try omega)
   ·have hd:decide ((x1.toNat:Int)<128)=false:=by simp;omega
    go_enter Tryz.func209,Tryz.ntmps209
    go_wp2
    try go_quiet (fail)
    go_wp2
    all_goals (go_ret;refine ⟨?_,by exact Below.refl _ _⟩;simp[h1];try omega)
 ·skip
  rw[hX] at hc0
  have ha0:=(hT.2 1 (by omega)).1;have ha1:=(hT.2 1 (by omega)).2;simp only[Lib.accLo,Lib.accHi,Nat.reduceMul,Nat.reduceAdd,Nat.reduceEqDiff,if_true,if_false] at ha0 ha1
  have hv:zRZ s.size x0.toNat x1.toNat x2.toNat=zRZ s.size x0.toNat x1.toNat x2.toNat:=rfl
  conv at hv=>rhs;unfold zRZ;rw[hX]
  simp only[Lib.accLo,Lib.accHi,Nat.reduceEqDiff,if_true,if_false,Nat.reduceMod,Nat.reduceDiv] at hv
  rw[hv];clear hT hX hv
  rcases (show s.size=1∨s.size=2∨s.size=3 by omega) with h1 | h1 | h1
  ·have hz:(s.size:Int)=1:=by omega
   have hd:decide ((1:Int)<(s.size:Int))=false:=by simp;omega
   go_enter Tryz.func209,Tryz.ntmps209
   go_wp2
   try go_quiet (fail)
   go_wp2
   all_goals (go_ret;refine ⟨?_,by exact Lib.below_draws_alloc w _ _⟩;simp[h1];try omega)
  ·have hz:(s.size:Int)=2:=by omega
   have hz1:(1:Int)<(s.size:Int):=by omega
   have hs1:s[1]'(by omega)=x1:=by rw[← hx1];exact (Utf8W.get!_of_lt s 1 (by omega)).symm
   rcases (show (x1.toNat:Int)<160∨160≤(x1.toNat:Int) by omega) with hl | hl
   ·have hd:decide ((x1.toNat:Int)<160)=true:=by simp;omega
    go_enter Tryz.func209,Tryz.ntmps209
    go_wp2
    try go_quiet (fail)
    go_wp2
    all_goals (go_ret;refine ⟨?_,by exact Lib.below_draws_alloc w _ _⟩;simp[h1];try omega)
   ·have hd:decide ((x1.toNat:Int)<160)=false:=by simp;omega
    go_enter Tryz.func209,Tryz.ntmps209
    go_wp2
    try go_quiet (fail)
    go_wp2
    all_goals (go_ret;refine ⟨?_,by exact Lib.below_draws_alloc w _ _⟩;simp[h1];try omega)
  ·have hz:(s.size:Int)=3:=by omega
   have hz1:(1:Int)<(s.size:Int):=by omega
   have hz2:(2:Int)<(s.size:Int):=by omega
   have hs1:s[1]'(by omega)=x1:=by rw[← hx1];exact (Utf8W.get!_of_lt s 1 (by omega)).symm
   have hs2:s[2]'(by omega)=x2:=by rw[← hx2];exact (Utf8W.get!_of_lt s 2 (by omega)).symm
   rcases (show (x1.toNat:Int)<160∨160≤(x1.toNat:Int) by omega) with hl | hl
   ·have hd:decide ((x1.toNat:Int)<160)=true:=by simp;omega
    go_enter Tryz.func209,Tryz.ntmps209
    go_wp2
    try go_quiet (fail)
    go_wp2
    all_goals (go_ret;refine ⟨?_,by exact Below.refl _ _⟩;simp[h1];try omega)
   ·have hd:decide ((x1.toNat:Int)<160)=false:=by simp;omega
    go_enter Tryz.func209,Tryz.ntmps209
    go_wp2
    try go_quiet (fail)
    go_wp2
    all_goals (go_ret;refine ⟨?_,by exact Below.refl _ _⟩;simp[h1];try omega)
 ·skip
  rw[hX] at hc0
  have ha0:=(hT.2 0 (by omega)).1;have ha1:=(hT.2 0 (by omega)).2;simp only[Lib.accLo,Lib.accHi,Nat.reduceMul,Nat.reduceAdd,Nat.reduceEqDiff,if_true,if_false] at ha0 ha1
  have hv:zRZ s.size x0.toNat x1.toNat x2.toNat=zRZ s.size x0.toNat x1.toNat x2.toNat:=rfl
  conv at hv=>rhs;unfold zRZ;rw[hX]
  simp only[Lib.accLo,Lib.accHi,Nat.reduceEqDiff,if_true,if_false,Nat.reduceMod,Nat.reduceDiv] at hv
  rw[hv];clear hT hX hv
  rcases (show s.size=1∨s.size=2∨s.size=3 by omega) with h1 | h1 | h1
  ·have hz:(s.size:Int)=1:=by omega
   have hd:decide ((1:Int)<(s.size:Int))=false:=by simp;omega
   go_enter Tryz.func209,Tryz.ntmps209
   go_wp2
   try go_quiet (fail)
   go_wp2
   all_goals (go_ret;refine ⟨?_,by exact Lib.below_draws_alloc w _ _⟩;simp[h1];try omega)
  ·have hz:(s.size:Int)=2:=by omega
   have hz1:(1:Int)<(s.size:Int):=by omega
   have hs1:s[1]'(by omega)=x1:=by rw[← hx1];exact (Utf8W.get!_of_lt s 1 (by omega)).symm
   rcases (show (x1.toNat:Int)<128∨128≤(x1.toNat:Int) by omega) with hl | hl
   ·have hd:decide ((x1.toNat:Int)<128)=true:=by simp;omega
    go_enter Tryz.func209,Tryz.ntmps209
    go_wp2
    try go_quiet (fail)
    go_wp2
    all_goals (go_ret;refine ⟨?_,by exact Lib.below_draws_alloc w _ _⟩;simp[h1];try omega)
   ·have hd:decide ((x1.toNat:Int)<128)=false:=by simp;omega
    go_enter Tryz.func209,Tryz.ntmps209
    go_wp2
    try go_quiet (fail)
    go_wp2
    all_goals (go_ret;refine ⟨?_,by exact Lib.below_draws_alloc w _ _⟩;simp[h1];try omega)
  ·have hz:(s.size:Int)=3:=by omega
   have hz1:(1:Int)<(s.size:Int):=by omega
   have hz2:(2:Int)<(s.size:Int):=by omega
   have hs1:s[1]'(by omega)=x1:=by rw[← hx1];exact (Utf8W.get!_of_lt s 1 (by omega)).symm
   have hs2:s[2]'(by omega)=x2:=by rw[← hx2];exact (Utf8W.get!_of_lt s 2 (by omega)).symm
   rcases (show (x1.toNat:Int)<128∨128≤(x1.toNat:Int) by omega) with hl | hl
   ·have hd:decide ((x1.toNat:Int)<128)=true:=by simp;omega
    go_enter Tryz.func209,Tryz.ntmps209
    go_wp2
    try go_quiet (fail)
    go_wp2
    all_goals (go_ret;refine ⟨?_,by exact Below.refl _ _⟩;simp[h1];try omega)
   ·have hd:decide ((x1.toNat:Int)<128)=false:=by simp;omega
    go_enter Tryz.func209,Tryz.ntmps209
    go_wp2
    try go_quiet (fail)
    go_wp2
    all_goals (go_ret;refine ⟨?_,by exact Below.refl _ _⟩;simp[h1];try omega)
 ·skip
  rw[hX] at hc0
  have ha0:=(hT.2 2 (by omega)).1;have ha1:=(hT.2 2 (by omega)).2;simp only[Lib.accLo,Lib.accHi,Nat.reduceMul,Nat.reduceAdd,Nat.reduceEqDiff,if_true,if_false] at ha0 ha1
  have hv:zRZ s.size x0.toNat x1.toNat x2.toNat=zRZ s.size x0.toNat x1.toNat x2.toNat:=rfl
  conv at hv=>rhs;unfold zRZ;rw[hX]
  simp only[Lib.accLo,Lib.accHi,Nat.reduceEqDiff,if_true,if_false,Nat.reduceMod,Nat.reduceDiv] at hv
  rw[hv];clear hT hX hv
  rcases (show s.size=1∨s.size=2∨s.size=3 by omega) with h1 | h1 | h1
  ·have hz:(s.size:Int)=1:=by omega
   have hd:decide ((1:Int)<(s.size:Int))=false:=by simp;omega
   go_enter Tryz.func209,Tryz.ntmps209
   go_wp2
   try go_quiet (fail)
   go_wp2
   all_goals (go_ret;refine ⟨?_,by exact Lib.below_draws_alloc w _ _⟩;simp[h1];try omega)
  ·have hz:(s.size:Int)=2:=by omega
   have hz1:(1:Int)<(s.size:Int):=by omega
   have hs1:s[1]'(by omega)=x1:=by rw[← hx1];exact (Utf8W.get!_of_lt s 1 (by omega)).symm
   rcases (show (x1.toNat:Int)<128∨128≤(x1.toNat:Int) by omega) with hl | hl
   ·have hd:decide ((x1.toNat:Int)<128)=true:=by simp;omega
    go_enter Tryz.func209,Tryz.ntmps209
    go_wp2
    try go_quiet (fail)
    go_wp2
    all_goals (go_ret;refine ⟨?_,by exact Lib.below_draws_alloc w _ _⟩;simp[h1];try omega)
   ·have hd:decide ((x1.toNat:Int)<128)=false:=by simp;omega
    go_enter Tryz.func209,Tryz.ntmps209
    go_wp2
    try go_quiet (fail)
    go_wp2
    all_goals (go_ret;refine ⟨?_,by exact Lib.below_draws_alloc w _ _⟩;simp[h1];try omega)
  ·have hz:(s.size:Int)=3:=by omega
   have hz1:(1:Int)<(s.size:Int):=by omega
   have hz2:(2:Int)<(s.size:Int):=by omega
   have hs1:s[1]'(by omega)=x1:=by rw[← hx1];exact (Utf8W.get!_of_lt s 1 (by omega)).symm
   have hs2:s[2]'(by omega)=x2:=by rw[← hx2];exact (Utf8W.get!_of_lt s 2 (by omega)).symm
   rcases (show (x1.toNat:Int)<128∨128≤(x1.toNat:Int) by omega) with hl | hl
   ·have hd:decide ((x1.toNat:Int)<128)=true:=by simp;omega
    go_enter Tryz.func209,Tryz.ntmps209
    go_wp2
    try go_quiet (fail)
    go_wp2
    all_goals (go_ret;refine ⟨?_,by exact Below.refl _ _⟩;simp[h1];try omega)
   ·have hd:decide ((x1.toNat:Int)<128)=false:=by simp;omega
    go_enter Tryz.func209,Tryz.ntmps209
    go_wp2
    try go_quiet (fail)
    go_wp2
    all_goals (go_ret;refine ⟨?_,by exact Below.refl _ _⟩;simp[h1];try omega)
 ·skip
  rw[hX] at hc0
  have ha0:=(hT.2 3 (by omega)).1;have ha1:=(hT.2 3 (by omega)).2;simp only[Lib.accLo,Lib.accHi,Nat.reduceMul,Nat.reduceAdd,Nat.reduceEqDiff,if_true,if_false] at ha0 ha1
  have hv:zRZ s.size x0.toNat x1.toNat x2.toNat=zRZ s.size x0.toNat x1.toNat x2.toNat:=rfl
  conv at hv=>rhs;unfold zRZ;rw[hX]
  simp only[Lib.accLo,Lib.accHi,Nat.reduceEqDiff,if_true,if_false,Nat.reduceMod,Nat.reduceDiv] at hv
  rw[hv];clear hT hX hv
  rcases (show s.size=1∨s.size=2∨s.size=3 by omega) with h1 | h1 | h1
  ·have hz:(s.size:Int)=1:=by omega
   have hd:decide ((1:Int)<(s.size:Int))=false:=by simp;omega
   go_enter Tryz.func209,Tryz.ntmps209
   go_wp2
   try go_quiet (fail)
   go_wp2
   all_goals (go_ret;refine ⟨?_,by exact Lib.below_draws_alloc w _ _⟩;simp[h1];try omega)
  ·have hz:(s.size:Int)=2:=by omega
   have hz1:(1:Int)<(s.size:Int):=by omega
   have hs1:s[1]'(by omega)=x1:=by rw[← hx1];exact (Utf8W.get!_of_lt s 1 (by omega)).symm
   rcases (show (x1.toNat:Int)<144∨144≤(x1.toNat:Int) by omega) with hl | hl
   ·have hd:decide ((x1.toNat:Int)<144)=true:=by simp;omega
    go_enter Tryz.func209,Tryz.ntmps209
    go_wp2
    try go_quiet (fail)
    go_wp2
    all_goals (go_ret;refine ⟨?_,by exact Lib.below_draws_alloc w _ _⟩;simp[h1];try omega)
   ·have hd:decide ((x1.toNat:Int)<144)=false:=by simp;omega
    go_enter Tryz.func209,Tryz.ntmps209
    go_wp2
    try go_quiet (fail)
    go_wp2
    all_goals (go_ret;refine ⟨?_,by exact Lib.below_draws_alloc w _ _⟩;simp[h1];try omega)
  ·have hz:(s.size:Int)=3:=by omega
   have hz1:(1:Int)<(s.size:Int):=by omega
   have hz2:(2:Int)<(s.size:Int):=by omega
   have hs1:s[1]'(by omega)=x1:=by rw[← hx1];exact (Utf8W.get!_of_lt s 1 (by omega)).symm
   have hs2:s[2]'(by omega)=x2:=by rw[← hx2];exact (Utf8W.get!_of_lt s 2 (by omega)).symm
   rcases (show (x1.toNat:Int)<144∨144≤(x1.toNat:Int) by omega) with hl | hl
   ·have hd:decide ((x1.toNat:Int)<144)=true:=by simp;omega
    go_enter Tryz.func209,Tryz.ntmps209
    go_wp2
    try go_quiet (fail)
    go_wp2
    all_goals (go_ret;refine ⟨?_,by exact Lib.below_draws_alloc w _ _⟩;simp[h1];try omega)
   ·have hd:decide ((x1.toNat:Int)<144)=false:=by simp;omega
    go_enter Tryz.func209,Tryz.ntmps209
    go_wp2
    try go_quiet (fail)
    go_wp2
    all_goals (go_ret;refine ⟨?_,by exact Lib.below_draws_alloc w _ _⟩;simp[h1];try omega)
 ·skip
  rw[hX] at hc0
  have ha0:=(hT.2 0 (by omega)).1;have ha1:=(hT.2 0 (by omega)).2;simp only[Lib.accLo,Lib.accHi,Nat.reduceMul,Nat.reduceAdd,Nat.reduceEqDiff,if_true,if_false] at ha0 ha1
  have hv:zRZ s.size x0.toNat x1.toNat x2.toNat=zRZ s.size x0.toNat x1.toNat x2.toNat:=rfl
  conv at hv=>rhs;unfold zRZ;rw[hX]
  simp only[Lib.accLo,Lib.accHi,Nat.reduceEqDiff,if_true,if_false,Nat.reduceMod,Nat.reduceDiv] at hv
  rw[hv];clear hT hX hv
  rcases (show s.size=1∨s.size=2∨s.size=3 by omega) with h1 | h1 | h1
  ·have hz:(s.size:Int)=1:=by omega
   have hd:decide ((1:Int)<(s.size:Int))=false:=by simp;omega
   go_enter Tryz.func209,Tryz.ntmps209
   go_wp2
   try go_quiet (fail)
   go_wp2
   all_goals (go_ret;refine ⟨?_,by exact Lib.below_draws_alloc w _ _⟩;simp[h1];try omega)
  ·have hz:(s.size:Int)=2:=by omega
   have hz1:(1:Int)<(s.size:Int):=by omega
   have hs1:s[1]'(by omega)=x1:=by rw[← hx1];exact (Utf8W.get!_of_lt s 1 (by omega)).symm
   rcases (show (x1.toNat:Int)<128∨128≤(x1.toNat:Int) by omega) with hl | hl
   ·have hd:decide ((x1.toNat:Int)<128)=true:=by simp;omega
    go_enter Tryz.func209,Tryz.ntmps209
    go_wp2
    try go_quiet (fail)
    go_wp2
    all_goals (go_ret;refine ⟨?_,by exact Lib.below_draws_alloc w _ _⟩;simp[h1];try omega)
   ·have hd:decide ((x1.toNat:Int)<128)=false:=by simp;omega
    go_enter Tryz.func209,Tryz.ntmps209
    go_wp2
    try go_quiet (fail)
    go_wp2
    all_goals (go_ret;refine ⟨?_,by exact Lib.below_draws_alloc w _ _⟩;simp[h1];try omega)
  ·have hz:(s.size:Int)=3:=by omega
   have hz1:(1:Int)<(s.size:Int):=by omega
   have hz2:(2:Int)<(s.size:Int):=by omega
   have hs1:s[1]'(by omega)=x1:=by rw[← hx1];exact (Utf8W.get!_of_lt s 1 (by omega)).symm
   have hs2:s[2]'(by omega)=x2:=by rw[← hx2];exact (Utf8W.get!_of_lt s 2 (by omega)).symm
   rcases (show (x1.toNat:Int)<128∨128≤(x1.toNat:Int) by omega) with hl | hl
   ·have hd:decide ((x1.toNat:Int)<128)=true:=by simp;omega
    go_enter Tryz.func209,Tryz.ntmps209
    go_wp2
    try go_quiet (fail)
    go_wp2
    all_goals (go_ret;refine ⟨?_,by exact Lib.below_draws_alloc w _ _⟩;simp[h1];try omega)
   ·have hd:decide ((x1.toNat:Int)<128)=false:=by simp;omega
    go_enter Tryz.func209,Tryz.ntmps209
    go_wp2
    try go_quiet (fail)
    go_wp2
    all_goals (go_ret;refine ⟨?_,by exact Lib.below_draws_alloc w _ _⟩;simp[h1];try omega)
 ·skip
  rw[hX] at hc0
  have ha0:=(hT.2 4 (by omega)).1;have ha1:=(hT.2 4 (by omega)).2;simp only[Lib.accLo,Lib.accHi,Nat.reduceMul,Nat.reduceAdd,Nat.reduceEqDiff,if_true,if_false] at ha0 ha1
  have hv:zRZ s.size x0.toNat x1.toNat x2.toNat=zRZ s.size x0.toNat x1.toNat x2.toNat:=rfl
  conv at hv=>rhs;unfold zRZ;rw[hX]
  simp only[Lib.accLo,Lib.accHi,Nat.reduceEqDiff,if_true,if_false,Nat.reduceMod,Nat.reduceDiv] at hv
  rw[hv];clear hT hX hv
  rcases (show s.size=1∨s.size=2∨s.size=3 by omega) with h1 | h1 | h1
  ·have hz:(s.size:Int)=1:=by omega
   have hd:decide ((1:Int)<(s.size:Int))=false:=by simp;omega
   go_enter Tryz.func209,Tryz.ntmps209
   go_wp2
   try go_quiet (fail)
   go_wp2
   all_goals (go_ret;refine ⟨?_,by exact Lib.below_draws_alloc w _ _⟩;simp[h1];try omega)
  ·have hz:(s.size:Int)=2:=by omega
   have hz1:(1:Int)<(s.size:Int):=by omega
   have hs1:s[1]'(by omega)=x1:=by rw[← hx1];exact (Utf8W.get!_of_lt s 1 (by omega)).symm
   rcases (show (x1.toNat:Int)<128∨128≤(x1.toNat:Int) by omega) with hl | hl
   ·have hd:decide ((x1.toNat:Int)<128)=true:=by simp;omega
    go_enter Tryz.func209,Tryz.ntmps209
    go_wp2
    try go_quiet (fail)
    go_wp2
    all_goals (go_ret;refine ⟨?_,by exact Lib.below_draws_alloc w _ _⟩;simp[h1];try omega)
   ·have hd:decide ((x1.toNat:Int)<128)=false:=by simp;omega
    go_enter Tryz.func209,Tryz.ntmps209
    go_wp2
    try go_quiet (fail)
    go_wp2
    all_goals (go_ret;refine ⟨?_,by exact Lib.below_draws_alloc w _ _⟩;simp[h1];try omega)
  ·have hz:(s.size:Int)=3:=by omega
   have hz1:(1:Int)<(s.size:Int):=by omega
   have hz2:(2:Int)<(s.size:Int):=by omega
   have hs1:s[1]'(by omega)=x1:=by rw[← hx1];exact (Utf8W.get!_of_lt s 1 (by omega)).symm
   have hs2:s[2]'(by omega)=x2:=by rw[← hx2];exact (Utf8W.get!_of_lt s 2 (by omega)).symm
   rcases (show (x1.toNat:Int)<128∨128≤(x1.toNat:Int) by omega) with hl | hl
   ·have hd:decide ((x1.toNat:Int)<128)=true:=by simp;omega
    go_enter Tryz.func209,Tryz.ntmps209
    go_wp2
    try go_quiet (fail)
    go_wp2
    all_goals (go_ret;refine ⟨?_,by exact Lib.below_draws_alloc w _ _⟩;simp[h1];try omega)
   ·have hd:decide ((x1.toNat:Int)<128)=false:=by simp;omega
    go_enter Tryz.func209,Tryz.ntmps209
    go_wp2
    try go_quiet (fail)
    go_wp2
    all_goals (go_ret;refine ⟨?_,by exact Lib.below_draws_alloc w _ _⟩;simp[h1];try omega)
end Go.Proofs.YtncphnpndkjkaaaGreatDoor
