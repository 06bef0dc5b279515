/-
  Own work: a part of the proof that the last text closes.
-/
import Derived.Test.YtncphnpndkjkaaaGreatDoorHn
namespace Go.Proofs.YtncphnpndkjkaaaGreatDoor
open Go.E
set_option linter.all false
set_option maxRecDepth 100000
set_option maxHeartbeats 16000000
section
def f2 (a b:Nat):Nat × Nat:=if a<128 then (a,1) else if a / 32=6∧b / 64=2 then (if 128≤(a % 32)*64+b % 64 then ((a % 32)*64+b % 64,2) else (65533,1)) else (65533,1)
def f3 (a b c:Nat):Nat × Nat:=if a<128 then (a,1) else if a / 32=6∧b / 64=2 then (if 128≤(a % 32)*64+b % 64 then ((a % 32)*64+b % 64,2) else (65533,1))
 else if a / 16=14∧b / 64=2∧c / 64=2 then (if 2048≤(a % 16)*4096+b % 64*64+c % 64∧((a % 16)*4096+b % 64*64+c % 64<55296∨57344≤(a % 16)*4096+b % 64*64+c % 64) then ((a % 16)*4096+b % 64*64+c % 64,3) else (65533,1)) else (65533,1)
def f4 (a b c d:Nat):Nat × Nat:=if a / 8=30∧b / 64=2∧c / 64=2∧d / 64=2 then (if 65536≤(a % 8)*262144+b % 64*4096+c % 64*64+d % 64∧(a % 8)*262144+b % 64*4096+c % 64*64+d % 64≤1114111 then ((a % 8)*262144+b % 64*4096+c % 64*64+d % 64,4) else (65533,1)) else f3 a b c
theorem dec1 (a:UInt8):zZX [a]=if a.toNat<128 then (a.toNat,1) else (65533,1):=by
 simp[zZX,Utf8.decode,Utf8.runeError,ByteArray.get!,ByteArray.size]
theorem dec2 (a b:UInt8):zZX [a,b]=f2 a.toNat b.toNat:=by
 simp[zZX,f2,Utf8.decode,Utf8.runeError,ByteArray.get!,ByteArray.size]
theorem dec3 (a b c:UInt8):zZX [a,b,c]=f3 a.toNat b.toNat c.toNat:=by
 simp only[zZX,f3,Utf8.decode,Utf8.runeError,Utf8.valid,ByteArray.get!,ByteArray.size,Array.getElem!_eq_getD,Array.getD_eq_getD_getElem?];simp
 repeat' split
 all_goals (first|rfl|(exfalso;omega))
theorem dec4 (a b c d:UInt8) (r:List UInt8):zZX (a::b::c::d::r)=f4 a.toNat b.toNat c.toNat d.toNat:=by
 simp only[zZX,f3,f4,Utf8.decode,Utf8.runeError,Utf8.valid,ByteArray.get!,ByteArray.size,Array.getElem!_eq_getD,Array.getD_eq_getD_getElem?];simp
 repeat' split
 all_goals (first|rfl|(exfalso;omega))
def P2 (a b:Nat):Prop:=a / 32=6∧b / 64=2∧128≤(a % 32)*64+b % 64
def P3 (a b c:Nat):Prop:=a / 16=14∧b / 64=2∧c / 64=2∧2048≤(a % 16)*4096+b % 64*64+c % 64∧((a % 16)*4096+b % 64*64+c % 64<55296∨57344≤(a % 16)*4096+b % 64*64+c % 64)
def P4 (a b c d:Nat):Prop:=a / 8=30∧b / 64=2∧c / 64=2∧d / 64=2∧65536≤(a % 8)*262144+b % 64*4096+c % 64*64+d % 64∧(a % 8)*262144+b % 64*4096+c % 64*64+d % 64≤1114111
inductive Mul:List UInt8→Nat→Nat→Prop
 | two (a b:UInt8) (r:List UInt8):P2 a.toNat b.toNat→Mul (a::b::r) ((a.toNat % 32)*64+b.toNat % 64) 2
 | three (a b c:UInt8) (r:List UInt8):P3 a.toNat b.toNat c.toNat→Mul (a::b::c::r) ((a.toNat % 16)*4096+b.toNat % 64*64+c.toNat % 64) 3
 | four (a b c d:UInt8) (r:List UInt8):P4 a.toNat b.toNat c.toNat d.toNat→Mul (a::b::c::d::r) ((a.toNat % 8)*262144+b.toNat % 64*4096+c.toNat % 64*64+d.toNat % 64) 4
theorem zYN {l:List UInt8} {c w:Nat} (h:Mul l c w):zZX l=(c,w):=by
 cases h with
 | two a b r h=>
   unfold P2 at h
   match r with
   | []=>rw[dec2,f2,if_neg (by omega),if_pos (by omega),if_pos (by omega)]
   | [c]=>rw[dec3,f3,if_neg (by omega),if_pos (by omega),if_pos (by omega)]
   | c::d::r=>rw[dec4,f4,if_neg (by omega),f3,if_neg (by omega),if_pos (by omega),if_pos (by omega)]
 | three a b c r h=>
   unfold P3 at h
   match r with
   | []=>rw[dec3,f3,if_neg (by omega),if_neg (by omega),if_pos (by omega),if_pos (by omega)]
   | d::r=>rw[dec4,f4,if_neg (by omega),f3,if_neg (by omega),if_neg (by omega),if_pos (by omega),if_pos (by omega)]
 | four a b c d r h=>
   unfold P4 at h
   rw[dec4,f4,if_pos (by omega),if_pos (by omega)]
theorem yVT:∀ (l:List UInt8),l ≠ []→(∃ c w,Mul l c w)∨∃ a r,l=a::r∧zZX l=(if a.toNat<128 then a.toNat else 65533,1)
 | [],h=>absurd rfl h
 | [a],_=>.inr ⟨a,[],rfl,by rw[dec1];split<;>rfl⟩
 | [a,b],_=>by
   by_cases h2:P2 a.toNat b.toNat
   ·exact .inl ⟨_,_,.two a b [] h2⟩
   ·refine .inr ⟨a,[b],rfl,?_⟩;rw[dec2,f2];unfold P2 at h2
    repeat' split
    all_goals (first|rfl|omega)
 | [a,b,c],_=>by
   by_cases h2:P2 a.toNat b.toNat
   ·exact .inl ⟨_,_,.two a b [c] h2⟩
   ·by_cases h3:P3 a.toNat b.toNat c.toNat
    ·exact .inl ⟨_,_,.three a b c [] h3⟩
    ·refine .inr ⟨a,[b,c],rfl,?_⟩;rw[dec3,f3];unfold P2 at h2
     unfold P3 at h3
     repeat' split
     all_goals (first|rfl|omega)
 | a::b::c::d::r,_=>by
   by_cases h2:P2 a.toNat b.toNat
   ·exact .inl ⟨_,_,.two a b (c::d::r) h2⟩
   ·by_cases h3:P3 a.toNat b.toNat c.toNat
    ·exact .inl ⟨_,_,.three a b c (d::r) h3⟩
    ·by_cases h4:P4 a.toNat b.toNat c.toNat d.toNat
     ·exact .inl ⟨_,_,.four a b c d r h4⟩
     ·refine .inr ⟨a,b::c::d::r,rfl,?_⟩;rw[dec4,f4,f3];unfold P2 at h2
      unfold P3 at h3
      unfold P4 at h4
      repeat' split
      all_goals (first|rfl|omega)
theorem Mul.wide {l:List UInt8} {c w:Nat} (h:Mul l c w):2≤w∧w≤4∧w≤l.length:=by cases h<;>simp
theorem Mul.loc {l:List UInt8} {c w:Nat} (h:Mul l c w) {l':List UInt8} (e:l'.take w=l.take w):Mul l' c w:=by
 cases h with
 | two a b r h=>
   match l',e with
   | [],e | [_],e=>simp at e
   | x::y::r',e=>simp at e;obtain ⟨rfl,rfl⟩:=e;exact .two _ _ _ h
 | three a b c r h=>
   match l',e with
   | [],e | [_],e | [_,_],e=>simp at e
   | x::y::z::r',e=>simp at e;obtain ⟨rfl,rfl,rfl⟩:=e;exact .three _ _ _ _ h
 | four a b c d r h=>
   match l',e with
   | [],e | [_],e | [_,_],e | [_,_,_],e=>simp at e
   | x::y::z::u::r',e=>simp at e;obtain ⟨rfl,rfl,rfl,rfl⟩:=e;exact .four _ _ _ _ _ h
theorem Mul.bytes {l:List UInt8} {c w:Nat} (h:Mul l c w):(∃ a r,l=a::r∧192≤a.toNat)∧∀ i,1≤i→i<w→∃ b,l[i]? = some b∧b.toNat / 64=2:=by
 cases h with
 | two a b r h=>
   unfold P2 at h
   refine ⟨⟨a,_,rfl,by omega⟩,fun i h1 h2=>?_⟩;obtain rfl:i=1:=by omega
   exact ⟨b,rfl,by omega⟩
 | three a b c r h=>
   unfold P3 at h
   refine ⟨⟨a,_,rfl,by omega⟩,fun i h1 h2=>?_⟩
   rcases (show i=1∨i=2 by omega) with rfl | rfl
   ·exact ⟨b,rfl,by omega⟩
   ·exact ⟨c,rfl,by omega⟩
 | four a b c d r h=>
   unfold P4 at h
   refine ⟨⟨a,_,rfl,by omega⟩,fun i h1 h2=>?_⟩
   rcases (show i=1∨i=2∨i=3 by omega) with rfl | rfl | rfl
   ·exact ⟨b,rfl,by omega⟩
   ·exact ⟨c,rfl,by omega⟩
   ·exact ⟨d,rfl,by omega⟩
theorem Mul.ge {l:List UInt8} {c w:Nat} (h:Mul l c w):128≤c:=by
 cases h with
 | two a b r h=>unfold P2 at h;omega
 | three a b c r h=>unfold P3 at h;omega
 | four a b c d r h=>unfold P4 at h;omega
theorem Mul.uniq {l:List UInt8} {c w c' w':Nat} (h:Mul l c w) (h':Mul l c' w'):c=c'∧w=w':=by
 have e:=(zYN h).symm.trans (zYN h');exact Prod.mk.inj e
theorem zSJ {l:List UInt8} (h:¬ ∃ c w,Mul l c w) {a:UInt8} {r:List UInt8} (e:l=a::r):zZX l=(if a.toNat<128 then a.toNat else 65533,1):=by
 rcases yVT l (by rw[e];simp) with q | ⟨a',r',e',q⟩
 ·exact absurd q h
 ·rw[e] at e';cases e';exact q
theorem yXG {b:UInt8} {r:List UInt8} (h:b.toNat / 64=2):zZX (b::r)=(65533,1):=by
 rw[zSJ (a:=b) (r:=r) (fun ⟨c,w,hm⟩=>?_) rfl,if_neg (by omega)];obtain ⟨⟨a,r',e,ha⟩,-⟩:=hm.bytes
 cases e;omega
theorem Mul.no_cont {l:List UInt8} {c w:Nat} (h:Mul l c w) {i:Nat} {b:UInt8} (hi:l[i]? = some b) (h1:1≤i) (h2:192≤b.toNat):w≤i:=by
 rcases Nat.lt_or_ge i w with q | q
 ·obtain ⟨b',e,hb⟩:=h.bytes.2 i h1 q;rw[hi] at e;cases e;omega
 ·exact q
theorem decE_wide1 (l:List UInt8) (h:l ≠ []) (h1:¬ ∃ c w,Mul l c w):(zZX l).2=1:=by
 obtain ⟨a,r,e⟩:∃ a r,l=a::r:=List.exists_cons_of_ne_nil h;rw[zSJ h1 e]
theorem lineA_left (a b:List UInt8) (pos:Nat) (hp:pos<a.length) (hd:zZX ((a++b).drop pos)=zZX (a.drop pos)):zDK (a++b) pos=zDK a pos:=by
 unfold zDK;rw[hd];have:(a++b).getD ((pos:Int) - 1).toNat 0=a.getD ((pos:Int) - 1).toNat 0:=by
  rw[List.getD_eq_getElem?_getD,List.getD_eq_getElem?_getD,List.getElem?_append_left (by omega)]
 rw[this]
theorem yMH {a b:List UInt8} {pos:Nat} (hp:pos<a.length) (hw:pos+(zZX ((a++b).drop pos)).2≤a.length):zZX ((a++b).drop pos)=zZX (a.drop pos):=by
 have e1:(a++b).drop pos=a.drop pos++b:=List.drop_append_of_le_length (by omega);have e2:a.drop pos ≠ []:=List.ne_nil_of_length_pos (by rw[List.length_drop];omega);rw[e1] at hw ⊢
 by_cases h:∃ c w,Mul (a.drop pos++b) c w
 ·obtain ⟨c,w,hm⟩:=h;have e3:=zYN hm;rw[e3] at hw ⊢
  simp only at hw
  exact (zYN (hm.loc (l':=a.drop pos) (by rw[List.take_append_of_le_length (by rw[List.length_drop];omega)]))).symm
 ·obtain ⟨x,r,e⟩:=List.exists_cons_of_ne_nil e2;have h':¬ ∃ c w,Mul (a.drop pos) c w:=fun ⟨c,w,hm⟩=>h ⟨c,w,hm.loc (by rw[List.take_append_of_le_length hm.wide.2.2])⟩
  rw[zSJ h (a:=x) (r:=r++b) (by rw[e];rfl),zSJ h' e]
theorem xJF {a b:List UInt8} {m:Nat} (hm:m≤a.length) (H:∀ pos,pos<m→pos+(zZX ((a++b).drop pos)).2≤m):∀ (n pos:Nat),m - pos≤n→pos≤m →
  (tlG (a++b) pos).1+(tlG a m).1=(tlG a pos).1+(tlG (a++b) m).1∧(tlG (a++b) pos).2+(tlG a m).2=(tlG a pos).2+(tlG (a++b) m).2:=by
 intro n
 induction n with
 | zero=>
   intro pos h1 h2;obtain rfl:pos=m:=by omega
   exact ⟨Nat.add_comm _ _,Nat.add_comm _ _⟩
 | succ n ih=>
   intro pos h1 h2
   rcases Nat.lt_or_ge pos m with q | q
   ·have h3:=H pos q;have hd:=yMH (a:=a) (b:=b) (pos:=pos) (by omega) (by omega);have hl:=lineA_left a b pos (by omega) hd;have h4:=zJM (a.drop pos);rw[hd] at h3
    obtain ⟨i1,i2⟩:=ih (pos+(zZX (a.drop pos)).2) (by omega) h3;rw[zPN (a++b) pos (by rw[List.length_append];omega),zPN a pos (by omega),hd,hl];simp only;omega
   ·obtain rfl:pos=m:=by omega
    exact ⟨Nat.add_comm _ _,Nat.add_comm _ _⟩
theorem xVR (a b:List UInt8) (q:Nat) (hq:1≤q):zDK (a++b) (a.length+q)=zDK b q:=by
 unfold zDK;have e1:(a++b).drop (a.length+q)=b.drop q:=by rw[List.drop_append,List.drop_of_length_le (by omega),Nat.add_sub_cancel_left,List.nil_append]
 have e2:(a++b).getD (((a.length+q:Nat):Int) - 1).toNat 0=b.getD ((q:Int) - 1).toNat 0:=by
  rw[List.getD_eq_getElem?_getD,List.getD_eq_getElem?_getD,List.getElem?_append_right (by omega)]
  congr 2;omega
 rw[e1,e2];simp only[show (((a.length+q:Nat):Int)=0)=False from eq_false (by omega),show ((q:Int)=0)=False from eq_false (by omega)]
theorem xJM (a b:List UInt8):∀ (n q:Nat),b.length - q≤n→1≤q→tlG (a++b) (a.length+q)=tlG b q:=by
 intro n
 induction n with
 | zero=>
   intro q h1 h2;rw[zSN _ _ (by rw[List.length_append];omega),zSN _ _ (by omega)]
 | succ n ih=>
   intro q h1 h2
   rcases Nat.lt_or_ge q b.length with h | h
   ·have e1:(a++b).drop (a.length+q)=b.drop q:=by rw[List.drop_append,List.drop_of_length_le (by omega),Nat.add_sub_cancel_left,List.nil_append]
    have h4:=zJM (b.drop q);rw[zPN (a++b) _ (by rw[List.length_append];omega),zPN b q h,e1,xVR a b q h2,Nat.add_assoc,ih (q+(zZX (b.drop q)).2) (by omega) (by omega)]
   ·rw[zSN _ _ (by rw[List.length_append];omega),zSN _ _ h]
def Cuts (a b:List UInt8) (p c w:Nat):Prop:=1≤p∧p≤a.length∧p<w∧Mul (a.drop (a.length - p)++b) c w
theorem tl_right0 (a b:List UInt8):(tlG (a++b) a.length).1=(tlG b 0).1∧(tlG (a++b) a.length).2+(if a.getLast? = some 13∧b.head? = some 10 then 1 else 0)=(tlG b 0).2:=by
 cases b with
 | nil=>
   rw[List.append_nil,zSN _ _ (Nat.le_refl _),zSN _ _ (by simp)];simp
 | cons x r=>
   have e1:(a++x::r).drop a.length=x::r:=List.drop_left' rfl;have h4:=zJM (x::r);have e0:(x::r).drop 0=x::r:=rfl;rw[zPN (a++x::r) _ (by simp),zPN (x::r) 0 (by simp),e1,e0,Nat.zero_add,xJM a (x::r) _ (zZX (x::r)).2 (Nat.le_refl _) h4];refine ⟨rfl,?_⟩;simp only[Nat.add_assoc]
   congr 1
   unfold zDK;rw[e1,e0]
   rcases List.eq_nil_or_concat a with rfl | ⟨a',y,rfl⟩
   ·simp
   ·have e2:(a' ++ [y]++x::r).getD (((a' ++ [y]).length:Int) - 1).toNat 0=y:=by
     rw[List.getD_eq_getElem?_getD,List.getElem?_append_left (by simp),List.getElem?_append_right (by simp)];simp
    have e3:(((a' ++ [y]).length:Int)=0)=False:=eq_false (by simp;omega);simp only[List.concat_eq_append,e2,e3,false_or,List.getLast?_append,List.getLast?_singleton,Option.some_or,List.head?_cons,Option.some.injEq]
    by_cases hx:x=10
    ·subst hx;have hd:zZX (10::r)=(10,1):=by
      rw[zSJ (a:=10) (r:=r) (fun ⟨c,w,hm⟩=>?_) rfl]
      ·rfl
      ·obtain ⟨⟨a',r',e,ha⟩,-⟩:=hm.bytes
       cases e;revert ha;decide
     rw[hd]
     by_cases hy:y=13
     ·subst hy;simp[xYH]
     ·have:¬ (y.toNat:Int)=13:=fun e=>hy (by
       apply UInt8.toNat_inj.1;simp;omega)
      simp[hy,this,xYH]
    ·have hd:¬ ((zZX (x::r)).1:Int)=10:=fun e=>by
      rcases yVT (x::r) (by simp) with ⟨c,w,hm⟩ | ⟨x',r',e',q⟩
      ·rw[zYN hm] at e
       cases hm with
       | two a b r h=>unfold P2 at h;simp only at e;omega
       | three a b c r h=>unfold P3 at h;simp only at e;omega
       | four a b c d r h=>unfold P4 at h;simp only at e;omega
      ·cases e'
       rw[q] at e
       simp only at e
       split at e
       ·exact hx (by apply UInt8.toNat_inj.1;simp;omega)
       ·omega
     simp[hd,hx]
theorem lineA_err {s:List UInt8} {pos:Nat} (h:zZX (s.drop pos)=(65533,1)):zDK s pos=false:=by
 unfold zDK;rw[h];simp[xYH]
theorem tl_run {s:List UInt8} {v:Nat} (hv:v≤s.length):∀ (n u:Nat),v - u≤n→u≤v→(∀ pos,u≤pos→pos<v→zZX (s.drop pos)=(65533,1))→(tlG s u).1=(v - u)+(tlG s v).1∧(tlG s u).2=(tlG s v).2:=by
 intro n
 induction n with
 | zero=>
   intro u h1 h2 _;obtain rfl:u=v:=by omega
   exact ⟨by omega,rfl⟩
 | succ n ih=>
   intro u h1 h2 hd
   rcases Nat.lt_or_ge u v with q | q
   ·have e:=hd u (Nat.le_refl _) q;obtain ⟨i1,i2⟩:=ih (u+1) (by omega) q fun pos h3 h4=>hd pos (by omega) h4
    rw[zPN s u (by omega),e,lineA_err e];simp only[Bool.false_eq_true,if_false];omega
   ·obtain rfl:u=v:=by omega
    exact ⟨by omega,rfl⟩
theorem zMN {l:List UInt8} (h:l ≠ []) (h2:2≤(zZX l).2):∃ c,Mul l c (zZX l).2:=by
 by_cases h1:∃ c w,Mul l c w
 ·obtain ⟨c,w,hm⟩:=h1;rw[zYN hm];exact ⟨c,hm⟩
 ·rw[decE_wide1 l h h1] at h2;omega
theorem xSW {a b:List UInt8} (h:∀ p c w,¬ Cuts a b p c w):(tlG (a++b) 0).1=(tlG a 0).1+(tlG b 0).1∧(tlG (a++b) 0).2+(if a.getLast? = some 13∧b.head? = some 10 then 1 else 0)=(tlG a 0).2+(tlG b 0).2:=by
 have H:∀ pos,pos<a.length→pos+(zZX ((a++b).drop pos)).2≤a.length:=fun pos hp=>by
  rcases Nat.lt_or_ge a.length (pos+(zZX ((a++b).drop pos)).2) with q | q
  ·exfalso;have e1:(a++b).drop pos=a.drop pos++b:=List.drop_append_of_le_length (by omega);have e2:(a++b).drop pos ≠ []:=List.ne_nil_of_length_pos (by rw[List.length_drop,List.length_append];omega);obtain ⟨c,hm⟩:=zMN e2 (by omega);refine h (a.length - pos) c (zZX ((a++b).drop pos)).2 ⟨by omega,by omega,by omega,?_⟩;rw[show a.length - (a.length - pos)=pos by omega,← e1];exact hm
  ·exact q
 obtain ⟨q1,q2⟩:=xJF (a:=a) (b:=b) (Nat.le_refl _) H a.length 0 (by omega) (Nat.zero_le _);obtain ⟨r1,r2⟩:=tl_right0 a b;rw[zSN a a.length (Nat.le_refl _)] at q1 q2
 simp only at q1 q2
 omega
theorem xZP {a b:List UInt8} {p c w:Nat} (h:Cuts a b p c w):(tlG (a++b) 0).1+w=(tlG a 0).1+(tlG b 0).1+1∧(tlG (a++b) 0).2=(tlG a 0).2+(tlG b 0).2+(if xYH c=true then 1 else 0):=by
 obtain ⟨h1,h2,h3,hm⟩:=h;obtain ⟨hw2,hw4,hwl⟩:=hm.wide;obtain ⟨⟨x,r,ex,hx⟩,hby⟩:=hm.bytes;obtain ⟨m,hmm⟩:∃ m,m=a.length - p:=⟨_,rfl⟩;rw[← hmm] at hm ex hwl hby
 have hdl:(a.drop m).length=p:=by rw[List.length_drop];omega
 have eS:(a++b).drop m=a.drop m++b:=List.drop_append_of_le_length (by omega);rw[List.length_append,hdl] at hwl
 have H:∀ pos,pos<m→pos+(zZX ((a++b).drop pos)).2≤m:=fun pos hp=>by
  have e2:(a++b).drop pos ≠ []:=List.ne_nil_of_length_pos (by rw[List.length_drop,List.length_append];omega)
  rcases Nat.lt_or_ge (zZX ((a++b).drop pos)).2 2 with q | q
  ·omega
  ·obtain ⟨c',hm'⟩:=zMN e2 q;have e3:((a++b).drop pos)[m - pos]? = some x:=by
    rw[List.getElem?_drop,show pos+(m - pos)=m+0 by omega,← List.getElem?_drop,eS,ex];rfl
   have:=hm'.no_cont e3 (by omega) hx;omega
 obtain ⟨q1,q2⟩:=xJF (a:=a) (b:=b) (show m≤a.length by omega) H m 0 (by omega) (Nat.zero_le _)
 -- the cut character in the whole
 have hS:=zYN hm;rw[← eS] at hS
 have hst:=zPN (a++b) m (by rw[List.length_append];omega);rw[hS] at hst
 simp only at hst
 have hlA:zDK (a++b) m=xYH c:=by
  have hc:128≤c:=hm.ge;unfold zDK;rw[hS];simp[show ¬ ((c:Int)=10) by omega,show ¬ ((c:Int)=13) by omega]
 rw[hlA,show m+w=a.length+(w - p) by omega,xJM a b _ (w - p) (Nat.le_refl _) (by omega)] at hst
 -- its bytes ahead of the seam
 have hA:=tl_run (s:=a) (v:=a.length) (Nat.le_refl _) (a.length - m) m (Nat.le_refl _) (by omega) fun pos h4 h5=>by
  have e4:a.drop pos=(a.drop m).drop (pos - m):=by rw[List.drop_drop];congr 1;omega
  rcases Nat.eq_or_lt_of_le h4 with e | e
  ·subst e;have hno:¬ ∃ c w,Mul (a.drop m) c w:=fun ⟨c',w',hm'⟩=>by
    have hl':=hm'.wide.2.2;have:=(hm'.loc (l':=a.drop m++b) (by rw[List.take_append_of_le_length hl'])).uniq hm;omega
   obtain ⟨y,r',ey⟩:∃ y r',a.drop m=y::r':=List.exists_cons_of_ne_nil (List.ne_nil_of_length_pos (by omega));rw[ey] at ex
   have:y=x:=by simpa using (List.cons.inj ex).1
   rw[zSJ hno ey,if_neg (by rw[this];omega)]
  ·obtain ⟨y,e5,hy⟩:=hby (pos - m) (by omega) (by omega);rw[List.getElem?_append_left (by omega)] at e5
   have e6:a.drop pos=y::a.drop (pos+1):=by
    rw[List.getElem?_drop,show m+(pos - m)=pos by omega] at e5
    obtain ⟨h6,e7⟩:=List.getElem?_eq_some_iff.1 e5;rw[List.drop_eq_getElem_cons h6,e7]
   rw[e6,yXG hy]
 rw[zSN a a.length (Nat.le_refl _)] at hA
 have hB:=tl_run (s:=b) (v:=w - p) (by omega) (w - p) 0 (by omega) (Nat.zero_le _) fun pos h4 h5=>by
  obtain ⟨y,e5,hy⟩:=hby (p+pos) (by omega) (by omega);rw[List.getElem?_append_right (by omega),hdl,Nat.add_sub_cancel_left] at e5
  have e6:b.drop pos=y::b.drop (pos+1):=by
   obtain ⟨h6,e7⟩:=List.getElem?_eq_some_iff.1 e5;rw[List.drop_eq_getElem_cons h6,e7]
  rw[e6,yXG hy]
 rw[hst] at q1 q2
 simp only at q1 q2 hA hB
 omega
theorem fullG_cut {l:List UInt8} {x:List UInt8} {c w:Nat} (h:Mul (l++x) c w) (h1:0<l.length) (h2:l.length<w):yMZ l=false:=by
 cases hl:l with
 | nil=>subst hl;simp at h1
 | cons a r=>
   subst hl;unfold yMZ zRZ;generalize he:a::r++x=z at h
   cases h with
   | two a' b' r' hp=>
     unfold P2 at hp
     have hr:r=[]:=List.eq_nil_of_length_eq_zero (by simp at h2;omega);subst hr;simp only[List.cons_append,List.nil_append,List.cons.injEq] at he
     obtain ⟨rfl,-⟩:=he;have hf:=Lib.firstT_C2 (b:=a.toNat) (by omega);simp[hf]
   | three a' b' c' r' hp=>
     unfold P3 at hp
     match r,h2,he with
     | [],_,he=>
       simp only[List.cons_append,List.nil_append,List.cons.injEq] at he
       obtain ⟨rfl,-⟩:=he
       rcases (show a.toNat=224∨((225≤a.toNat∧a.toNat<237)∨(238≤a.toNat∧a.toNat<240))∨a.toNat=237 by omega) with q | q | q
       ·simp[Lib.firstT_E0 q]
       ·simp[Lib.firstT_E1 q]
       ·simp[Lib.firstT_ED q]
     | [b],_,he=>
       simp only[List.cons_append,List.nil_append,List.cons.injEq] at he
       obtain ⟨rfl,rfl,-⟩:=he
       rcases (show a.toNat=224∨((225≤a.toNat∧a.toNat<237)∨(238≤a.toNat∧a.toNat<240))∨a.toNat=237 by omega) with q | q | q
       ·simp[Lib.firstT_E0 q,Lib.accLo,Lib.accHi];omega
       ·simp[Lib.firstT_E1 q,Lib.accLo,Lib.accHi];omega
       ·simp[Lib.firstT_ED q,Lib.accLo,Lib.accHi];omega
     | _::_::_,h2,_=>simp at h2;omega
   | four a' b' c' d' r' hp=>
     unfold P4 at hp
     match r,h2,he with
     | [],_,he=>
       simp only[List.cons_append,List.nil_append,List.cons.injEq] at he
       obtain ⟨rfl,-⟩:=he
       rcases (show a.toNat=240∨(241≤a.toNat∧a.toNat<244)∨a.toNat=244 by omega) with q | q | q
       ·simp[Lib.firstT_F0 q]
       ·simp[Lib.firstT_F1 q]
       ·simp[Lib.firstT_F4 q]
     | [b],_,he=>
       simp only[List.cons_append,List.nil_append,List.cons.injEq] at he
       obtain ⟨rfl,rfl,-⟩:=he
       rcases (show a.toNat=240∨(241≤a.toNat∧a.toNat<244)∨a.toNat=244 by omega) with q | q | q
       ·simp[Lib.firstT_F0 q,Lib.accLo,Lib.accHi];omega
       ·simp[Lib.firstT_F1 q,Lib.accLo,Lib.accHi];omega
       ·simp[Lib.firstT_F4 q,Lib.accLo,Lib.accHi];omega
     | [b,c],_,he=>
       simp only[List.cons_append,List.nil_append,List.cons.injEq] at he
       obtain ⟨rfl,rfl,rfl,-⟩:=he
       rcases (show a.toNat=240∨(241≤a.toNat∧a.toNat<244)∨a.toNat=244 by omega) with q | q | q
       ·simp[Lib.firstT_F0 q,Lib.accLo,Lib.accHi];omega
       ·simp[Lib.firstT_F1 q,Lib.accLo,Lib.accHi];omega
       ·simp[Lib.firstT_F4 q,Lib.accLo,Lib.accHi];omega
     | _::_::_::_,h2,_=>simp at h2;omega
theorem yNW (s:List UInt8):∀ (f k:Nat),yPJ s f k≤s.length∧(yPJ s f k=0∨k≤yPJ s f k∧yPJ s f k<k+f)
 | 0,k=>⟨Nat.zero_le _,.inl rfl⟩
 | f+1,k=>by
   rw[yPJ]
   split
   ·split
    ·have:=yNW s f (k+1);exact ⟨this.1,this.2.imp id fun h=>⟨by omega,by omega⟩⟩
    ·split
     ·exact ⟨Nat.zero_le _,.inl rfl⟩
     ·exact ⟨by assumption,.inr ⟨Nat.le_refl _,by omega⟩⟩
   ·exact ⟨Nat.zero_le _,.inl rfl⟩
theorem xPJ (s:List UInt8) (p:Nat) (hp:p≤s.length) (h1:zRR ((s.drop (s.length - p)).getD 0 0)=false) (h2:yMZ (s.drop (s.length - p))=false):∀ (f k:Nat),k≤p→p<k+f→(∀ i,k≤i→i<p→zRR ((s.drop (s.length - i)).getD 0 0)=true)→yPJ s f k=p
 | 0,k,h3,h4,_=>by omega
 | f+1,k,h3,h4,h5=>by
   rw[yPJ,if_pos (by omega)]
   rcases Nat.eq_or_lt_of_le h3 with e | e
   ·subst e;rw[h1,h2];simp
   ·rw[h5 k (Nat.le_refl _) e,if_pos rfl];exact xPJ s p hp h1 h2 f (k+1) e (by omega) fun i q1 q2=>h5 i (by omega) q2
theorem head_drop {α:Type} (l:List α) (i:Nat) (d:α):(l.drop i).getD 0 d=l.getD i d:=by
 rw[List.getD_eq_getElem?_getD,List.getD_eq_getElem?_getD,List.getElem?_drop,Nat.add_zero]
theorem xPK {s x:List UInt8} {p c w:Nat} (h1:1≤p) (h2:p≤s.length) (h3:p<w) (hm:Mul (s.drop (s.length - p)++x) c w):zKF s=p:=by
 have hw:=hm.wide;obtain ⟨⟨a,r,e,ha⟩,hb⟩:=hm.bytes;have hl:(s.drop (s.length - p)).length=p:=by rw[List.length_drop];omega
 refine xPJ s p h2 ?_ (fullG_cut hm (by omega) (by omega)) 3 1 h1 (by omega) fun i q1 q2=>?_
 ·have:(s.drop (s.length - p)).getD 0 0=a:=by
   cases hs:s.drop (s.length - p) with
   | nil=>rw[hs] at hl;simp at hl;omega
   | cons y z=>rw[hs] at e;simp at e;simp[e.1]
  rw[this];simp[zRR];omega
 ·rw[head_drop];obtain ⟨b,e5,hb'⟩:=hb (p - i) (by omega) (by omega);rw[List.getElem?_append_left (by omega),List.getElem?_drop,show s.length - p+(p - i)=s.length - i by omega] at e5
  rw[List.getD_eq_getElem?_getD,e5];simp[zRR,hb']
def zDW (a b:List UInt8):Int × Int:=
 let c:=zBP (a.drop (a.length - zKF a)) b
 if 0<c then (1 - zKF a - c,if xYH (zZX (a.drop (a.length - zKF a)++b.take c.toNat)).1 then 1 else 0)
 else if a.getLast? = some 13∧b.head? = some 10 then (0,-1) else (0,0)
theorem tail_drop {a:List UInt8} {p:Nat} (hp:p≤3) (h:p≤a.length):(zXH a).drop ((zXH a).length - p)=a.drop (a.length - p)∧p≤(zXH a).length:=by
 have hl:(zXH a).length=a.length - (a.length - 3):=by rw[zXH,List.length_drop]
 refine ⟨?_,by omega⟩;rw[zXH,List.drop_drop,List.length_drop]
 congr 1;omega
theorem xXZ {p x:List UInt8} (h:0<zBP p x):0<p.length∧zKF p=p.length∧∃ c w,Mul (p++x) c w∧zBP p x=(w:Int) - p.length∧p.length<w:=by
 unfold zBP at h ⊢
 split at h
 ·omega
 ·rename_i h1
  rw[if_neg h1]
  split at h
  ·rename_i h2
   rw[if_pos h2];refine ⟨by omega,by omega,?_⟩;have hne:p++x.take 4 ≠ []:=by
    intro e;have:=congrArg List.length e;rw[List.length_append,List.length_nil] at this
    omega
   by_cases hm:∃ c w,Mul (p++x.take 4) c w
   ·obtain ⟨c,w,hm⟩:=hm;have hd:=zYN hm;rw[hd] at h ⊢
    simp only at h ⊢
    refine ⟨c,w,hm.loc ?_,rfl,by omega⟩;have hw:=hm.wide;rw[List.length_append] at hw
    rw[List.take_append,List.take_append,List.take_take]
    congr 2
    omega
   ·obtain ⟨a,r,e⟩:=List.exists_cons_of_ne_nil hne;rw[zSJ hm e] at h
    simp only at h;omega
  ·omega
theorem closG_cut {p x:List UInt8} {c w:Nat} (h0:0<p.length) (hm:Mul (p++x) c w) (h1:p.length<w):zBP p x=(w:Int) - p.length:=by
 have hp:zKF p=p.length:=xPK (s:=p) (x:=x) h0 (Nat.le_refl _) h1 (by rw[Nat.sub_self,List.drop_zero];exact hm);have hw:=hm.wide;have hm':Mul (p++x.take 4) c w:=hm.loc (by
  rw[List.take_append,List.take_append,List.take_take]
  congr 2
  omega)
 have hd:=zYN hm';unfold zBP;rw[if_neg (by omega),if_pos (by unfold zHF;rw[hd];simp;omega),hd]
theorem seam_cut {a b:List UInt8} {p c w:Nat} (h:Cuts a b p c w):zDW (zXH a) (zVB b)=(1 - (w:Int),if xYH c then 1 else 0):=by
 obtain ⟨h1,h2,h3,hm⟩:=h;have hw:=hm.wide;obtain ⟨t1,t2⟩:=tail_drop (a:=a) (p:=p) (by omega) h2;have hdl:(a.drop (a.length - p)).length=p:=by rw[List.length_drop];omega
 have hm2:Mul (a.drop (a.length - p)++zVB b) c w:=hm.loc (by
  rw[List.take_append,List.take_append,zVB,List.take_take]
  congr 2
  omega)
 have hpe:zKF (zXH a)=p:=xPK (x:=zVB b) h1 t2 h3 (by rw[t1];exact hm2);have hcl:=closG_cut (p:=a.drop (a.length - p)) (x:=zVB b) (by omega) hm2 (by omega);unfold zDW;simp only[hpe,t1,hcl,hdl];rw[if_pos (by omega)];have hm3:Mul (a.drop (a.length - p)++(zVB b).take ((w:Int) - p).toNat) c w:=hm2.loc (by
  rw[List.take_append,List.take_append,List.take_take]
  congr 2
  omega)
 rw[zYN hm3];simp only[Prod.mk.injEq,and_true];omega
theorem seam_no {a b:List UInt8} (h:∀ p c w,¬ Cuts a b p c w):zDW (zXH a) (zVB b)=(0,if a.getLast? = some 13∧b.head? = some 10 then -1 else 0):=by
 have hc:¬ 0<zBP ((zXH a).drop ((zXH a).length - zKF (zXH a))) (zVB b):=fun hc=>by
  obtain ⟨q1,q2,c,w,hm,-,q3⟩:=xXZ hc;obtain ⟨p1,p2⟩:=yNW (zXH a) 3 1
  change zKF (zXH a)≤_ at p1
  change zKF (zXH a)=0∨1≤zKF (zXH a)∧zKF (zXH a)<4 at p2
  generalize zKF (zXH a)=p at *
  rw[List.length_drop] at q1 q3
  have hp3:p≤3:=by omega
  have hpa:p≤a.length:=by
   have hl:(zXH a).length=a.length - (a.length - 3):=by rw[zXH,List.length_drop]
   omega
  obtain ⟨t1,t2⟩:=tail_drop (a:=a) hp3 hpa;rw[t1] at hm
  have hdl:(a.drop (a.length - p)).length=p:=by rw[List.length_drop];omega
  have hw:=hm.wide;rw[List.length_append,hdl] at hw
  refine h p c w ⟨by omega,hpa,by omega,hm.loc ?_⟩;rw[List.take_append,List.take_append,zVB,List.take_take]
  congr 2
  rw[zVB,List.length_take] at hw
  omega
 unfold zDW;simp only;rw[if_neg hc];have e1:(zXH a).getLast? = a.getLast?:=by
  unfold zXH;rw[List.getLast?_drop]
  split
  ·rename_i h'
   have:a=[]:=List.eq_nil_of_length_eq_zero (by omega);subst this;rfl
  ·rfl
 have e2:(zVB b).head? = b.head?:=by
  unfold zVB
  cases b<;>rfl
 rw[e1,e2]
 split<;>rfl
theorem tl_join (a b:List UInt8):((tlG (a++b) 0).1:Int)=(tlG a 0).1+(tlG b 0).1+(zDW (zXH a) (zVB b)).1∧((tlG (a++b) 0).2:Int)=(tlG a 0).2+(tlG b 0).2+(zDW (zXH a) (zVB b)).2:=by
 by_cases h:∃ p c w,Cuts a b p c w
 ·obtain ⟨p,c,w,h⟩:=h;obtain ⟨q1,q2⟩:=xZP h;rw[seam_cut h];simp only
  split at q2<;>rename_i hs
  ·rw[if_pos hs];omega
  ·rw[if_neg hs];omega
 ·have h':∀ p c w,¬ Cuts a b p c w:=fun p c w q=>h ⟨p,c,w,q⟩
  obtain ⟨q1,q2⟩:=xSW h';rw[seam_no h'];simp only
  split at q2<;>rename_i hs
  ·rw[if_pos hs];omega
  ·rw[if_neg hs];omega
end
section
variable {G:List Gl} (hG:Tabs G)
include hG
theorem seam_c (a b:List UInt8) (ha:a.length≤3) (hb:b.length≤3):E.Pure G Tryz.prog 175 [.str a,.str b] (.tuple [.int .i64 (zDW a b).1,.int .i64 (zDW a b).2]):=by
 have hpe:=yDM hG a (by omega);have hpl:=(yNW a 3 1).1
 change zKF a≤_ at hpl
 have hcl:=closes_c hG (a.drop (a.length - zKF a)) b (by rw[List.length_drop];omega) (by omega);have e1:((a.length:Int) - (zKF a:Int)).toNat=a.length - zKF a:=by omega
 have hdl:(a.drop (a.length - zKF a)).length=zKF a:=by rw[List.length_drop];omega
 by_cases hc:0<zBP (a.drop (a.length - zKF a)) b
 ·obtain ⟨q1,q2,c,w,hm,q3,q4⟩:=xXZ hc;have hw:=hm.wide;rw[List.length_append,hdl] at hw
  have hf:=yRY hG (a.drop (a.length - zKF a)++b.take (zBP (a.drop (a.length - zKF a)) b).toNat) (by rw[List.length_append];omega);have hse:=sep_c G (zZX (a.drop (a.length - zKF a)++b.take (zBP (a.drop (a.length - zKF a)) b).toNat)).1;have hV0:zDW a b=(1 - zKF a - zBP (a.drop (a.length - zKF a)) b,if xYH (zZX (a.drop (a.length - zKF a)++b.take (zBP (a.drop (a.length - zKF a)) b).toNat)).1 then 1 else 0):=by
   unfold zDW;simp only;rw[if_pos hc]
  have hl4:zKF a+(b.take (zBP (a.drop (a.length - zKF a)) b).toNat).length≤9223372036854775807:=by rw[List.length_take];omega
  refine zXP fun V hV=>?_
  rw[hV0] at hV
  clear hV0;have hcb:zBP (a.drop (a.length - zKF a)) b≤b.length:=by rw[q3,hdl];omega
  clear q3 hm;generalize zBP (a.drop (a.length - zKF a)) b=k at *
  generalize (zHF (a.drop (a.length - zKF a)++b.take k.toNat))=rb at *
  generalize zZX (a.drop (a.length - zKF a)++b.take k.toNat)=d at *
  generalize hsp:xYH d.1=sp at *
  refine zQV 63 [.tmp 4,.tmp 5] Tryz.func175 ?_
  cases sp with
  | true=>
    repeat' (first|refine zQQ 4611686087163642867 ?_|(refine stp ?_;simp only[go_sem,hdl,List.drop_zero])|(refine Pure.at (hpe) (by simp) (by simp) rfl ?_;(try simp only[go_sem]))|(refine Pure.at (hcl) (by simp) (by simp) rfl ?_;(try simp only[go_sem]))|(refine Pure.at (hf) (by simp) (by simp) rfl ?_;(try simp only[go_sem]))|(refine Pure.at (hse) (by simp) (by simp) rfl ?_;(try simp only[go_sem]))|(simp only[go_sem,e1])|(simp (disch:=omega) only[zQK])|(refine spl (fun h=>?_) (fun h=>?_)<;>first|omega|try simp only[go_sem,h])|(refine zQT ?_ ?_;focus omega))
    (refine zQH (by simp[EV.bel,zQX]) ?_;rw[hV])
    rfl
  | false=>
    repeat' (first|refine zQQ 4611686087163642867 ?_|(refine stp ?_;simp only[go_sem,hdl,List.drop_zero])|(refine Pure.at (hpe) (by simp) (by simp) rfl ?_;(try simp only[go_sem]))|(refine Pure.at (hcl) (by simp) (by simp) rfl ?_;(try simp only[go_sem]))|(refine Pure.at (hf) (by simp) (by simp) rfl ?_;(try simp only[go_sem]))|(refine Pure.at (hse) (by simp) (by simp) rfl ?_;(try simp only[go_sem]))|(simp only[go_sem,e1])|(simp (disch:=omega) only[zQK])|(refine spl (fun h=>?_) (fun h=>?_)<;>first|omega|try simp only[go_sem,h])|(refine zQT ?_ ?_;focus omega))
    (refine zQH (by simp[EV.bel,zQX]) ?_;rw[hV])
    rfl
 ·refine zXP fun V hV=>?_
  have hV0:zDW a b=if a.getLast? = some 13∧b.head? = some 10 then (0,-1) else (0,0):=by
   unfold zDW;simp only;rw[if_neg hc]
  rw[hV0] at hV
  clear hV0;generalize zBP (a.drop (a.length - zKF a)) b=k at *
  have eL:a.getLast? = if a.length=0 then none else some (a.getD ((a.length:Int) - 1).toNat 0):=by
   rcases List.eq_nil_or_concat a with rfl | ⟨r,y,rfl⟩
   ·rfl
   ·simp[List.getD_eq_getElem?_getD]
  have eH:b.head? = if b.length=0 then none else some (b.getD 0 0):=by cases b<;>rfl
  rw[eL,eH] at hV
  have u1:∀ (x:UInt8) (n:Nat),n<256→(x=UInt8.ofNat n↔(x.toNat:Int)=n):=fun x n hn=>by
   constructor
   ·rintro rfl;simp;omega
   ·intro e;apply UInt8.toNat_inj.1;simp;omega
  have u13:=fun x=>u1 x 13 (by omega)
  have u10:=fun x=>u1 x 10 (by omega)
  refine zQV 63 [.tmp 4,.tmp 5] Tryz.func175 ?_
  repeat' (first|refine zQQ 4611686087163642867 ?_|(refine stp ?_;simp only[go_sem])|(refine Pure.at (hpe) (by simp) (by simp) rfl ?_;(try simp only[go_sem]))|(refine Pure.at (hcl) (by simp) (by simp) rfl ?_;(try simp only[go_sem]))|(simp only[go_sem,e1])|(simp (disch:=omega) only[zQK])|(refine spl (fun h=>?_) (fun h=>?_)<;>first|omega|((try simp only[zZQ,zJB]);(try simp only[go_sem,h])))|(refine zQT ?_ ?_;focus omega))
  all_goals (
   refine zQH (by simp[EV.bel,zQX]) ?_;rw[hV]
   first
    | (rw[if_pos (by
      rw[if_neg (by omega),if_neg (by omega)];simp only[Option.some.injEq];exact ⟨(u13 _).2 (by assumption),(u10 _).2 (by assumption)⟩)])
    | (rw[if_neg (by
      rintro ⟨w1,w2⟩
      split at w1
      ·cases w1
      ·split at w2
       ·cases w2
       ·simp only[Option.some.injEq] at w1 w2
        have v1:=(u13 _).1 w1;have v2:=(u10 _).1 w2
        first|omega|contradiction)]))
omit hG in
theorem yXS (l:List UInt8):(zZX l).2≤4:=by
 rcases List.eq_nil_or_concat l with rfl | ⟨_,_,e⟩
 ·decide
 ·rcases yVT l (by rw[e];simp) with ⟨c,w,hm⟩ | ⟨a,r,-,h⟩
  ·rw[zYN hm];exact hm.wide.2.1
  ·rw[h];show 1≤4;omega
omit hG in
theorem tlP_ge (s:List UInt8):∀ (f pos:Nat),s.length - pos≤f→s.length - pos≤4*(tlP s f pos).1
 | 0,pos,h=>by omega
 | f+1,pos,h=>by
   simp only[tlP]
   split
   ·have h1:=yXS (s.drop pos);have h2:=zJM (s.drop pos);have h3:=tlP_ge s f (pos+(zZX (s.drop pos)).2) (by omega);simp only;omega
   ·omega
omit hG in
theorem zYR (s:List UInt8):(tlG s 0).2≤(tlG s 0).1∧(tlG s 0).1≤s.length∧s.length≤4*(tlG s 0).1:=by
 have h1:=xJD s (s.length - 0) 0;have h2:=tlP_ge s (s.length - 0) 0 (Nat.le_refl _);unfold tlG;omega
omit hG in
theorem flat44:flatT Tryz.prog 81=some [0,0,0,1,1]:=by kernel_rfl
omit hG in
theorem und44:Tryz.prog.underlying 81=some (.struct (Tryz.prog.fieldsOf 81)):=by kernel_rfl
omit hG in
theorem ends_of (s:List UInt8) (h:s.length≤6):zVB s++(zXH s).drop (2*min s.length 3 - s.length)=s:=by
 unfold zVB zXH;rw[List.drop_drop]
 rcases Nat.le_total s.length 3 with q | q
 ·rw[List.take_of_length_le q,List.drop_of_length_le (by omega),List.append_nil]
 ·rw[show s.length - 3+(2*min s.length 3 - s.length)=3 by omega,List.take_append_drop]
omit hG in
theorem xJW (G:List Gl) (s:List UInt8) (hs:s.length≤9000000000):E.Pure G Tryz.prog 147 [zZY s] (.int .i64 0):=by
 obtain ⟨b1,b2,b3⟩:=zYR s;have hh:(zVB s).length=min s.length 3:=by unfold zVB;rw[List.length_take];omega
 have ht:(zXH s).length=min s.length 3:=by unfold zXH;rw[List.length_drop];omega
 have e0:min (s.length:Int) 3=((min s.length 3:Nat):Int):=by omega
 have heq:EqS Tryz.prog .neq 81 (zZY s) (zZY s) false:=by
  have:=(zFN (xs:=[.int .i64 s.length,.int .i64 (tlG s 0).1,.int .i64 (tlG s 0).2,.str (zVB s),.str (zXH s)]) (ys:=[.int .i64 s.length,.int .i64 (tlG s 0).1,.int .i64 (tlG s 0).2,.str (zVB s),.str (zXH s)]) flat44 und44 ⟨rfl,rfl,rfl,trivial⟩).2
  simpa only[zZY,eqE,eqE.eqL,decide_true,Bool.and_true,Bool.true_and,and_self,Bool.not_true] using this
 have hof:=tof_c G s hs;refine zXP fun V hV=>?_
 refine zQV 76 [.tmp 2] Tryz.func147 ?_
 rcases Nat.lt_or_ge 6 s.length with hl | hl
 ·unfold zZY at heq ⊢
  repeat' (first|refine zQQ 37779003922750222895135 ?_|(refine stp ?_;simp only[go_sem,hh,ht,e0])|(refine zWV (id:=9) mixed [(0,[]),(1,[]),(2,[]),(3,[]),(5,[]),(7,[]),(9,[]),(10,[]),(11,[]),(4,[]),(6,[]),(8,[]),(12,[]),(13,[]),(14,[]),(15,[]),(16,[4]),(17,[]),(18,[])] (by kernel_rfl) ?_;simp only[go_sem])|(simp (disch:=omega) only[zQK,zDQ,zFD])|(refine spl (fun h=>?_) (fun h=>?_)<;>first|omega|((try simp only[zZQ,zJB]);(try simp only[go_sem,h])))|fail)
  all_goals (refine zQH (by simp[EV.bel]) ?_;rw[hV])
 ·have e1:((2:Int)*((min s.length 3:Nat):Int) - (s.length:Int)).toNat=2*min s.length 3 - s.length:=by omega
  have e2:=ends_of s hl;have e3:List.take (min s.length 3 - (2*min s.length 3 - s.length)) (List.drop (2*min s.length 3 - s.length) (zXH s))=List.drop (2*min s.length 3 - s.length) (zXH s):=List.take_of_length_le (by rw[List.length_drop,ht];omega);have e4:min s.length 3+(List.drop (2*min s.length 3 - s.length) (zXH s)).length≤9223372036854775807:=by rw[List.length_drop,ht];omega
  unfold zZY at heq hof ⊢
  repeat' (first|refine zQQ 37779003922750222895135 ?_|(refine stp ?_;simp only[go_sem,hh,ht,e0])|(refine zWV (id:=9) mixed [(0,[]),(1,[]),(2,[]),(3,[]),(5,[]),(7,[]),(9,[]),(10,[]),(11,[]),(4,[]),(6,[]),(8,[]),(12,[]),(13,[]),(14,[]),(15,[]),(16,[4]),(17,[]),(18,[])] (by kernel_rfl) ?_;simp only[go_sem])|(refine Pure.at (hof) (by simp) (by simp) rfl ?_;(try simp only[go_sem]))|(refine ⟨heq,?_⟩)|(simp only[go_sem,e1,e2,e3])|(simp (disch:=omega) only[zQK,zDQ,zFD])|(refine spl (fun h=>?_) (fun h=>?_)<;>first|omega|((try simp only[zZQ,zKN]);(try simp only[go_sem,hh,ht,h])))|(refine zQT ?_ ?_;focus omega))
  all_goals (refine zQH (by simp[EV.bel]) ?_;rw[hV])
theorem seamT_c (a b:List UInt8) (ha:a.length≤4000000000) (hb:b.length≤4000000000):E.Pure G Tryz.prog 146 [zZY a,zZY b] (.tuple [.int .i64 (zDW (zXH a) (zVB b)).1,.int .i64 (zDW (zXH a) (zVB b)).2,.int .i64 0]):=by
 have hh:(zVB b).length=min b.length 3:=by unfold zVB;rw[List.length_take];omega
 have ht:(zXH a).length=min a.length 3:=by unfold zXH;rw[List.length_drop];omega
 have hca:=xJW G a (by omega);have hcb:=xJW G b (by omega);have hse:=seam_c hG (zXH a) (zVB b) (by omega) (by omega);refine zXP fun V hV=>?_
 generalize zDW (zXH a) (zVB b)=e at *
 unfold zZY at hca hcb ⊢
 refine zQV 25 [.tmp 4,.tmp 5,.tmp 6] Tryz.func146 ?_
 repeat' (first|refine zQQ 16511 ?_|(refine stp ?_;simp only[go_sem])|(refine Pure.at (hca) (by simp) (by simp) rfl ?_;(try simp only[go_sem]))|(refine Pure.at (hcb) (by simp) (by simp) rfl ?_;(try simp only[go_sem]))|(refine Pure.at (hse) (by simp) (by simp) rfl ?_;(try simp only[go_sem]))|fail)
 all_goals (refine zQH (by simp[EV.bel,zQX]) ?_;rw[hV])
omit hG in
theorem headT_app (a b:List UInt8):zVB (zVB a++zVB b)=zVB (a++b):=by
 unfold zVB;rw[List.take_append,List.take_append,List.take_take,List.take_take,List.length_take]
 congr 2
 rcases Nat.le_total a.length 3 with q | q<;>omega
omit hG in
theorem tailT_app (a b:List UInt8):zXH (zXH a++zXH b)=zXH (a++b):=by
 have hl:(zXH a).length=a.length - (a.length - 3):=by unfold zXH;rw[List.length_drop]
 have hl2:(zXH b).length=b.length - (b.length - 3):=by unfold zXH;rw[List.length_drop]
 rcases Nat.lt_or_ge b.length 3 with q | q
 ·have e1:zXH b=b:=by unfold zXH;rw[show b.length - 3=0 by omega];rfl
  have e2:zXH a++b=(a++b).drop (a.length - 3):=by unfold zXH;rw[List.drop_append_of_le_length (by omega)]
  rw[e1];unfold zXH at e2 ⊢
  rw[e2,List.length_drop,List.drop_drop,List.length_append]
  congr 1;omega
 ·have e1:∀ (x:List UInt8),zXH (x++zXH b)=zXH b:=fun x=>by
   unfold zXH at hl2 ⊢
   rw[List.length_append,List.drop_append,List.drop_of_length_le (l:=x) (by omega),List.nil_append,List.drop_drop]
   congr 1;omega
  have e2:zXH (a++b)=zXH b:=by
   unfold zXH;rw[List.length_append,List.drop_append,List.drop_of_length_le (l:=a) (by omega),List.nil_append]
   congr 1;omega
  rw[e1,e2]
theorem join_c (a b:List UInt8) (ha:a.length≤4000000000) (hb:b.length≤4000000000):E.Pure G Tryz.prog 114 [zZY a,zZY b] (.tuple [zZY (a++b),.int .i64 0]):=by
 have hh:∀ b:List UInt8,(zVB b).length=min b.length 3:=fun b=>by unfold zVB;rw[List.length_take];omega
 have ht:∀ a:List UInt8,(zXH a).length=min a.length 3:=fun a=>by unfold zXH;rw[List.length_drop];omega
 have hse:=seamT_c hG a b ha hb;obtain ⟨j1,j2⟩:=tl_join a b;have hck:=xJW G (a++b) (by rw[List.length_append];omega);obtain ⟨a1,a2,a3⟩:=zYR a;obtain ⟨b1,b2,b3⟩:=zYR b;obtain ⟨c1,c2,c3⟩:=zYR (a++b);rw[List.length_append] at c2 c3
 have hf:=xYQ G (zVB a++zVB b) (by rw[List.length_append,hh,hh];omega);have hl:=tlast_c G (zXH a++zXH b) (by rw[List.length_append,ht,ht];omega);rw[headT_app] at hf
 rw[tailT_app] at hl
 have l1:=hh a;have l2:=hh b;have l3:=ht a;have l4:=ht b;have hab:((a++b).length:Int)=(a.length:Int)+(b.length:Int):=by rw[List.length_append];omega
 refine zXP fun V hV=>?_
 unfold zZY at hV hse hck ⊢
 rw[hab] at hV hck
 generalize zDW (zXH a) (zVB b)=e at *
 rw[j1,j2] at hV hck
 generalize (tlG (a++b) 0).1=cc at *
 generalize (tlG (a++b) 0).2=cl at *
 generalize zVB (a++b)=hd at *
 generalize zXH (a++b)=tl at *
 refine zQV 68 [.cell 4 81,.tmp 5] Tryz.func114 ?_
 repeat' (first|refine zQQ 18446744073844295679 ?_|(refine stp ?_;simp only[go_sem])|(refine zWV (id:=6) mixed [(0,[]),(2,[]),(5,[]),(7,[]),(10,[]),(12,[]),(14,[]),(17,[]),(19,[]),(21,[]),(25,[]),(27,[]),(1,[]),(3,[]),(4,[]),(6,[]),(8,[]),(9,[]),(11,[]),(13,[]),(15,[]),(16,[]),(18,[]),(20,[]),(22,[]),(23,[]),(26,[]),(28,[]),(29,[]),(24,[1,3,6,8,13,15,26,28]),(30,[1,3,6,8,13,15]),(31,[]),(32,[]),(33,[])] (by kernel_rfl) ?_;simp only[go_sem,l1,l2,l3,l4])|(refine Pure.at (hse) (by simp) (by simp) rfl ?_;(try simp only[go_sem]))|(refine Pure.at (hck) (by simp) (by simp) rfl ?_;(try simp only[go_sem]))|(refine Pure.at (hf) (by simp) (by simp) rfl ?_;(try simp only[go_sem]))|(refine Pure.at (hl) (by simp) (by simp) rfl ?_;(try simp only[go_sem]))|(simp (disch:=omega) only[zQK])|(refine spl (fun h=>?_) (fun h=>?_)<;>first|omega|try simp only[go_sem,h])|(refine zQT ?_ ?_;focus omega))
 all_goals (refine zQH (by simp[EV.bel,zQX]) ?_;rw[hV])
end
end Go.Proofs.YtncphnpndkjkaaaGreatDoor
