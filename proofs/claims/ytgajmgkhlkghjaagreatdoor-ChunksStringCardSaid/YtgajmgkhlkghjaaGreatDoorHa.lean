/-
  Own work: a part of the proof that the last text closes.
-/
import Derived.Test.YtgajmgkhlkghjaaGreatDoorRows
import Derived.Test.YtgajmgkhlkghjaaGreatDoorFe
namespace Go.Proofs.YtgajmgkhlkghjaaGreatDoor
open Go.E
set_option linter.all false
set_option maxRecDepth 100000
set_option maxHeartbeats 16000000
section
theorem mixed:Tryz.prog.follows .mixedOrders=true:=by kernel_rfl
theorem T3:tiOf Tryz.prog 3=some ⟨(.int .i64),1,8,[(.int .i64 0)]⟩:=by kernel_rfl
theorem T4:tiOf Tryz.prog 4=some ⟨.bool,1,1,[(.bool false)]⟩:=by kernel_rfl
theorem T5:tiOf Tryz.prog 5=some ⟨(.int .u8),1,1,[(.int .u8 0)]⟩:=by kernel_rfl
theorem T9:tiOf Tryz.prog 9=some ⟨.str,1,16,[(.str [])]⟩:=by kernel_rfl
theorem T22:tiOf Tryz.prog 22=some ⟨(.slice 33),1,24,[(.slice none 0 0)]⟩:=by kernel_rfl
theorem T24:tiOf Tryz.prog 24=some ⟨(.ptr 165),1,8,[(.ptr none)]⟩:=by kernel_rfl
theorem T25:tiOf Tryz.prog 25=some ⟨(.ptr 56),1,8,[(.ptr none)]⟩:=by kernel_rfl
theorem T29:tiOf Tryz.prog 29=some ⟨(.int .u32),1,4,[(.int .u32 0)]⟩:=by kernel_rfl
theorem T30:tiOf Tryz.prog 30=some ⟨(.arr 2 29),2,8,[(.int .u32 0),(.int .u32 0)]⟩:=by kernel_rfl
theorem T31:tiOf Tryz.prog 31=some ⟨(.arr 2 9),2,32,[(.str []),(.str [])]⟩:=by kernel_rfl
theorem T33:tiOf Tryz.prog 33=some ⟨(.struct [(0,3),(1,3),(2,9)]),3,32,[(.int .i64 0),(.int .i64 0),(.str [])]⟩:=by kernel_rfl
theorem T34:tiOf Tryz.prog 34=some ⟨(.int .i64),1,8,[(.int .i64 0)]⟩:=by kernel_rfl
theorem T40:tiOf Tryz.prog 40=some ⟨(.slice 5),1,24,[(.slice none 0 0)]⟩:=by kernel_rfl
theorem T44:tiOf Tryz.prog 44=some ⟨(.struct [(0,3),(1,3),(2,3),(3,9),(4,9)]),5,56,[(.int .i64 0),(.int .i64 0),(.int .i64 0),(.str []),(.str [])]⟩:=by kernel_rfl
theorem T47:tiOf Tryz.prog 47=some ⟨(.slice 3),1,24,[(.slice none 0 0)]⟩:=by kernel_rfl
theorem T52:tiOf Tryz.prog 52=some ⟨(.ptr 163),1,8,[(.ptr none)]⟩:=by kernel_rfl
theorem T54:tiOf Tryz.prog 54=some ⟨(.map 3 4),1,8,[(.map none)]⟩:=by kernel_rfl
theorem T56:tiOf Tryz.prog 56=some ⟨(.struct [(0,24),(1,52),(2,54),(3,54),(4,3),(5,4)]),6,48,[(.ptr none),(.ptr none),(.map none),(.map none),(.int .i64 0),(.bool false)]⟩:=by kernel_rfl
theorem T63:tiOf Tryz.prog 63=some ⟨(.struct [(0,3),(1,3)]),2,16,[(.int .i64 0),(.int .i64 0)]⟩:=by kernel_rfl
theorem T75:tiOf Tryz.prog 75=some ⟨(.slice 40),1,24,[(.slice none 0 0)]⟩:=by kernel_rfl
theorem T77:tiOf Tryz.prog 77=some ⟨(.struct [(0,3),(1,47),(2,75)]),3,56,[(.int .i64 0),(.slice none 0 0),(.slice none 0 0)]⟩:=by kernel_rfl
theorem T78:tiOf Tryz.prog 78=some ⟨(.ptr 179),1,8,[(.ptr none)]⟩:=by kernel_rfl
theorem T79:tiOf Tryz.prog 79=some ⟨(.ptr 197),1,8,[(.ptr none)]⟩:=by kernel_rfl
theorem T80:tiOf Tryz.prog 80=some ⟨(.ptr 206),1,8,[(.ptr none)]⟩:=by kernel_rfl
theorem T81:tiOf Tryz.prog 81=some ⟨(.ptr 249),1,8,[(.ptr none)]⟩:=by kernel_rfl
theorem T83:tiOf Tryz.prog 83=some ⟨(.struct [(0,78),(1,24),(2,25),(3,79),(4,80),(5,81),(6,3)]),7,56,[(.ptr none),(.ptr none),(.ptr none),(.ptr none),(.ptr none),(.ptr none),(.int .i64 0)]⟩:=by kernel_rfl
theorem T84:tiOf Tryz.prog 84=some ⟨(.ptr 93),1,8,[(.ptr none)]⟩:=by kernel_rfl
theorem T88:tiOf Tryz.prog 88=some ⟨(.slice 91),1,24,[(.slice none 0 0)]⟩:=by kernel_rfl
theorem T91:tiOf Tryz.prog 91=some ⟨(.struct [(0,9),(1,3),(2,3)]),3,32,[(.str []),(.int .i64 0),(.int .i64 0)]⟩:=by kernel_rfl
theorem T93:tiOf Tryz.prog 93=some ⟨(.struct [(0,25),(1,29),(2,88),(3,47)]),4,64,[(.ptr none),(.int .u32 0),(.slice none 0 0),(.slice none 0 0)]⟩:=by kernel_rfl
theorem T115:tiOf Tryz.prog 115=some ⟨(.ptr 188),1,8,[(.ptr none)]⟩:=by kernel_rfl
theorem T118:tiOf Tryz.prog 118=some ⟨(.ptr 193),1,8,[(.ptr none)]⟩:=by kernel_rfl
theorem T127:tiOf Tryz.prog 127=some ⟨(.ptr 201),1,8,[(.ptr none)]⟩:=by kernel_rfl
theorem T130:tiOf Tryz.prog 130=some ⟨(.ptr 204),1,8,[(.ptr none)]⟩:=by kernel_rfl
theorem T135:tiOf Tryz.prog 135=some ⟨(.int .u64),1,8,[(.int .u64 0)]⟩:=by kernel_rfl
theorem T141:tiOf Tryz.prog 141=some ⟨(.map 3 3),1,8,[(.map none)]⟩:=by kernel_rfl
theorem T152:tiOf Tryz.prog 152=some ⟨(.ptr 154),1,8,[(.ptr none)]⟩:=by kernel_rfl
theorem T154:tiOf Tryz.prog 154=some ⟨(.struct [(0,152),(1,40)]),2,32,[(.ptr none),(.slice none 0 0)]⟩:=by kernel_rfl
theorem T161:tiOf Tryz.prog 161=some ⟨(.map 3 255),1,8,[(.map none)]⟩:=by kernel_rfl
theorem T163:tiOf Tryz.prog 163=some ⟨(.struct [(0,118),(1,161),(2,4)]),3,24,[(.ptr none),(.map none),(.bool false)]⟩:=by kernel_rfl
theorem T165:tiOf Tryz.prog 165=some ⟨(.struct [(0,118),(1,3),(2,3),(3,54),(4,25)]),5,40,[(.ptr none),(.int .i64 0),(.int .i64 0),(.map none),(.ptr none)]⟩:=by kernel_rfl
theorem T174:tiOf Tryz.prog 174=some ⟨(.slice 4),1,24,[(.slice none 0 0)]⟩:=by kernel_rfl
theorem T176:tiOf Tryz.prog 176=some ⟨(.slice 185),1,24,[(.slice none 0 0)]⟩:=by kernel_rfl
theorem T177:tiOf Tryz.prog 177=some ⟨(.slice 351),1,24,[(.slice none 0 0)]⟩:=by kernel_rfl
theorem T179:tiOf Tryz.prog 179=some ⟨(.struct [(0,176),(1,3),(2,177),(3,3),(4,4)]),5,72,[(.slice none 0 0),(.int .i64 0),(.slice none 0 0),(.int .i64 0),(.bool false)]⟩:=by kernel_rfl
theorem T182:tiOf Tryz.prog 182=some ⟨(.arr 8 135),8,64,[(.int .u64 0),(.int .u64 0),(.int .u64 0),(.int .u64 0),(.int .u64 0),(.int .u64 0),(.int .u64 0),(.int .u64 0)]⟩:=by kernel_rfl
theorem T183:tiOf Tryz.prog 183=some ⟨(.slice 182),1,24,[(.slice none 0 0)]⟩:=by kernel_rfl
theorem T185:tiOf Tryz.prog 185=some ⟨(.struct [(0,183),(1,3)]),2,32,[(.slice none 0 0),(.int .i64 0)]⟩:=by kernel_rfl
theorem T188:tiOf Tryz.prog 188=some ⟨(.struct [(0,78),(1,3),(2,3)]),3,24,[(.ptr none),(.int .i64 0),(.int .i64 0)]⟩:=by kernel_rfl
theorem T189:tiOf Tryz.prog 189=some ⟨(.slice 245),1,24,[(.slice none 0 0)]⟩:=by kernel_rfl
theorem T193:tiOf Tryz.prog 193=some ⟨(.struct [(0,78),(1,115),(2,52)]),3,24,[(.ptr none),(.ptr none),(.ptr none)]⟩:=by kernel_rfl
theorem T195:tiOf Tryz.prog 195=some ⟨(.slice 199),1,24,[(.slice none 0 0)]⟩:=by kernel_rfl
theorem T197:tiOf Tryz.prog 197=some ⟨(.struct [(0,3),(1,195),(2,3),(3,177),(4,3),(5,4)]),6,80,[(.int .i64 0),(.slice none 0 0),(.int .i64 0),(.slice none 0 0),(.int .i64 0),(.bool false)]⟩:=by kernel_rfl
theorem T199:tiOf Tryz.prog 199=some ⟨(.struct [(0,75),(1,3)]),2,32,[(.slice none 0 0),(.int .i64 0)]⟩:=by kernel_rfl
theorem T201:tiOf Tryz.prog 201=some ⟨(.struct [(0,79),(1,3),(2,3)]),3,24,[(.ptr none),(.int .i64 0),(.int .i64 0)]⟩:=by kernel_rfl
theorem T202:tiOf Tryz.prog 202=some ⟨(.ptr 296),1,8,[(.ptr none)]⟩:=by kernel_rfl
theorem T204:tiOf Tryz.prog 204=some ⟨(.struct [(0,79),(1,127),(2,202)]),3,24,[(.ptr none),(.ptr none),(.ptr none)]⟩:=by kernel_rfl
theorem T206:tiOf Tryz.prog 206=some ⟨(.struct [(0,130),(1,3),(2,3),(3,174),(4,81)]),5,56,[(.ptr none),(.int .i64 0),(.int .i64 0),(.slice none 0 0),(.ptr none)]⟩:=by kernel_rfl
theorem T214:tiOf Tryz.prog 214=some ⟨(.slice 218),1,24,[(.slice none 0 0)]⟩:=by kernel_rfl
theorem T218:tiOf Tryz.prog 218=some ⟨(.struct [(0,3),(1,75),(2,4)]),3,40,[(.int .i64 0),(.slice none 0 0),(.bool false)]⟩:=by kernel_rfl
theorem T221:tiOf Tryz.prog 221=some ⟨(.ptr 262),1,8,[(.ptr none)]⟩:=by kernel_rfl
theorem T249:tiOf Tryz.prog 249=some ⟨(.struct [(0,80),(1,202),(2,174),(3,174),(4,4)]),5,72,[(.ptr none),(.ptr none),(.slice none 0 0),(.slice none 0 0),(.bool false)]⟩:=by kernel_rfl
theorem T255:tiOf Tryz.prog 255=some ⟨(.struct [(0,5),(1,4)]),2,2,[(.int .u8 0),(.bool false)]⟩:=by kernel_rfl
theorem T257:tiOf Tryz.prog 257=some ⟨(.int .u16),1,2,[(.int .u16 0)]⟩:=by kernel_rfl
theorem T260:tiOf Tryz.prog 260=some ⟨(.arr 252 5),252,252,zQZ (zU 252)⟩:=by kernel_rfl
theorem T262:tiOf Tryz.prog 262=some ⟨(.struct [(0,4),(1,3),(2,3),(3,260)]),255,280,[(.bool false),(.int .i64 0),(.int .i64 0)]++zQZ (zU 252)⟩:=by kernel_rfl
theorem T265:tiOf Tryz.prog 265=some ⟨(.arr 3 5),3,3,[(.int .u8 0),(.int .u8 0),(.int .u8 0)]⟩:=by kernel_rfl
theorem T274:tiOf Tryz.prog 274=some ⟨.other,1,8,[(.ptr none)]⟩:=by kernel_rfl
theorem T284:tiOf Tryz.prog 284=some ⟨(.struct [(0,3)]),1,8,[(.int .i64 0)]⟩:=by kernel_rfl
theorem T294:tiOf Tryz.prog 294=some ⟨(.slice 352),1,24,[(.slice none 0 0)]⟩:=by kernel_rfl
theorem T296:tiOf Tryz.prog 296=some ⟨(.struct [(0,130),(1,294),(2,4)]),3,40,[(.ptr none),(.slice none 0 0),(.bool false)]⟩:=by kernel_rfl
attribute [go_sem] T3 T4 T5 T9 T22 T24 T25 T29 T30 T31 T33 T34 T40 T44 T47 T52 T54 T56 T63
attribute [go_sem] T75 T77 T78 T79 T80 T81 T83 T84 T88 T91 T93 T115 T118 T127 T130 T135 T141 T152 T154 T161
attribute [go_sem] T163 T165 T174 T176 T177 T179 T182 T183 T185 T188 T189 T193 T195 T197 T199 T201 T202 T204 T206 T214
attribute [go_sem] T218 T221 T249 T255 T257 T260 T262 T265 T274 T284 T294 T296
theorem size16_c (G:List Gl):E.Pure G Tryz.prog 181 [] (.int .i64 2):=by
 refine pure_hid fun V hV=>?_
 refine zQV 12 [.tmp 0] Tryz.func181 ?_
 repeat' (first|refine zQQ 39 ?_|refine zQW ?_|(refine stp ?_;simp only[go_sem])|(simp only[go_sem])|(refine esem_loopN 39 18 ?_;simp only[go_sem])|(simp (disch:=omega) only[wrapU16E])|fail)
 all_goals (refine done_zero (by simp[EV.bel]) ?_;rw[hV])
theorem size32_c (G:List Gl):E.Pure G Tryz.prog 143 [] (.int .i64 4):=by
 refine pure_hid fun V hV=>?_
 refine zQV 12 [.tmp 0] Tryz.func143 ?_
 repeat' (first|refine zQQ 39 ?_|refine zQW ?_|(refine stp ?_;simp only[go_sem])|(simp only[go_sem])|(refine esem_loopN 39 34 ?_;simp only[go_sem])|(simp (disch:=omega) only[wrapU32E])|fail)
 all_goals (refine done_zero (by simp[EV.bel]) ?_;rw[hV])
theorem size64_c (G:List Gl):E.Pure G Tryz.prog 130 [] (.int .i64 8):=by
 refine pure_hid fun V hV=>?_
 refine zQV 12 [.tmp 0] Tryz.func130 ?_
 repeat' (first|refine zQQ 39 ?_|refine zQW ?_|(refine stp ?_;simp only[go_sem])|(simp only[go_sem])|(refine esem_loopN 39 66 ?_;simp only[go_sem])|(simp (disch:=omega) only[wrapU64E])|fail)
 all_goals (refine done_zero (by simp[EV.bel]) ?_;rw[hV])
end
section
theorem put_step (l:List UInt8) (v i:Nat):putL (zQZ l++zQZ (leB i v)++zQZ (zU (8 - i))) (l.length+i) [.int .u8 (IntKind.u8.wrap ((v / 256 ^ i:Nat):Int))]=zQZ l++zQZ (leB (i+1) v)++zQZ (zU (8 - (i+1))):=by
 have hl:(zQZ l++zQZ (leB i v)).length=l.length+i:=by simp[zQY,leB_length]
 unfold putL;rw[List.take_left' hl,IntKind.wrap_u8,← u8_ofNat,leB_succ,bytesE_append (leB i v)];simp only[List.length_cons,List.length_nil,List.append_assoc]
 congr 2
 rw[show l.length+i+(0+1)=(zQZ l++zQZ (leB i v)).length+1 by omega,← List.append_assoc,List.drop_append];rw[show (zQZ l++zQZ (leB i v)).length+1 - (zQZ l++zQZ (leB i v)).length=1 by omega,List.drop_of_length_le (by omega),bytesE_drop,zU_drop,show 8 - i - 1=8 - (i+1) by omega];rfl
theorem copy_step (l:List UInt8):putL (zQZ (zU (l.length+8))) 0 (zQZ l)=zQZ l++zQZ (zU 8):=by
 have hl:(zQZ l).length=l.length:=zQY l;unfold putL;rw[List.take_zero,List.nil_append,bytesE_drop,zU_drop,Nat.zero_add,hl,Nat.add_sub_cancel_left]
theorem take_bytes (l R:List UInt8):(zQZ l++zQZ R).take l.length=zQZ l:=List.take_left' (zQY l)
theorem take_bytes0 (l:List UInt8):(zQZ l).take l.length=zQZ l:=by rw[List.take_of_length_le];rw[zQY];exact Nat.le_refl _
theorem le_bytes (l R:List UInt8):(l.length≤(zQZ l++zQZ R).length)=True:=by simp[zQY]
theorem toNat_add8 (n:Nat):((n:Int)+8).toNat=n+8:=by omega
theorem pow_step (v i:Nat):((v / 256 ^ i:Nat):Int) / 256=((v / 256 ^ (i+1):Nat):Int):=by
 rw[Nat.pow_succ,← Nat.div_div_eq_div_mul];rfl
attribute [local go_sem] leB_zero Nat.sub_zero Nat.pow_zero Nat.div_one
theorem put16_c (G:List Gl) (l R:List UInt8) (cp z0 f:Nat) (w:Bool) (v:Nat) (hv:v<65536) (hl:l.length≤70000000000000):Eff G Tryz.prog 148 [.slice (some ⟨0,0⟩) l.length cp,.int .u16 v] [(0,.cells (zQZ l++zQZ R) 5 z0 w f)] 1 (.slice (some ⟨1,0⟩) (l.length+2) (l.length+8)) [(0,.cells (zQZ l++zQZ R) 5 z0 w f),(1,.cells (zQZ l++zQZ (leB 2 v)++zQZ (zU 6)) 5 0 true 0)] 2:=by
 unfold Eff;refine zQV 30 [.tmp 4] Tryz.func148 ?_
 repeat' (first|refine zQQ 1835123 ?_|refine zQW ?_|(refine stp ?_;simp only[go_sem,le_bytes,take_bytes,take_bytes0,copy_step,zQY,bytesE_one,zU_length,Nat.min_self])|(refine eop_makeSlice ?_;unfold eMakeSlice;simp only[go_sem])|(refine Pure.at (size16_c _) (by simp) (by simp) rfl ?_;(try simp only[go_sem]))|(simp only[go_sem,toNat_add8])|(simp (disch:=omega) only[zQK,wrapU64E])|(refine zQP ?_ ?_;focus omega))
 refine esem_loopS (fun z:Nat=>[(5,.slice (some ⟨1,0⟩) (l.length+z) (l.length+8)),(6,.int .u64 ((v / 256 ^ z:Nat):Int)),(18,.int .i64 2),(19,.int .i64 z)]) (fun z:Nat=>[(0,.cells (zQZ l++zQZ R) 5 z0 w f),(1,.cells (zQZ l++zQZ (leB z v)++zQZ (zU (8 - z))) 5 0 true 0)]) (fun z:Nat=>2) (fun z:Nat=>z≤2) (fun z:Nat=>2 - z) (0) (fun z hz=>⟨by simp[frBel],by simp,by omega⟩) (by omega) (by simp only[go_sem,zWQ];done) (by simp only[go_sem,lessL];done) ?_;intro i hi;have hst:=put_step l v i
 repeat' (first|refine zQQ 1835123 ?_|refine zQW ?_|(refine stp ?_;simp only[go_sem,hst,List.length_append,zQY,leB_length,zU_length])|(simp (disch:=omega) only[zQK,wrapU8E])|(refine spl (fun h=>?_) (fun h=>?_)<;>first|omega|try simp only[go_sem,h])|(refine zQP ?_ ?_;focus omega))
 ·(refine ⟨(i+1),?_,?_,rfl,rfl,?_,?_⟩;rotate_left;(focus (simp only[];omega));(focus ((try simp only[go_sem,zWQ,shr8_64,pow_step]);((repeat' apply And.intro)<;>(rfl))));(focus (trivial));(try simp only[]))
  omega
 ·obtain rfl:i=2:=by omega
  exact done_eff [1] (by simp) (by simp) (by simp) (by simp) (by simp) (by simp) rfl (by simp) (by simp)
theorem putN16_c (G:List Gl) (v:Nat) (hv:v<65536):Eff G Tryz.prog 148 [.slice none 0 0,.int .u16 v] [] 0 (.slice (some ⟨0,0⟩) 2 8) [(0,.cells (zQZ (leB 2 v)++zQZ (zU 6)) 5 0 true 0)] 1:=by
 unfold Eff;refine zQV 30 [.tmp 4] Tryz.func148 ?_
 repeat' (first|refine zQQ 1835123 ?_|refine zQW ?_|(refine stp ?_;simp only[go_sem,Nat.min_self])|(refine eop_makeSlice ?_;unfold eMakeSlice;simp only[go_sem])|(refine Pure.at (size16_c _) (by simp) (by simp) rfl ?_;(try simp only[go_sem]))|(simp (disch:=omega) only[wrapU64E])|fail)
 refine esem_loopS (fun z:Nat=>[(5,.slice (some ⟨0,0⟩) z 8),(6,.int .u64 ((v / 256 ^ z:Nat):Int)),(18,.int .i64 2),(19,.int .i64 z)]) (fun z:Nat=>[(0,.cells (zQZ (leB z v)++zQZ (zU (8 - z))) 5 0 true 0)]) (fun z:Nat=>1) (fun z:Nat=>z≤2) (fun z:Nat=>2 - z) (0) (fun z hz=>⟨by simp[frBel],by simp,by exact Nat.zero_le _⟩) (by omega) (by simp only[go_sem,zWQ];done) (by trivial) ?_;intro i hi;have hst:=put_step [] v i;simp only[bytesE_nil,List.nil_append,List.length_nil,Nat.zero_add] at hst
 repeat' (first|refine zQQ 1835123 ?_|refine zQW ?_|(refine stp ?_;simp only[go_sem,hst,List.length_append,zQY,leB_length,zU_length])|(simp (disch:=omega) only[zQK,wrapU8E])|(refine spl (fun h=>?_) (fun h=>?_)<;>first|omega|try simp only[go_sem,h])|(refine zQP ?_ ?_;focus omega))
 ·(refine ⟨(i+1),?_,?_,rfl,rfl,?_,?_⟩;rotate_left;(focus (simp only[];omega));(focus ((try simp only[go_sem,zWQ,shr8_64,pow_step]);((repeat' apply And.intro)<;>(rfl))));(focus (trivial));(try simp only[]))
  omega
 ·obtain rfl:i=2:=by omega
  exact done_eff [0] (by simp) (by simp) (by simp) (by simp) (by simp) (by simp) rfl (by simp) (by simp)
theorem putN32_c (G:List Gl) (v:Nat) (hv:v<4294967296):Eff G Tryz.prog 147 [.slice none 0 0,.int .u32 v] [] 0 (.slice (some ⟨0,0⟩) 4 8) [(0,.cells (zQZ (leB 4 v)++zQZ (zU 4)) 5 0 true 0)] 1:=by
 unfold Eff;refine zQV 30 [.tmp 4] Tryz.func147 ?_
 repeat' (first|refine zQQ 1835123 ?_|refine zQW ?_|(refine stp ?_;simp only[go_sem,Nat.min_self])|(refine eop_makeSlice ?_;unfold eMakeSlice;simp only[go_sem])|(refine Pure.at (size32_c _) (by simp) (by simp) rfl ?_;(try simp only[go_sem]))|(simp (disch:=omega) only[wrapU64E])|fail)
 refine esem_loopS (fun z:Nat=>[(5,.slice (some ⟨0,0⟩) z 8),(6,.int .u64 ((v / 256 ^ z:Nat):Int)),(18,.int .i64 4),(19,.int .i64 z)]) (fun z:Nat=>[(0,.cells (zQZ (leB z v)++zQZ (zU (8 - z))) 5 0 true 0)]) (fun z:Nat=>1) (fun z:Nat=>z≤4) (fun z:Nat=>4 - z) (0) (fun z hz=>⟨by simp[frBel],by simp,by exact Nat.zero_le _⟩) (by omega) (by simp only[go_sem,zWQ];done) (by trivial) ?_;intro i hi;have hst:=put_step [] v i;simp only[bytesE_nil,List.nil_append,List.length_nil,Nat.zero_add] at hst
 repeat' (first|refine zQQ 1835123 ?_|refine zQW ?_|(refine stp ?_;simp only[go_sem,hst,List.length_append,zQY,leB_length,zU_length])|(simp (disch:=omega) only[zQK,wrapU8E])|(refine spl (fun h=>?_) (fun h=>?_)<;>first|omega|try simp only[go_sem,h])|(refine zQP ?_ ?_;focus omega))
 ·(refine ⟨(i+1),?_,?_,rfl,rfl,?_,?_⟩;rotate_left;(focus (simp only[];omega));(focus ((try simp only[go_sem,zWQ,shr8_64,pow_step]);((repeat' apply And.intro)<;>(rfl))));(focus (trivial));(try simp only[]))
  omega
 ·obtain rfl:i=4:=by omega
  exact done_eff [0] (by simp) (by simp) (by simp) (by simp) (by simp) (by simp) rfl (by simp) (by simp)
theorem putN64_c (G:List Gl) (v:Nat) (hv:v<18446744073709551616):Eff G Tryz.prog 199 [.slice none 0 0,.int .u64 v] [] 0 (.slice (some ⟨0,0⟩) 8 8) [(0,.cells (zQZ (leB 8 v)++zQZ (zU 0)) 5 0 true 0)] 1:=by
 unfold Eff;refine zQV 29 [.tmp 4] Tryz.func199 ?_
 repeat' (first|refine zQQ 917619 ?_|refine zQW ?_|(refine stp ?_;simp only[go_sem,Nat.min_self])|(refine eop_makeSlice ?_;unfold eMakeSlice;simp only[go_sem])|(refine Pure.at (size64_c _) (by simp) (by simp) rfl ?_;(try simp only[go_sem]))|fail)
 refine esem_loopS (fun z:Nat=>[(5,.slice (some ⟨0,0⟩) z 8),(6,.int .u64 ((v / 256 ^ z:Nat):Int)),(17,.int .i64 8),(18,.int .i64 z)]) (fun z:Nat=>[(0,.cells (zQZ (leB z v)++zQZ (zU (8 - z))) 5 0 true 0)]) (fun z:Nat=>1) (fun z:Nat=>z≤8) (fun z:Nat=>8 - z) (0) (fun z hz=>⟨by simp[frBel],by simp,by exact Nat.zero_le _⟩) (by omega) (by simp only[go_sem,zWQ];done) (by trivial) ?_;intro i hi;have hst:=put_step [] v i;simp only[bytesE_nil,List.nil_append,List.length_nil,Nat.zero_add] at hst
 repeat' (first|refine zQQ 917619 ?_|refine zQW ?_|(refine stp ?_;simp only[go_sem,hst,List.length_append,zQY,leB_length,zU_length])|(simp (disch:=omega) only[zQK,wrapU8E])|(refine spl (fun h=>?_) (fun h=>?_)<;>first|omega|try simp only[go_sem,h])|(refine zQP ?_ ?_;focus omega))
 ·(refine ⟨(i+1),?_,?_,rfl,rfl,?_,?_⟩;rotate_left;(focus (simp only[];omega));(focus ((try simp only[go_sem,zWQ,shr8_64,pow_step]);((repeat' apply And.intro)<;>(rfl))));(focus (trivial));(try simp only[]))
  omega
 ·obtain rfl:i=8:=by omega
  exact done_eff [0] (by simp;done) (by simp;done) (by simp;done) (by simp;done) (by simp;done) (by simp;done) rfl (by simp) (by simp[bytesE_nil,zU_zero])
theorem bytes_get (l:List UInt8) (i:Nat) (h:i<l.length):(zQZ l)[i]? = some (.int .u8 (l.getD i 0).toNat):=by
 simp[zQZ,h]
theorem leN_step (l:List UInt8) (p j:Nat) (h:p+1+j≤l.length):leN ((l.drop p).take (j+1))=(l.getD p 0).toNat+256*leN ((l.drop (p+1)).take j):=by
 rw[List.drop_eq_getElem_cons (show p<l.length by omega),List.take_succ_cons,leN];simp[show p<l.length by omega]
theorem leN_take_lt (l:List UInt8) (j:Nat):leN (l.take j)<256 ^ j:=by
 refine Nat.lt_of_lt_of_le (leN_lt _) (Nat.pow_le_pow_right (by omega) ?_);simp[List.length_take];omega
theorem or_step (l:List UInt8) (p j:Nat) (h:p+1+j≤l.length) (hj:j<8):orI .u64 (((leN ((l.drop (p+1)).take j):Nat):Int)*256 % 18446744073709551616) ((l.getD p 0).toNat:Int)=((leN ((l.drop p).take (j+1)):Nat):Int):=by
 have h1:=leN_take_lt (l.drop (p+1)) j;have h2:256 ^ j≤256 ^ 7:=Nat.pow_le_pow_right (by omega) (by omega);have h3:=UInt8.toNat_lt (l.getD p 0);have h4:(256:Nat) ^ 7=72057594037927936:=by decide
 rw[leN_step l p j h];generalize (l.getD p 0).toNat=c at *
 generalize leN ((l.drop (p+1)).take j)=y at *
 generalize 256 ^ j=q at *
 rw[Int.emod_eq_of_lt (by omega) (by omega),orI_add 8 (by omega) (by omega) (by omega) (by omega) (by simp[IntKind.max,IntKind.bits,IntKind.signed];omega)]
 push_cast;omega
def take16E (l:List UInt8) (p:Nat):EV:=if p+2≤l.length then .tuple [.int .u16 (leN ((l.drop p).take 2):Nat),.int .i64 0] else .tuple [.int .u16 0,.int .i64 6]
theorem take16_c (G:List Gl) (l R:List UInt8) (p cp z0 f:Nat) (w:Bool) (hp:p≤70000000000000) (hl:l.length≤70000000000000):Eff G Tryz.prog 142 [.slice (some ⟨0,0⟩) l.length cp,.int .i64 p] [(0,.cells (zQZ l++zQZ R) 5 z0 w f)] 1 (take16E l p) [(0,.cells (zQZ l++zQZ R) 5 z0 w f)] 1:=by
 unfold Eff;refine zQV 39 [.tmp 4,.tmp 5] Tryz.func142 ?_
 repeat' (first|refine zQQ 8913395 ?_|refine zQW ?_|(refine stp ?_;simp only[go_sem])|(refine Pure.at (size16_c _) (by simp) (by simp) rfl ?_;(try simp only[go_sem]))|(simp (disch:=omega) only[zQK])|(refine spl (fun h=>?_) (fun h=>?_)<;>first|omega|((try simp only[opRun]);(try simp only[go_sem,h])))|fail)
 ·rw[show take16E l p=.tuple [.int .u16 0,.int .i64 6] from if_neg (by omega)];exact done_eff [] (by simp) (by simp) (by simp) (by simp) (by simp) (by simp) rfl (by simp) (by simp)
 rw[show take16E l p=.tuple [.int .u16 (leN ((l.drop p).take 2):Nat),.int .i64 0] from if_pos (by omega)];refine esem_loopS (fun z:Nat=>[(0,.slice (some ⟨0,0⟩) l.length cp),(1,.int .i64 p),(7,.int .u64 ((leN ((l.drop (p+(2 - z))).take z):Nat):Int)),(8,.int .i64 (2 - 1 - z))]) (fun z:Nat=>[(0,.cells (zQZ l++zQZ R) 5 z0 w f)]) (fun z:Nat=>1) (fun z:Nat=>z≤2) (fun z:Nat=>2 - z) (0) (fun z hz=>⟨by simp[frBel],by simp,by exact Nat.le_refl _⟩) (by omega) (by (try simp only[go_sem,zWQ]);((repeat' apply And.intro)<;>(rfl))) (by trivial) ?_;intro j hj
 rcases Nat.lt_or_ge j 2 with hjk | hjk
 ·have hor:=or_step l (p+(1 - j)) j (by omega) (by omega);have hsj:2 - (j+1)=1 - j:=by omega
  have hix:((p:Int)+(1 - (j:Int))).toNat=p+(1 - j):=by omega
  rw[show p+(1 - j)+1=p+(2 - j) by omega] at hor
  have hget:(zQZ l++zQZ R)[p+(1 - j)]? = some (.int .u8 (l.getD (p+(1 - j)) 0).toNat):=by
   rw[List.getElem?_append_left (by rw[zQY];omega),bytes_get l _ (by omega)]
  have hc:=UInt8.toNat_lt (l.getD (p+(1 - j)) 0)
  repeat' (first|refine zQQ 8913395 ?_|refine zQW ?_|(refine stp ?_;simp only[go_sem,shl8_64])|(simp only[go_sem,hix,hget])|(simp (disch:=omega) only[zQK,wrapU64E])|(refine spl (fun h=>?_) (fun h=>?_)<;>first|omega|try simp only[go_sem,h])|(refine zQP ?_ ?_;focus omega))
  (refine ⟨(j+1),?_,?_,rfl,rfl,?_,?_⟩;rotate_left;(focus (simp only[];omega));(focus ((try simp only[go_sem,zWQ,hor,hsj]);((repeat' apply And.intro)<;>((try simp only[EV.int.injEq,true_and]);omega))));(focus (trivial));(try simp only[]))
  omega
 ·obtain rfl:j=2:=by omega
  have hlt:=leN_take_lt (l.drop p) 2;simp only[Nat.reducePow] at hlt
  repeat' (first|refine zQQ 8913395 ?_|(refine stp ?_;simp only[go_sem,Nat.sub_self,Nat.add_zero])|(simp (disch:=omega) only[wrapU16E])|fail)
  exact done_eff [] (by simp) (by simp) (by simp) (by simp) (by simp) (by simp) rfl (by simp) (by simp)
def take32E (l:List UInt8) (p:Nat):EV:=if p+4≤l.length then .tuple [.int .u32 (leN ((l.drop p).take 4):Nat),.int .i64 0] else .tuple [.int .u32 0,.int .i64 6]
theorem take32_c (G:List Gl) (l R:List UInt8) (p cp z0 f:Nat) (w:Bool) (hp:p≤70000000000000) (hl:l.length≤70000000000000):Eff G Tryz.prog 106 [.slice (some ⟨0,0⟩) l.length cp,.int .i64 p] [(0,.cells (zQZ l++zQZ R) 5 z0 w f)] 1 (take32E l p) [(0,.cells (zQZ l++zQZ R) 5 z0 w f)] 1:=by
 unfold Eff;refine zQV 39 [.tmp 4,.tmp 5] Tryz.func106 ?_
 repeat' (first|refine zQQ 8913395 ?_|refine zQW ?_|(refine stp ?_;simp only[go_sem])|(refine Pure.at (size32_c _) (by simp) (by simp) rfl ?_;(try simp only[go_sem]))|(simp (disch:=omega) only[zQK])|(refine spl (fun h=>?_) (fun h=>?_)<;>first|omega|((try simp only[opRun]);(try simp only[go_sem,h])))|fail)
 ·rw[show take32E l p=.tuple [.int .u32 0,.int .i64 6] from if_neg (by omega)];exact done_eff [] (by simp) (by simp) (by simp) (by simp) (by simp) (by simp) rfl (by simp) (by simp)
 rw[show take32E l p=.tuple [.int .u32 (leN ((l.drop p).take 4):Nat),.int .i64 0] from if_pos (by omega)];refine esem_loopS (fun z:Nat=>[(0,.slice (some ⟨0,0⟩) l.length cp),(1,.int .i64 p),(7,.int .u64 ((leN ((l.drop (p+(4 - z))).take z):Nat):Int)),(8,.int .i64 (4 - 1 - z))]) (fun z:Nat=>[(0,.cells (zQZ l++zQZ R) 5 z0 w f)]) (fun z:Nat=>1) (fun z:Nat=>z≤4) (fun z:Nat=>4 - z) (0) (fun z hz=>⟨by simp[frBel],by simp,by exact Nat.le_refl _⟩) (by omega) (by (try simp only[go_sem,zWQ]);((repeat' apply And.intro)<;>(rfl))) (by trivial) ?_;intro j hj
 rcases Nat.lt_or_ge j 4 with hjk | hjk
 ·have hor:=or_step l (p+(3 - j)) j (by omega) (by omega);have hsj:4 - (j+1)=3 - j:=by omega
  have hix:((p:Int)+(3 - (j:Int))).toNat=p+(3 - j):=by omega
  rw[show p+(3 - j)+1=p+(4 - j) by omega] at hor
  have hget:(zQZ l++zQZ R)[p+(3 - j)]? = some (.int .u8 (l.getD (p+(3 - j)) 0).toNat):=by
   rw[List.getElem?_append_left (by rw[zQY];omega),bytes_get l _ (by omega)]
  have hc:=UInt8.toNat_lt (l.getD (p+(3 - j)) 0)
  repeat' (first|refine zQQ 8913395 ?_|refine zQW ?_|(refine stp ?_;simp only[go_sem,shl8_64])|(simp only[go_sem,hix,hget])|(simp (disch:=omega) only[zQK,wrapU64E])|(refine spl (fun h=>?_) (fun h=>?_)<;>first|omega|try simp only[go_sem,h])|(refine zQP ?_ ?_;focus omega))
  (refine ⟨(j+1),?_,?_,rfl,rfl,?_,?_⟩;rotate_left;(focus (simp only[];omega));(focus ((try simp only[go_sem,zWQ,hor,hsj]);((repeat' apply And.intro)<;>((try simp only[EV.int.injEq,true_and]);omega))));(focus (trivial));(try simp only[]))
  omega
 ·obtain rfl:j=4:=by omega
  have hlt:=leN_take_lt (l.drop p) 4;simp only[Nat.reducePow] at hlt
  repeat' (first|refine zQQ 8913395 ?_|(refine stp ?_;simp only[go_sem,Nat.sub_self,Nat.add_zero])|(simp (disch:=omega) only[wrapU32E])|fail)
  exact done_eff [] (by simp) (by simp) (by simp) (by simp) (by simp) (by simp) rfl (by simp) (by simp)
def take64E (l:List UInt8) (p:Nat):EV:=if p+8≤l.length then .tuple [.int .u64 (leN ((l.drop p).take 8):Nat),.int .i64 0] else .tuple [.int .u64 0,.int .i64 6]
theorem take64_c (G:List Gl) (l R:List UInt8) (p cp z0 f:Nat) (w:Bool) (hp:p≤70000000000000) (hl:l.length≤70000000000000):Eff G Tryz.prog 91 [.slice (some ⟨0,0⟩) l.length cp,.int .i64 p] [(0,.cells (zQZ l++zQZ R) 5 z0 w f)] 1 (take64E l p) [(0,.cells (zQZ l++zQZ R) 5 z0 w f)] 1:=by
 unfold Eff;refine zQV 38 [.tmp 4,.tmp 5] Tryz.func91 ?_
 repeat' (first|refine zQQ 8913395 ?_|refine zQW ?_|(refine stp ?_;simp only[go_sem])|(refine Pure.at (size64_c _) (by simp) (by simp) rfl ?_;(try simp only[go_sem]))|(simp (disch:=omega) only[zQK])|(refine spl (fun h=>?_) (fun h=>?_)<;>first|omega|((try simp only[opRun]);(try simp only[go_sem,h])))|fail)
 ·rw[show take64E l p=.tuple [.int .u64 0,.int .i64 6] from if_neg (by omega)];exact done_eff [] (by simp) (by simp) (by simp) (by simp) (by simp) (by simp) rfl (by simp) (by simp)
 rw[show take64E l p=.tuple [.int .u64 (leN ((l.drop p).take 8):Nat),.int .i64 0] from if_pos (by omega)];refine esem_loopS (fun z:Nat=>[(0,.slice (some ⟨0,0⟩) l.length cp),(1,.int .i64 p),(7,.int .u64 ((leN ((l.drop (p+(8 - z))).take z):Nat):Int)),(8,.int .i64 (8 - 1 - z))]) (fun z:Nat=>[(0,.cells (zQZ l++zQZ R) 5 z0 w f)]) (fun z:Nat=>1) (fun z:Nat=>z≤8) (fun z:Nat=>8 - z) (0) (fun z hz=>⟨by simp[frBel],by simp,by exact Nat.le_refl _⟩) (by omega) (by (try simp only[go_sem,zWQ]);((repeat' apply And.intro)<;>(rfl))) (by trivial) ?_;intro j hj
 rcases Nat.lt_or_ge j 8 with hjk | hjk
 ·have hor:=or_step l (p+(7 - j)) j (by omega) (by omega);have hsj:8 - (j+1)=7 - j:=by omega
  have hix:((p:Int)+(7 - (j:Int))).toNat=p+(7 - j):=by omega
  rw[show p+(7 - j)+1=p+(8 - j) by omega] at hor
  have hget:(zQZ l++zQZ R)[p+(7 - j)]? = some (.int .u8 (l.getD (p+(7 - j)) 0).toNat):=by
   rw[List.getElem?_append_left (by rw[zQY];omega),bytes_get l _ (by omega)]
  have hc:=UInt8.toNat_lt (l.getD (p+(7 - j)) 0)
  repeat' (first|refine zQQ 8913395 ?_|refine zQW ?_|(refine stp ?_;simp only[go_sem,shl8_64])|(simp only[go_sem,hix,hget])|(simp (disch:=omega) only[zQK,wrapU64E])|(refine spl (fun h=>?_) (fun h=>?_)<;>first|omega|try simp only[go_sem,h])|(refine zQP ?_ ?_;focus omega))
  (refine ⟨(j+1),?_,?_,rfl,rfl,?_,?_⟩;rotate_left;(focus (simp only[];omega));(focus ((try simp only[go_sem,zWQ,hor,hsj]);((repeat' apply And.intro)<;>((try simp only[EV.int.injEq,true_and]);omega))));(focus (trivial));(try simp only[]))
  omega
 ·obtain rfl:j=8:=by omega
  have hlt:=leN_take_lt (l.drop p) 8;simp only[Nat.reducePow] at hlt
  repeat' (first|refine zQQ 8913395 ?_|(refine stp ?_;simp only[go_sem,Nat.sub_self,Nat.add_zero])|fail)
  exact done_eff [] (by simp) (by simp) (by simp) (by simp) (by simp) (by simp) rfl (by simp) (by simp)
end
section
def gapL (T:List UInt8) (f:Nat):List UInt8:=T.take f++zU (252 - T.length)++T.drop f
theorem gapL_length (T:List UInt8) (f:Nat) (h:T.length≤252):(gapL T f).length=252:=by
 simp only[gapL,List.length_append,List.length_take,zU_length,List.length_drop];omega
abbrev gapO (T:List UInt8) (f:Nat):EO:=.cells (.bool true :: .int .i64 f :: .int .i64 (f+(252 - T.length):Nat)::zQZ (gapL T f)) 262 0 true 0
theorem drop3 {α:Type} (a b c:α) (L:List α) (n:Nat):List.drop (3+n) (a::b::c::L)=L.drop n:=by rw[Nat.add_comm];rfl
theorem putL3 (a b c:EV) (L v:List EV) (n:Nat):putL (a::b::c::L) (3+n) v=a::b::c::putL L n v:=by
 unfold putL;rw[show 3+n+v.length=3+(n+v.length) by omega,drop3,Nat.add_comm 3 n];rfl
theorem putL3' (a b c:EV) (L v:List EV):putL (a::b::c::L) 3 v=a::b::c::putL L 0 v:=putL3 a b c L v 0
theorem gapL_take (T:List UInt8) (f:Nat) (hf:f≤T.length):(gapL T f).take f=T.take f:=by
 unfold gapL;rw[List.append_assoc,List.take_left' (by simp;omega)]
theorem gapL_drop (T:List UInt8) (f:Nat) (hf:f≤T.length):(gapL T f).drop (f+(252 - T.length))=T.drop f:=by
 unfold gapL;rw[List.drop_left' (by simp;omega)]
theorem gap_make (T:List UInt8) (hT:T.length≤252):putL (zQZ (zU 252)) 0 (zQZ T)=zQZ (gapL T T.length):=by
 unfold putL gapL;rw[List.take_zero,List.nil_append,bytesE_drop,zU_drop,Nat.zero_add,zQY,List.take_length,List.drop_length,List.append_nil,bytesE_append]
theorem there_c (G:List Gl) (T:List UInt8) (f:Nat):Eff G Tryz.prog 145 [.ptr (some ⟨0,0⟩)] [(0,gapO T f)] 1 (.bool true) [(0,gapO T f)] 1:=by
 unfold Eff gapO;refine zQV 11 [.tmp 2] Tryz.func145 ?_
 repeat' (first|refine zQQ 5 ?_|(refine stp ?_;simp only[go_sem])|fail)
 exact done_eff [] (by simp) (by simp) (by simp) (by simp) (by simp) (by simp) rfl (by simp) (by simp)
theorem room_c (G:List Gl) (T:List UInt8) (f:Nat) (hT:T.length≤252) (hf:f≤T.length):Eff G Tryz.prog 146 [.ptr (some ⟨0,0⟩)] [(0,gapO T f)] 1 (.int .i64 (252 - T.length)) [(0,gapO T f)] 1:=by
 unfold Eff gapO;refine zQV 15 [.tmp 2] Tryz.func146 ?_
 repeat' (first|refine zQQ 37 ?_|(refine stp ?_;simp only[go_sem])|(refine drawQ (id:=3) mixed [(0,[]),(1,[]),(2,[]),(4,[]),(5,[]),(6,[]),(3,[]),(7,[]),(8,[]),(9,[])] (by kernel_rfl) ?_;simp only[go_sem])|(refine Eff.at2 (there_c G T f ) [0] rfl (by first|(simp;done)|fail) rfl ?_;(try simp only[go_sem]))|(simp (disch:=omega) only[zQK])|fail)
 rw[show ((f+(252 - T.length):Nat):Int) - (f:Int)=252 - (T.length:Int) by omega];exact done_eff [] (by simp) (by simp) (by simp) (by simp) (by simp) (by simp) rfl (by simp) (by simp)
theorem len_c (G:List Gl) (T:List UInt8) (f:Nat) (hT:T.length≤252) (hf:f≤T.length):Eff G Tryz.prog 109 [.ptr (some ⟨0,0⟩)] [(0,gapO T f)] 1 (.int .i64 T.length) [(0,gapO T f)] 1:=by
 unfold Eff gapO;refine zQV 9 [.tmp 2] Tryz.func109 ?_
 repeat' (first|refine zQQ 37 ?_|(refine stp ?_;simp only[go_sem])|(refine Eff.at2 (there_c G T f ) [0] rfl (by first|(simp;done)|fail) rfl ?_;(try simp only[go_sem]))|(refine Eff.at2 (room_c G T f hT hf ) [0] rfl (by first|(simp;done)|fail) rfl ?_;(try simp only[go_sem]))|(simp (disch:=omega) only[zQK])|fail)
 rw[show (252:Int) - (252 - (T.length:Int))=T.length by omega];exact done_eff [] (by simp) (by simp) (by simp) (by simp) (by simp) (by simp) rfl (by simp) (by simp)
theorem at_c (G:List Gl) (T:List UInt8) (f:Nat):Eff G Tryz.prog 111 [.ptr (some ⟨0,0⟩)] [(0,gapO T f)] 1 (.int .i64 f) [(0,gapO T f)] 1:=by
 unfold Eff gapO;refine zQV 10 [.tmp 2] Tryz.func111 ?_
 repeat' (first|refine zQQ 37 ?_|(refine stp ?_;simp only[go_sem])|(refine Eff.at2 (there_c G T f ) [0] rfl (by first|(simp;done)|fail) rfl ?_;(try simp only[go_sem]))|fail)
 exact done_eff [] (by simp) (by simp) (by simp) (by simp) (by simp) (by simp) rfl (by simp) (by simp)
theorem right_c (G:List Gl) (T:List UInt8) (f a b:Nat) (hT:T.length≤252) (hf:f≤T.length) (hab:a≤b) (hb:b≤T.length):Eff G Tryz.prog 182 [.ptr (some ⟨0,0⟩),.int .i64 a,.int .i64 b] [(0,gapO T f)] 1 (.bool true) [(0,gapO T f)] 1:=by
 unfold Eff gapO;refine zQV 20 [.tmp 6] Tryz.func182 ?_
 repeat' (first|refine zQQ 71 ?_|(refine stp ?_;simp only[go_sem])|(refine Eff.at2 (len_c G T f hT hf ) [0] rfl (by first|(simp;done)|fail) rfl ?_;(try simp only[go_sem]))|(refine spl (fun h=>?_) (fun h=>?_)<;>first|omega|((try simp only[opRun]);(try simp only[go_sem,h])))|fail)
 all_goals (try (exfalso;omega))
 rw[show decide ((b:Int)≤(T.length:Int))=true from decide_eq_true (by omega)];exact done_eff [] (by simp) (by simp) (by simp) (by simp) (by simp) (by simp) rfl (by simp) (by simp)
theorem text_c (G:List Gl) (T:List UInt8) (f:Nat) (hT:T.length≤252) (hf:f≤T.length):Eff G Tryz.prog 110 [.ptr (some ⟨0,0⟩)] [(0,gapO T f)] 1 (.str T) [(0,gapO T f)] 1:=by
 unfold Eff gapO;refine zQV 25 [.tmp 2] Tryz.func110 ?_;have e1:(zQZ (gapL T f)).take (f - 0)=zQZ (T.take f):=by rw[Nat.sub_zero,bytesE_take,gapL_take T f hf]
 have e2:((zQZ (gapL T f)).drop (f+(252 - T.length))).take (252 - (f+(252 - T.length)))=zQZ (T.drop f):=by
  rw[bytesE_drop,gapL_drop T f hf,List.take_of_length_le];rw[zQY,List.length_drop];omega
 repeat' (first|refine zQQ 37 ?_|(refine stp ?_;simp only[go_sem])|(refine drawQ (id:=3) mixed [(0,[]),(1,[]),(2,[]),(3,[]),(4,[]),(5,[]),(9,[]),(10,[]),(11,[]),(12,[]),(13,[]),(14,[]),(6,[]),(7,[]),(8,[]),(15,[]),(16,[]),(17,[]),(18,[]),(19,[])] (by kernel_rfl) ?_;simp only[go_sem,e1,e2,drop3,zQY,gapL_length T f hT,List.take_append_drop,List.length_take,List.length_drop])|(refine Eff.at2 (there_c G T f ) [0] rfl (by first|(simp;done)|fail) rfl ?_;(try simp only[go_sem]))|(refine zQP ?_ ?_;focus omega))
 exact done_eff [] (by simp) (by simp) (by simp) (by simp) (by simp) (by simp) rfl (by simp) (by simp)
theorem make_c (G:List Gl) (T:List UInt8) (hT:T.length≤252):Eff G Tryz.prog 149 [.str T] [] 0 (.tuple [.ptr (some ⟨0,0⟩),.int .i64 0]) [(0,gapO T T.length)] 1:=by
 unfold Eff gapO;refine zQV 19 [.tmp 2,.tmp 3] Tryz.func149 ?_
 repeat' (first|refine zQQ 157 ?_|(refine stp ?_;simp only[go_sem,zU_length,zQY])|(refine spl (fun h=>?_) (fun h=>?_)<;>first|omega|try simp only[go_sem,h])|(refine zQP ?_ ?_;focus omega))
 rw[Nat.min_eq_left hT,take_bytes0,putL3',gap_make T hT,show (252:Int)=((T.length+(252 - T.length):Nat):Int) by omega];exact done_eff [0] (by simp) (by simp) (by simp) (by simp) (by simp) (by simp) rfl (by simp) (by simp)
end
section
def putU (c:List UInt8) (o:Nat) (v:List UInt8):List UInt8:=c.take o++(v++c.drop (o+v.length))
theorem putU_E (c v:List UInt8) (o:Nat):putL (zQZ c) o (zQZ v)=zQZ (putU c o v):=by
 unfold putL putU;rw[bytesE_append,bytesE_append,← bytesE_take,← bytesE_drop,zQY]
theorem putU_length (c v:List UInt8) (o:Nat) (h:o+v.length≤c.length):(putU c o v).length=c.length:=by
 simp only[putU,List.length_append,List.length_take,List.length_drop];omega
theorem gap_lo (T:List UInt8) (f a:Nat) (hT:T.length≤252) (hf:f≤T.length) (ha:a≤f):putU (putU (gapL T f) (a+(252 - T.length)) ((T.take f).drop a)) a (zU (252 - T.length))=gapL T a:=by
 have hP:(T.take a).length=a:=by simp;omega
 have hQ:((T.take f).drop a).length=f - a:=by simp;omega
 have h1:T.take f=T.take a++(T.take f).drop a:=by
  conv=>lhs;rw[← List.take_append_drop a (T.take f),List.take_take,Nat.min_eq_left ha]
 have h2:T.drop a=(T.take f).drop a++T.drop f:=by
  conv=>lhs;rw[← List.take_append_drop f T,List.drop_append]
  rw[show a - (T.take f).length=0 by simp;omega,List.drop_zero]
 unfold gapL;rw[h2];generalize (T.take f).drop a=Q at *
 rw[h1];generalize T.take a=P at *
 generalize T.drop f=R at *
 generalize 252 - T.length=g at *
 have hz:=zU_length g;generalize zU g=Z at *
 unfold putU;have e1:(P++Q++Z++R).drop (a+g+Q.length)=R:=by
  rw[List.drop_left' (by simp;omega)]
 rw[e1];have e2:(P++Q++Z++R).take (a+g)=P++(Q++Z).take g:=by
  rw[List.append_assoc P,List.append_assoc P,List.take_append,hP,List.take_of_length_le (by omega),show a+g - a=g by omega,List.take_append_of_le_length (by simp;omega)]
 rw[e2,List.append_assoc P,List.take_left' hP,hz];have e3:(P++((Q++Z).take g++(Q++R))).drop (a+g)=Q++R:=by
  rw[← List.append_assoc,List.drop_left' (by simp;omega)]
 rw[e3];simp only[List.append_assoc]
theorem gap_hi (T:List UInt8) (f a:Nat) (hT:T.length≤252) (hf:f≤a) (ha:a≤T.length):putU (putU (gapL T f) f ((T.drop f).take (a - f))) a (zU (252 - T.length))=gapL T a:=by
 have hP:(T.take f).length=f:=by simp;omega
 have hQ:((T.drop f).take (a - f)).length=a - f:=by simp;omega
 have h1:T.drop f=(T.drop f).take (a - f)++T.drop a:=by
  conv=>lhs;rw[← List.take_append_drop (a - f) (T.drop f),List.drop_drop,show f+(a - f)=a by omega]
 have h2:T.take a=T.take f++(T.drop f).take (a - f):=by
  conv=>lhs;rw[show a=f+(a - f) by omega,List.take_add]
 unfold gapL;rw[h2];generalize (T.drop f).take (a - f)=Q at *
 rw[h1];generalize T.take f=P at *
 generalize T.drop a=R at *
 generalize 252 - T.length=g at *
 have hz:=zU_length g;generalize zU g=Z at *
 unfold putU;rw[List.append_assoc P,List.take_left' hP];have e1:(P++(Z++(Q++R))).drop (f+Q.length)=(Z++(Q++R)).drop Q.length:=by
  rw[List.drop_append,hP,List.drop_of_length_le (by omega),List.nil_append];congr 1;omega
 rw[e1,← List.append_assoc P,List.take_left' (by simp;omega)];have e3:(P++Q++(Z++(Q++R)).drop Q.length).drop (a+Z.length)=R:=by
  rw[List.drop_append,List.drop_of_length_le (by simp;omega),List.nil_append,List.drop_drop,← List.append_assoc,List.drop_left' (by simp;omega)]
 rw[e3];simp only[List.append_assoc]
theorem gapL_mid (T:List UInt8) (f a:Nat) (ha:a≤f) (hf:f≤T.length):((gapL T f).drop a).take (f - a)=(T.take f).drop a:=by
 unfold gapL;rw[List.append_assoc,List.drop_append_of_le_length (by simp;omega),List.take_left' (by simp;omega)]
theorem gapL_mid2 (T:List UInt8) (f a:Nat) (hf:f≤a) (ha:a≤T.length):((gapL T f).drop (f+(252 - T.length))).take (a - f)=(T.drop f).take (a - f):=by rw[gapL_drop T f (by omega)]
theorem move_c (G:List Gl) (T:List UInt8) (f a:Nat) (hT:T.length≤252) (hf:f≤T.length) (ha:a≤T.length):Eff G Tryz.prog 150 [.ptr (some ⟨0,0⟩),.int .i64 a] [(0,gapO T f)] 1 (.int .i64 0) [(0,gapO T a)] 1:=by
 have hlen:=gapL_length T f hT;unfold Eff gapO;refine zQV 97 [.tmp 4] Tryz.func150 ?_
 rcases Nat.lt_or_ge a f with haf | haf
 ·have n1:(((f+(252 - T.length):Nat):Int)+((a:Int) - f)).toNat=a+(252 - T.length):=by omega
  have n2:((f+(252 - T.length):Nat):Int)+((a:Int) - f)=((a+(252 - T.length):Nat):Int):=by omega
  have n3:(f:Int)+((a:Int) - f)=a:=by omega
  have n4:(3+a+(f - a)≤255)=True:=by simp;omega
  have n5:f+(252 - T.length) - (a+(252 - T.length))=f - a:=by omega
  have e1:List.take (f - a) (List.drop a (zQZ (gapL T f)))=zQZ ((T.take f).drop a):=by rw[bytesE_drop,bytesE_take,gapL_mid T f a (by omega) hf]
  have hX:((T.take f).drop a).length=f - a:=by simp;omega
  have e2:List.take (f - a) (zQZ ((T.take f).drop a))=zQZ ((T.take f).drop a):=by rw[← hX];exact take_bytes0 _
  have e3:=gap_lo T f a hT hf (by omega);have l1:(putU (gapL T f) (a+(252 - T.length)) ((T.take f).drop a)).length=252:=by rw[putU_length _ _ _ (by omega)];exact hlen
  have n6:a+(252 - T.length) - a=252 - T.length:=by omega
  repeat' (first|refine zQQ 2105651 ?_|(refine stp ?_;simp only[go_sem,drop3,putL3,zQY,hlen,n2,n3,n4,e1,e2,hX,Nat.min_self,putU_E,l1])|(refine drawQ (id:=7) mixed [(0,[]),(1,[]),(2,[]),(3,[]),(4,[]),(5,[]),(7,[]),(9,[]),(10,[]),(11,[]),(14,[]),(15,[]),(16,[]),(17,[]),(18,[]),(19,[]),(20,[]),(6,[]),(8,[]),(12,[]),(13,[]),(21,[]),(22,[]),(23,[])] (by kernel_rfl) ?_;simp only[go_sem,n2])|(refine drawQ (id:=11) mixed [(0,[]),(1,[]),(2,[]),(3,[]),(4,[]),(5,[]),(7,[]),(8,[]),(9,[]),(6,[]),(10,[]),(11,[]),(12,[])] (by kernel_rfl) ?_;simp only[go_sem])|(refine Eff.at2 (there_c G T f ) [0] rfl (by first|(simp;done)|fail) rfl ?_;(try simp only[go_sem]))|(refine Eff.at2 (right_c G T f a a hT hf (Nat.le_refl _) ha ) [0] rfl (by first|(simp;done)|fail) rfl ?_;(try simp only[go_sem]))|(refine eop_clear ?_;unfold eClear;simp only[go_sem,putL3,zQY,putU_E,e3,l1])|(simp only[go_sem,n5,n6])|(simp (disch:=omega) only[zQK])|(refine spl (fun h=>?_) (fun h=>?_)<;>first|omega|try simp only[go_sem,h])|(refine zQP ?_ ?_;focus omega))
  exact done_eff [] (by simp) (by simp) (by simp) (by simp) (by simp) (by simp) rfl (by simp) (by simp)
 ·have n1:(((f+(252 - T.length):Nat):Int)+((a:Int) - f)).toNat=a+(252 - T.length):=by omega
  have n2:((f+(252 - T.length):Nat):Int)+((a:Int) - f)=((a+(252 - T.length):Nat):Int):=by omega
  have n3:(f:Int)+((a:Int) - f)=a:=by omega
  have n5:a+(252 - T.length) - (f+(252 - T.length))=a - f:=by omega
  have n4:(3+(f+(252 - T.length))+(a - f)≤255)=True:=by simp;omega
  have hX:((T.drop f).take (a - f)).length=a - f:=by simp;omega
  have e1:List.take (a - f) (List.drop (f+(252 - T.length)) (zQZ (gapL T f)))=zQZ ((T.drop f).take (a - f)):=by rw[bytesE_drop,bytesE_take,gapL_mid2 T f a haf ha]
  have e2:List.take (a - f) (zQZ ((T.drop f).take (a - f)))=zQZ ((T.drop f).take (a - f)):=by
   conv=>lhs;rw[← hX]
   rw[hX,List.take_of_length_le];rw[zQY,hX];exact Nat.le_refl _
  have e3:=gap_hi T f a hT haf ha;have l1:(putU (gapL T f) f ((T.drop f).take (a - f))).length=252:=by rw[putU_length _ _ _ (by omega)];exact hlen
  have n6:a+(252 - T.length) - a=252 - T.length:=by omega
  have n7:min (a - f) (252 - f)=a - f:=by omega
  repeat' (first|refine zQQ 2105651 ?_|(refine stp ?_;simp only[go_sem,drop3,putL3,zQY,hlen,n2,n3,n4,n7,e1,e2,hX,putU_E,l1])|(refine drawQ (id:=8) mixed [(0,[]),(1,[]),(2,[]),(3,[]),(4,[]),(5,[]),(8,[]),(9,[]),(10,[]),(11,[]),(12,[]),(13,[]),(15,[]),(16,[]),(17,[]),(19,[]),(6,[]),(7,[]),(14,[]),(18,[]),(20,[]),(21,[]),(22,[])] (by kernel_rfl) ?_;simp only[go_sem,n2])|(refine drawQ (id:=11) mixed [(0,[]),(1,[]),(2,[]),(3,[]),(4,[]),(5,[]),(7,[]),(8,[]),(9,[]),(6,[]),(10,[]),(11,[]),(12,[])] (by kernel_rfl) ?_;simp only[go_sem])|(refine Eff.at2 (there_c G T f ) [0] rfl (by first|(simp;done)|fail) rfl ?_;(try simp only[go_sem]))|(refine Eff.at2 (right_c G T f a a hT hf (Nat.le_refl _) ha ) [0] rfl (by first|(simp;done)|fail) rfl ?_;(try simp only[go_sem]))|(refine eop_clear ?_;unfold eClear;simp only[go_sem,putL3,zQY,putU_E,e3,l1])|(simp only[go_sem,n5,n6])|(simp (disch:=omega) only[zQK])|(refine spl (fun h=>?_) (fun h=>?_)<;>first|omega|try simp only[go_sem,h])|(refine zQP ?_ ?_;focus omega))
  exact done_eff [] (by simp) (by simp) (by simp) (by simp) (by simp) (by simp) rfl (by simp) (by simp)
end
section
def gapBlk (T:List UInt8) (f:Nat):List UInt8:=leB 2 f++leB 2 (f+(252 - T.length))++gapL T f
theorem gapBlk_length (T:List UInt8) (f:Nat) (h:T.length≤252):(gapBlk T f).length=256:=by
 simp only[gapBlk,List.length_append,leB_length,gapL_length T f h]
theorem block_c (G:List Gl) (T:List UInt8) (f:Nat) (hT:T.length≤252) (hf:f≤T.length):Eff G Tryz.prog 151 [.ptr (some ⟨0,0⟩)] [(0,gapO T f)] 1 (.slice (some ⟨1,0⟩) 256 256) [(0,gapO T f),(1,.cells (zQZ (gapBlk T f)) 5 1 true 0)] 2:=by
 have hlen:=gapL_length T f hT;have e1:List.take 252 (zQZ (gapL T f))=zQZ (gapL T f):=List.take_of_length_le (by rw[zQY];omega);have t1:List.take 4 (zQZ (leB 2 f)++zQZ (leB 2 (f+(252 - T.length)))++zQZ (zU 6))=zQZ (leB 2 f)++zQZ (leB 2 (f+(252 - T.length))):=List.take_left' (by simp[zQY]);unfold Eff gapO;refine zQV 25 [.tmp 2] Tryz.func151 ?_
 repeat' (first|refine zQQ 77 ?_|(refine stp ?_;simp only[go_sem,zQY,hlen,leB_length,zU_length,List.length_append,e1,t1,true_or])|(refine drawQ (id:=3) mixed [(0,[]),(1,[]),(2,[]),(6,[]),(7,[]),(8,[]),(3,[]),(4,[]),(9,[]),(10,[]),(5,[9]),(11,[]),(12,[])] (by kernel_rfl) ?_;simp only[go_sem])|(refine Eff.at2 (there_c G T f ) [0] rfl (by first|(simp;done)|fail) rfl ?_;(try simp only[go_sem]))|(refine Eff.at2 (putN16_c G f (by omega) ) [] rfl (by first|(simp;done)|fail) rfl ?_;(try simp only[go_sem]))|(refine Eff.at2 (put16_c G (leB 2 f) (zU 6) 8 0 0 true (f+(252 - T.length)) (by omega) (by simp) ) [14] rfl (by first|(simp;done)|fail) rfl ?_;(try simp only[go_sem,leB_length]))|(simp (disch:=omega) only[wrapU16E])|fail)
 exact done_eff [16] (by simp;done) (by simp;done) (by simp;done) (by simp;done) (by simp;done) (by simp;done) rfl (by simp) (by simp[gapBlk])
end
section
theorem und260:Tryz.prog.underlying 260=some (.array 252 5):=by kernel_rfl
theorem guard260:Tryz.prog.eqGuardType Tryz.prog.depth 260=false:=by kernel_rfl
theorem cells5:Tryz.prog.cellsOf 5=1:=by kernel_rfl
theorem und5:Tryz.prog.underlying 5=some (.int .u8):=by kernel_rfl
theorem blk_take0 (T:List UInt8) (f:Nat) (h:T.length≤252) (hf:f≤T.length):take16E (gapBlk T f) 0=.tuple [.int .u16 f,.int .i64 0]:=by
 unfold take16E;rw[if_pos (by rw[gapBlk_length T f h];omega),List.drop_zero];have:(gapBlk T f).take 2=leB 2 f:=by unfold gapBlk;rw[List.append_assoc,List.take_left' (leB_length 2 f)]
 rw[this,leN_leB 2 f (by omega)]
theorem blk_take2 (T:List UInt8) (f:Nat) (h:T.length≤252) (hf:f≤T.length):take16E (gapBlk T f) 2=.tuple [.int .u16 ((f+(252 - T.length):Nat):Int),.int .i64 0]:=by
 unfold take16E;rw[if_pos (by rw[gapBlk_length T f h];omega)];have:((gapBlk T f).drop 2).take 2=leB 2 (f+(252 - T.length)):=by
  unfold gapBlk;rw[List.append_assoc,List.drop_left' (leB_length 2 f),List.take_left' (leB_length 2 _)]
 rw[this,leN_leB 2 _ (by omega)]
theorem blk_data (T:List UInt8) (f:Nat) (h:T.length≤252):((zQZ (gapBlk T f)).drop 4).take 252=zQZ (gapL T f):=by
 rw[bytesE_drop];have:(gapBlk T f).drop 4=gapL T f:=by unfold gapBlk;rw[List.drop_left' (by simp)]
 rw[this,List.take_of_length_le];rw[zQY,gapL_length T f h];exact Nat.le_refl _
theorem gapL_clean (T:List UInt8) (f:Nat) (h:T.length≤252) (hf:f≤T.length):putU (gapL T f) f (zU (252 - T.length))=gapL T f:=by
 unfold putU gapL;have hP:(T.take f).length=f:=by simp;omega
 rw[List.append_assoc,List.take_left' hP,zU_length];rw[show (T.take f++(zU (252 - T.length)++T.drop f)).drop (f+(252 - T.length))=T.drop f by
  rw[← List.append_assoc,List.drop_left' (by rw[List.length_append,hP,zU_length])]]
theorem putC_one (c:List EV) (o:Nat) (v:EV):putC c o [v]=c.set o v:=rfl
theorem putC_gap (a b c:EV) (T:List UInt8) (f:Nat) (h:T.length≤252):putC (a::b::c::zQZ (zU 252)) 3 (zQZ (gapL T f))=a::b::c::zQZ (gapL T f):=by
 have hl:=gapL_length T f h;generalize gapL T f=l at *
 match l,hl with
 | x::y::r,hl=>
   have:putC (a::b::c::zQZ (zU 252)) 3 (zQZ (x::y::r))=putL (a::b::c::zQZ (zU 252)) 3 (zQZ (x::y::r)):=by
    rw[bytesE_cons,bytesE_cons];rfl
   rw[this,putL3',putU_E]
   congr 4
   unfold putU;rw[List.take_zero,List.nil_append,hl,zU_drop];simp[zU]
theorem putC_all (T:List UInt8) (f:Nat) (h:T.length≤252):putC (zQZ (zU 252)) 0 (zQZ (gapL T f))=zQZ (gapL T f):=by
 have hl:=gapL_length T f h;generalize gapL T f=l at *
 match l,hl with
 | x::y::r,hl=>
   have:putC (zQZ (zU 252)) 0 (zQZ (x::y::r))=putL (zQZ (zU 252)) 0 (zQZ (x::y::r)):=by
    rw[bytesE_cons,bytesE_cons];rfl
   rw[this,putU_E]
   congr 1
   unfold putU;rw[List.take_zero,List.nil_append,hl,zU_drop];simp[zU]
attribute [-go_sem] putC
theorem open_c (G:List Gl) (T:List UInt8) (f cp z0 fz:Nat) (w:Bool) (hT:T.length≤252) (hf:f≤T.length) (hcp:256≤cp) (hz:z0=0∨z0=1):Eff G Tryz.prog 108 [.slice (some ⟨0,0⟩) 256 cp] [(0,.cells (zQZ (gapBlk T f)) 5 z0 w fz)] 1 (.tuple [.ptr (some ⟨1,0⟩),.int .i64 0]) [(0,.cells (zQZ (gapBlk T f)) 5 z0 w fz),(1,gapO T f)] 2:=by
 have hlen:=gapL_length T f hT;have hbl:=gapBlk_length T f hT;have b0:=blk_take0 T f hT hf;have b2:=blk_take2 T f hT hf;have bd:=blk_data T f hT;have hc:=gapL_clean T f hT hf;have n1:f+(252 - T.length) - f=252 - T.length:=by omega
 have k0:=take16_c G (gapBlk T f) [] 0 cp z0 fz w (by omega) (by omega);have k2:=take16_c G (gapBlk T f) [] 2 cp z0 fz w (by omega) (by omega);rw[hbl,b0,bytesE_nil,List.append_nil] at k0
 rw[hbl,b2,bytesE_nil,List.append_nil] at k2
 obtain ⟨inf5,d5,v5,I5⟩:=zQR T5;have heq:eqE.eqL (zQZ (gapL T f)) (zQZ (gapL T f))=true:=by
  have:=eqE_bytes (gapL T f) (gapL T f);rw[eqE] at this
  rw[this];simp
 have hes:=(eqS_bytes und260 I5.info cells5 und5 guard260 hlen hlen).2;rw[eqE,heq] at hes
 have hes2:EqS Tryz.prog BinOp.neq 260 (EV.agg (zQZ (gapL T f))) (EV.agg (zQZ (gapL T f))) false:=hes;have t252:List.take 252 (zQZ (gapL T f))=zQZ (gapL T f):=List.take_of_length_le (by rw[zQY];omega);unfold Eff gapO;refine zQV 54 [.tmp 2,.tmp 3] Tryz.func108 ?_
 repeat' (first|refine zQQ 4503600164246365 ?_|(refine stp ?_;simp only[go_sem,t252,putC_all T f hT,zQY,hlen,n1,zU_length,Op.operands])|(refine drawQ (id:=10) mixed [(1,[]),(2,[]),(3,[]),(0,[]),(4,[]),(5,[])] (by kernel_rfl) ?_;simp only[go_sem,heq,t252,zQY,hlen])|(refine Eff.at2 (k0 ) [0] rfl (by first|(simp;done)|fail) rfl ?_;(try simp only[go_sem]))|(refine Eff.at2 (k2 ) [0] rfl (by first|(simp;done)|fail) rfl ?_;(try simp only[go_sem]))|(refine eop_arrAt ?_;unfold eArrAt;simp only[go_sem,putC_one,putC_gap _ _ _ T f hT,zQY,hlen,hbl,bd,zU_length])|(refine eop_clear ?_;unfold eClear;simp only[go_sem,zQY,hlen,putU_E,hc])|(simp (disch:=omega) only[zQK])|(refine spl (fun h=>?_) (fun h=>?_)<;>first|omega|((try simp only[opRun]);(try simp only[go_sem,h])))|(refine zQP ?_ ?_;focus omega))
 exact done_eff [1] (by simp) (by simp) (by simp) (by simp) (by simp) (by simp) rfl (by simp) (by simp)
end
end Go.Proofs.YtgajmgkhlkghjaaGreatDoor
