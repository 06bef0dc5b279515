/-
  Own work: a part of the proof that the last text closes.
-/
import Derived.Test.YtncphnpndkjkaaaGreatDoorRows
import Derived.Test.YtncphnpndkjkaaaGreatDoorFe
namespace Go.Proofs.YtncphnpndkjkaaaGreatDoor
open Go.E
set_option linter.all false
set_option maxRecDepth 100000
set_option maxHeartbeats 16000000
section
theorem mixed:Tryz.prog.follows .mixedOrders=true:=by kernel_rfl
theorem T3:zXZ Tryz.prog 3=some ⟨(.int .i64),1,8,[(.int .i64 0)]⟩:=by kernel_rfl
theorem T4:zXZ Tryz.prog 4=some ⟨.bool,1,1,[(.bool false)]⟩:=by kernel_rfl
theorem T5:zXZ Tryz.prog 5=some ⟨(.int .u8),1,1,[(.int .u8 0)]⟩:=by kernel_rfl
theorem T9:zXZ Tryz.prog 9=some ⟨.str,1,16,[(.str [])]⟩:=by kernel_rfl
theorem T21:zXZ Tryz.prog 21=some ⟨(.int .i32),1,4,[(.int .i32 0)]⟩:=by kernel_rfl
theorem T22:zXZ Tryz.prog 22=some ⟨(.slice 43),1,24,[(.slice none 0 0)]⟩:=by kernel_rfl
theorem T27:zXZ Tryz.prog 27=some ⟨(.ptr 87),1,8,[(.ptr none)]⟩:=by kernel_rfl
theorem T28:zXZ Tryz.prog 28=some ⟨(.int .i64),1,8,[(.int .i64 0)]⟩:=by kernel_rfl
theorem T31:zXZ Tryz.prog 31=some ⟨(.ptr 120),1,8,[(.ptr none)]⟩:=by kernel_rfl
theorem T32:zXZ Tryz.prog 32=some ⟨(.ptr 141),1,8,[(.ptr none)]⟩:=by kernel_rfl
theorem T33:zXZ Tryz.prog 33=some ⟨(.ptr 179),1,8,[(.ptr none)]⟩:=by kernel_rfl
theorem T34:zXZ Tryz.prog 34=some ⟨(.ptr 103),1,8,[(.ptr none)]⟩:=by kernel_rfl
theorem T35:zXZ Tryz.prog 35=some ⟨(.ptr 116),1,8,[(.ptr none)]⟩:=by kernel_rfl
theorem T36:zXZ Tryz.prog 36=some ⟨(.ptr 166),1,8,[(.ptr none)]⟩:=by kernel_rfl
theorem T38:zXZ Tryz.prog 38=some ⟨(.struct [(0,31),(1,32),(2,33),(3,34),(4,35),(5,36)]),6,48,[(.ptr none),(.ptr none),(.ptr none),(.ptr none),(.ptr none),(.ptr none)]⟩:=by kernel_rfl
theorem T39:zXZ Tryz.prog 39=some ⟨(.int .u32),1,4,[(.int .u32 0)]⟩:=by kernel_rfl
theorem T43:zXZ Tryz.prog 43=some ⟨(.struct [(0,3),(1,3),(2,9)]),3,32,[(.int .i64 0),(.int .i64 0),(.str [])]⟩:=by kernel_rfl
theorem T48:zXZ Tryz.prog 48=some ⟨(.struct [(0,3),(1,9),(2,9)]),3,40,[(.int .i64 0),(.str []),(.str [])]⟩:=by kernel_rfl
theorem T56:zXZ Tryz.prog 56=some ⟨(.slice 5),1,24,[(.slice none 0 0)]⟩:=by kernel_rfl
theorem T57:zXZ Tryz.prog 57=some ⟨(.slice 3),1,24,[(.slice none 0 0)]⟩:=by kernel_rfl
theorem T60:zXZ Tryz.prog 60=some ⟨(.ptr 109),1,8,[(.ptr none)]⟩:=by kernel_rfl
theorem T63:zXZ Tryz.prog 63=some ⟨(.ptr 112),1,8,[(.ptr none)]⟩:=by kernel_rfl
theorem T71:zXZ Tryz.prog 71=some ⟨(.ptr 131),1,8,[(.ptr none)]⟩:=by kernel_rfl
theorem T74:zXZ Tryz.prog 74=some ⟨(.ptr 137),1,8,[(.ptr none)]⟩:=by kernel_rfl
theorem T81:zXZ Tryz.prog 81=some ⟨(.struct [(0,3),(1,3),(2,3),(3,9),(4,9)]),5,56,[(.int .i64 0),(.int .i64 0),(.int .i64 0),(.str []),(.str [])]⟩:=by kernel_rfl
theorem T83:zXZ Tryz.prog 83=some ⟨(.ptr 85),1,8,[(.ptr none)]⟩:=by kernel_rfl
theorem T85:zXZ Tryz.prog 85=some ⟨(.struct [(0,33),(1,39)]),2,16,[(.ptr none),(.int .u32 0)]⟩:=by kernel_rfl
theorem T87:zXZ Tryz.prog 87=some ⟨(.struct [(0,83)]),1,8,[(.ptr none)]⟩:=by kernel_rfl
theorem T95:zXZ Tryz.prog 95=some ⟨(.struct [(0,3),(1,3)]),2,16,[(.int .i64 0),(.int .i64 0)]⟩:=by kernel_rfl
theorem T100:zXZ Tryz.prog 100=some ⟨(.slice 107),1,24,[(.slice none 0 0)]⟩:=by kernel_rfl
theorem T101:zXZ Tryz.prog 101=some ⟨(.slice 340),1,24,[(.slice none 0 0)]⟩:=by kernel_rfl
theorem T103:zXZ Tryz.prog 103=some ⟨(.struct [(0,3),(1,100),(2,3),(3,101),(4,3),(5,4)]),6,80,[(.int .i64 0),(.slice none 0 0),(.int .i64 0),(.slice none 0 0),(.int .i64 0),(.bool false)]⟩:=by kernel_rfl
theorem T105:zXZ Tryz.prog 105=some ⟨(.slice 56),1,24,[(.slice none 0 0)]⟩:=by kernel_rfl
theorem T107:zXZ Tryz.prog 107=some ⟨(.struct [(0,105),(1,3)]),2,32,[(.slice none 0 0),(.int .i64 0)]⟩:=by kernel_rfl
theorem T109:zXZ Tryz.prog 109=some ⟨(.struct [(0,34),(1,3),(2,3)]),3,24,[(.ptr none),(.int .i64 0),(.int .i64 0)]⟩:=by kernel_rfl
theorem T110:zXZ Tryz.prog 110=some ⟨(.ptr 224),1,8,[(.ptr none)]⟩:=by kernel_rfl
theorem T112:zXZ Tryz.prog 112=some ⟨(.struct [(0,34),(1,60),(2,110)]),3,24,[(.ptr none),(.ptr none),(.ptr none)]⟩:=by kernel_rfl
theorem T114:zXZ Tryz.prog 114=some ⟨(.slice 4),1,24,[(.slice none 0 0)]⟩:=by kernel_rfl
theorem T116:zXZ Tryz.prog 116=some ⟨(.struct [(0,63),(1,3),(2,3),(3,114),(4,36)]),5,56,[(.ptr none),(.int .i64 0),(.int .i64 0),(.slice none 0 0),(.ptr none)]⟩:=by kernel_rfl
theorem T118:zXZ Tryz.prog 118=some ⟨(.slice 127),1,24,[(.slice none 0 0)]⟩:=by kernel_rfl
theorem T120:zXZ Tryz.prog 120=some ⟨(.struct [(0,118),(1,3),(2,101),(3,3),(4,4)]),5,72,[(.slice none 0 0),(.int .i64 0),(.slice none 0 0),(.int .i64 0),(.bool false)]⟩:=by kernel_rfl
theorem T122:zXZ Tryz.prog 122=some ⟨(.int .u64),1,8,[(.int .u64 0)]⟩:=by kernel_rfl
theorem T124:zXZ Tryz.prog 124=some ⟨(.arr 8 122),8,64,[(.int .u64 0),(.int .u64 0),(.int .u64 0),(.int .u64 0),(.int .u64 0),(.int .u64 0),(.int .u64 0),(.int .u64 0)]⟩:=by kernel_rfl
theorem T125:zXZ Tryz.prog 125=some ⟨(.slice 124),1,24,[(.slice none 0 0)]⟩:=by kernel_rfl
theorem T127:zXZ Tryz.prog 127=some ⟨(.struct [(0,125),(1,3)]),2,32,[(.slice none 0 0),(.int .i64 0)]⟩:=by kernel_rfl
theorem T131:zXZ Tryz.prog 131=some ⟨(.struct [(0,31),(1,3),(2,3)]),3,24,[(.ptr none),(.int .i64 0),(.int .i64 0)]⟩:=by kernel_rfl
theorem T132:zXZ Tryz.prog 132=some ⟨(.slice 173),1,24,[(.slice none 0 0)]⟩:=by kernel_rfl
theorem T135:zXZ Tryz.prog 135=some ⟨(.ptr 221),1,8,[(.ptr none)]⟩:=by kernel_rfl
theorem T137:zXZ Tryz.prog 137=some ⟨(.struct [(0,31),(1,71),(2,135)]),3,24,[(.ptr none),(.ptr none),(.ptr none)]⟩:=by kernel_rfl
theorem T139:zXZ Tryz.prog 139=some ⟨(.map 3 4),1,8,[(.map none)]⟩:=by kernel_rfl
theorem T141:zXZ Tryz.prog 141=some ⟨(.struct [(0,74),(1,3),(2,3),(3,139),(4,33)]),5,40,[(.ptr none),(.int .i64 0),(.int .i64 0),(.map none),(.ptr none)]⟩:=by kernel_rfl
theorem T159:zXZ Tryz.prog 159=some ⟨(.struct [(0,3),(1,3)]),2,16,[(.int .i64 0),(.int .i64 0)]⟩:=by kernel_rfl
theorem T160:zXZ Tryz.prog 160=some ⟨(.slice 21),1,24,[(.slice none 0 0)]⟩:=by kernel_rfl
theorem T166:zXZ Tryz.prog 166=some ⟨(.struct [(0,35),(1,110),(2,114),(3,114),(4,4)]),5,72,[(.ptr none),(.ptr none),(.slice none 0 0),(.slice none 0 0),(.bool false)]⟩:=by kernel_rfl
theorem T179:zXZ Tryz.prog 179=some ⟨(.struct [(0,32),(1,135),(2,139),(3,139),(4,3),(5,4)]),6,48,[(.ptr none),(.ptr none),(.map none),(.map none),(.int .i64 0),(.bool false)]⟩:=by kernel_rfl
theorem T182:zXZ Tryz.prog 182=some ⟨(.ptr 196),1,8,[(.ptr none)]⟩:=by kernel_rfl
theorem T187:zXZ Tryz.prog 187=some ⟨(.slice 192),1,24,[(.slice none 0 0)]⟩:=by kernel_rfl
theorem T192:zXZ Tryz.prog 192=some ⟨(.struct [(0,9),(1,3),(2,3)]),3,32,[(.str []),(.int .i64 0),(.int .i64 0)]⟩:=by kernel_rfl
theorem T196:zXZ Tryz.prog 196=some ⟨(.struct [(0,33),(1,39),(2,187),(3,57)]),4,64,[(.ptr none),(.int .u32 0),(.slice none 0 0),(.slice none 0 0)]⟩:=by kernel_rfl
theorem T203:zXZ Tryz.prog 203=some ⟨.func,1,8,[.nilFn]⟩:=by kernel_rfl
theorem T207:zXZ Tryz.prog 207=some ⟨(.struct [(0,3)]),1,8,[(.int .i64 0)]⟩:=by kernel_rfl
theorem T219:zXZ Tryz.prog 219=some ⟨(.map 3 285),1,8,[(.map none)]⟩:=by kernel_rfl
theorem T221:zXZ Tryz.prog 221=some ⟨(.struct [(0,74),(1,219),(2,4)]),3,24,[(.ptr none),(.map none),(.bool false)]⟩:=by kernel_rfl
theorem T222:zXZ Tryz.prog 222=some ⟨(.slice 342),1,24,[(.slice none 0 0)]⟩:=by kernel_rfl
theorem T224:zXZ Tryz.prog 224=some ⟨(.struct [(0,63),(1,222),(2,4)]),3,40,[(.ptr none),(.slice none 0 0),(.bool false)]⟩:=by kernel_rfl
theorem T230:zXZ Tryz.prog 230=some ⟨(.map 3 3),1,8,[(.map none)]⟩:=by kernel_rfl
theorem T233:zXZ Tryz.prog 233=some ⟨(.ptr 235),1,8,[(.ptr none)]⟩:=by kernel_rfl
theorem T235:zXZ Tryz.prog 235=some ⟨(.struct [(0,233),(1,56)]),2,32,[(.ptr none),(.slice none 0 0)]⟩:=by kernel_rfl
theorem T258:zXZ Tryz.prog 258=some ⟨(.slice 262),1,24,[(.slice none 0 0)]⟩:=by kernel_rfl
theorem T262:zXZ Tryz.prog 262=some ⟨(.struct [(0,3),(1,105),(2,4)]),3,40,[(.int .i64 0),(.slice none 0 0),(.bool false)]⟩:=by kernel_rfl
theorem T265:zXZ Tryz.prog 265=some ⟨(.ptr 292),1,8,[(.ptr none)]⟩:=by kernel_rfl
theorem T285:zXZ Tryz.prog 285=some ⟨(.struct [(0,5),(1,4)]),2,2,[(.int .u8 0),(.bool false)]⟩:=by kernel_rfl
theorem T287:zXZ Tryz.prog 287=some ⟨(.int .u16),1,2,[(.int .u16 0)]⟩:=by kernel_rfl
theorem T290:zXZ Tryz.prog 290=some ⟨(.arr 252 5),252,252,zQZ (zU 252)⟩:=by kernel_rfl
theorem T292:zXZ Tryz.prog 292=some ⟨(.struct [(0,4),(1,3),(2,3),(3,290)]),255,280,[(.bool false),(.int .i64 0),(.int .i64 0)]++zQZ (zU 252)⟩:=by kernel_rfl
theorem T295:zXZ Tryz.prog 295=some ⟨(.arr 3 5),3,3,[(.int .u8 0),(.int .u8 0),(.int .u8 0)]⟩:=by kernel_rfl
theorem T296:zXZ Tryz.prog 296=some ⟨.other,1,8,[(.ptr none)]⟩:=by kernel_rfl
attribute [go_sem] T3 T4 T5 T9 T21 T22 T27 T28 T31 T32 T33 T34 T35 T36 T38 T39 T43 T48 T56 T57
attribute [go_sem] T60 T63 T71 T74 T81 T83 T85 T87 T95 T100 T101 T103 T105 T107 T109 T110 T112 T114 T116 T118
attribute [go_sem] T120 T122 T124 T125 T127 T131 T132 T135 T137 T139 T141 T159 T160 T166 T179 T182 T187 T192
attribute [go_sem] T196 T203 T207 T219 T221 T222 T224 T230 T233 T235 T258 T262 T265 T285 T287 T290 T292
attribute [go_sem] T295 T296
theorem yBS (G:List Gl):E.Pure G Tryz.prog 197 [] (.int .i64 2):=by
 refine zXP fun V hV=>?_
 refine zQV 12 [.tmp 0] Tryz.func197 ?_
 repeat' (first|refine zQQ 39 ?_|refine zQW ?_|(refine stp ?_;simp only[go_sem])|(simp only[go_sem])|(refine zZM 39 18 ?_;simp only[go_sem])|(simp (disch:=omega) only[zYP])|fail)
 all_goals (refine zQH (by simp[EV.bel]) ?_;rw[hV])
theorem yBT (G:List Gl):E.Pure G Tryz.prog 167 [] (.int .i64 4):=by
 refine zXP fun V hV=>?_
 refine zQV 12 [.tmp 0] Tryz.func167 ?_
 repeat' (first|refine zQQ 39 ?_|refine zQW ?_|(refine stp ?_;simp only[go_sem])|(simp only[go_sem])|(refine zZM 39 34 ?_;simp only[go_sem])|(simp (disch:=omega) only[zPH])|fail)
 all_goals (refine zQH (by simp[EV.bel]) ?_;rw[hV])
theorem xYR (G:List Gl):E.Pure G Tryz.prog 68 [] (.int .i64 8):=by
 refine zXP fun V hV=>?_
 refine zQV 12 [.tmp 0] Tryz.func68 ?_
 repeat' (first|refine zQQ 39 ?_|refine zQW ?_|(refine stp ?_;simp only[go_sem])|(simp only[go_sem])|(refine zZM 39 66 ?_;simp only[go_sem])|(simp (disch:=omega) only[zKG])|fail)
 all_goals (refine zQH (by simp[EV.bel]) ?_;rw[hV])
end
section
theorem yJB (l:List UInt8) (v i:Nat):zZH (zQZ l++zQZ (leB i v)++zQZ (zU (8 - i))) (l.length+i) [.int .u8 (IntKind.u8.wrap ((v / 256 ^ i:Nat):Int))]=zQZ l++zQZ (leB (i+1) v)++zQZ (zU (8 - (i+1))):=by
 have hl:(zQZ l++zQZ (leB i v)).length=l.length+i:=by simp[zQY,zXX]
 unfold zZH;rw[List.take_left' hl,IntKind.wrap_u8,← u8_ofNat,xPD,zWJ (leB i v)];simp only[List.length_cons,List.length_nil,List.append_assoc]
 congr 2
 rw[show l.length+i+(0+1)=(zQZ l++zQZ (leB i v)).length+1 by omega,← List.append_assoc,List.drop_append];rw[show (zQZ l++zQZ (leB i v)).length+1 - (zQZ l++zQZ (leB i v)).length=1 by omega,List.drop_of_length_le (by omega),zZP,zNB,show 8 - i - 1=8 - (i+1) by omega];rfl
theorem copy_step (l:List UInt8):zZH (zQZ (zU (l.length+8))) 0 (zQZ l)=zQZ l++zQZ (zU 8):=by
 have hl:(zQZ l).length=l.length:=zQY l;unfold zZH;rw[List.take_zero,List.nil_append,zZP,zNB,Nat.zero_add,hl,Nat.add_sub_cancel_left]
theorem xSZ (l R:List UInt8):(zQZ l++zQZ R).take l.length=zQZ l:=List.take_left' (zQY l)
theorem zSM (l:List UInt8):(zQZ l).take l.length=zQZ l:=by rw[List.take_of_length_le];rw[zQY];exact Nat.le_refl _
theorem le_bytes (l R:List UInt8):(l.length≤(zQZ l++zQZ R).length)=True:=by simp[zQY]
theorem xSQ (n:Nat):((n:Int)+8).toNat=n+8:=by omega
theorem yJM (v i:Nat):((v / 256 ^ i:Nat):Int) / 256=((v / 256 ^ (i+1):Nat):Int):=by
 rw[Nat.pow_succ,← Nat.div_div_eq_div_mul];rfl
attribute [local go_sem] xPF Nat.sub_zero Nat.pow_zero Nat.div_one
theorem yZS (G:List Gl) (l R:List UInt8) (cp z0 f:Nat) (w:Bool) (v:Nat) (hv:v<65536) (hl:l.length≤70000000000000):Eff G Tryz.prog 173 [.slice (some ⟨0,0⟩) l.length cp,.int .u16 v] [(0,.cells (zQZ l++zQZ R) 5 z0 w f)] 1 (.slice (some ⟨1,0⟩) (l.length+2) (l.length+8)) [(0,.cells (zQZ l++zQZ R) 5 z0 w f),(1,.cells (zQZ l++zQZ (leB 2 v)++zQZ (zU 6)) 5 0 true 0)] 2:=by
 unfold Eff;refine zQV 30 [.tmp 4] Tryz.func173 ?_
 repeat' (first|refine zQQ 1835123 ?_|refine zQW ?_|(refine stp ?_;simp only[go_sem,le_bytes,xSZ,zSM,copy_step,zQY,yVF,zXV,Nat.min_self])|(refine zZW ?_;unfold zZD;simp only[go_sem])|(refine Pure.at (yBS _) (by simp) (by simp) rfl ?_;(try simp only[go_sem]))|(simp only[go_sem,xSQ])|(simp (disch:=omega) only[zQK,zKG])|(refine zQT ?_ ?_;focus omega))
 refine zWK (fun z:Nat=>[(5,.slice (some ⟨1,0⟩) (l.length+z) (l.length+8)),(6,.int .u64 ((v / 256 ^ z:Nat):Int)),(18,.int .i64 2),(19,.int .i64 z)]) (fun z:Nat=>[(0,.cells (zQZ l++zQZ R) 5 z0 w f),(1,.cells (zQZ l++zQZ (leB z v)++zQZ (zU (8 - z))) 5 0 true 0)]) (fun z:Nat=>2) (fun z:Nat=>z≤2) (fun z:Nat=>2 - z) (0) (fun z hz=>⟨by simp[zWP],by simp,by omega⟩) (by omega) (by simp only[go_sem,zQS];done) (by simp only[go_sem,zWG];done) ?_;intro i hi;have hst:=yJB l v i
 repeat' (first|refine zQQ 1835123 ?_|refine zQW ?_|(refine stp ?_;simp only[go_sem,hst,List.length_append,zQY,zXX,zXV])|(simp (disch:=omega) only[zQK,zBG])|(refine spl (fun h=>?_) (fun h=>?_)<;>first|omega|try simp only[go_sem,h])|(refine zQT ?_ ?_;focus omega))
 ·(refine ⟨(i+1),?_,?_,rfl,rfl,?_,?_⟩;rotate_left;(focus (simp only[];omega));(focus ((try simp only[go_sem,zQS,yBG,yJM]);((repeat' apply And.intro)<;>(rfl))));(focus (trivial));(try simp only[]))
  omega
 ·obtain rfl:i=2:=by omega
  exact zWW [1] (by simp) (by simp) (by simp) (by simp) (by simp) (by simp) rfl (by simp) (by simp)
theorem putN16_c (G:List Gl) (v:Nat) (hv:v<65536):Eff G Tryz.prog 173 [.slice none 0 0,.int .u16 v] [] 0 (.slice (some ⟨0,0⟩) 2 8) [(0,.cells (zQZ (leB 2 v)++zQZ (zU 6)) 5 0 true 0)] 1:=by
 unfold Eff;refine zQV 30 [.tmp 4] Tryz.func173 ?_
 repeat' (first|refine zQQ 1835123 ?_|refine zQW ?_|(refine stp ?_;simp only[go_sem,Nat.min_self])|(refine zZW ?_;unfold zZD;simp only[go_sem])|(refine Pure.at (yBS _) (by simp) (by simp) rfl ?_;(try simp only[go_sem]))|(simp (disch:=omega) only[zKG])|fail)
 refine zWK (fun z:Nat=>[(5,.slice (some ⟨0,0⟩) z 8),(6,.int .u64 ((v / 256 ^ z:Nat):Int)),(18,.int .i64 2),(19,.int .i64 z)]) (fun z:Nat=>[(0,.cells (zQZ (leB z v)++zQZ (zU (8 - z))) 5 0 true 0)]) (fun z:Nat=>1) (fun z:Nat=>z≤2) (fun z:Nat=>2 - z) (0) (fun z hz=>⟨by simp[zWP],by simp,by exact Nat.zero_le _⟩) (by omega) (by simp only[go_sem,zQS];done) (by trivial) ?_;intro i hi;have hst:=yJB [] v i;simp only[zWH,List.nil_append,List.length_nil,Nat.zero_add] at hst
 repeat' (first|refine zQQ 1835123 ?_|refine zQW ?_|(refine stp ?_;simp only[go_sem,hst,List.length_append,zQY,zXX,zXV])|(simp (disch:=omega) only[zQK,zBG])|(refine spl (fun h=>?_) (fun h=>?_)<;>first|omega|try simp only[go_sem,h])|(refine zQT ?_ ?_;focus omega))
 ·(refine ⟨(i+1),?_,?_,rfl,rfl,?_,?_⟩;rotate_left;(focus (simp only[];omega));(focus ((try simp only[go_sem,zQS,yBG,yJM]);((repeat' apply And.intro)<;>(rfl))));(focus (trivial));(try simp only[]))
  omega
 ·obtain rfl:i=2:=by omega
  exact zWW [0] (by simp) (by simp) (by simp) (by simp) (by simp) (by simp) rfl (by simp) (by simp)
theorem xPQ (G:List Gl) (v:Nat) (hv:v<4294967296):Eff G Tryz.prog 172 [.slice none 0 0,.int .u32 v] [] 0 (.slice (some ⟨0,0⟩) 4 8) [(0,.cells (zQZ (leB 4 v)++zQZ (zU 4)) 5 0 true 0)] 1:=by
 unfold Eff;refine zQV 30 [.tmp 4] Tryz.func172 ?_
 repeat' (first|refine zQQ 1835123 ?_|refine zQW ?_|(refine stp ?_;simp only[go_sem,Nat.min_self])|(refine zZW ?_;unfold zZD;simp only[go_sem])|(refine Pure.at (yBT _) (by simp) (by simp) rfl ?_;(try simp only[go_sem]))|(simp (disch:=omega) only[zKG])|fail)
 refine zWK (fun z:Nat=>[(5,.slice (some ⟨0,0⟩) z 8),(6,.int .u64 ((v / 256 ^ z:Nat):Int)),(18,.int .i64 4),(19,.int .i64 z)]) (fun z:Nat=>[(0,.cells (zQZ (leB z v)++zQZ (zU (8 - z))) 5 0 true 0)]) (fun z:Nat=>1) (fun z:Nat=>z≤4) (fun z:Nat=>4 - z) (0) (fun z hz=>⟨by simp[zWP],by simp,by exact Nat.zero_le _⟩) (by omega) (by simp only[go_sem,zQS];done) (by trivial) ?_;intro i hi;have hst:=yJB [] v i;simp only[zWH,List.nil_append,List.length_nil,Nat.zero_add] at hst
 repeat' (first|refine zQQ 1835123 ?_|refine zQW ?_|(refine stp ?_;simp only[go_sem,hst,List.length_append,zQY,zXX,zXV])|(simp (disch:=omega) only[zQK,zBG])|(refine spl (fun h=>?_) (fun h=>?_)<;>first|omega|try simp only[go_sem,h])|(refine zQT ?_ ?_;focus omega))
 ·(refine ⟨(i+1),?_,?_,rfl,rfl,?_,?_⟩;rotate_left;(focus (simp only[];omega));(focus ((try simp only[go_sem,zQS,yBG,yJM]);((repeat' apply And.intro)<;>(rfl))));(focus (trivial));(try simp only[]))
  omega
 ·obtain rfl:i=4:=by omega
  exact zWW [0] (by simp) (by simp) (by simp) (by simp) (by simp) (by simp) rfl (by simp) (by simp)
theorem putN64_c (G:List Gl) (v:Nat) (hv:v<18446744073709551616):Eff G Tryz.prog 129 [.slice none 0 0,.int .u64 v] [] 0 (.slice (some ⟨0,0⟩) 8 8) [(0,.cells (zQZ (leB 8 v)++zQZ (zU 0)) 5 0 true 0)] 1:=by
 unfold Eff;refine zQV 29 [.tmp 4] Tryz.func129 ?_
 repeat' (first|refine zQQ 917619 ?_|refine zQW ?_|(refine stp ?_;simp only[go_sem,Nat.min_self])|(refine zZW ?_;unfold zZD;simp only[go_sem])|(refine Pure.at (xYR _) (by simp) (by simp) rfl ?_;(try simp only[go_sem]))|fail)
 refine zWK (fun z:Nat=>[(5,.slice (some ⟨0,0⟩) z 8),(6,.int .u64 ((v / 256 ^ z:Nat):Int)),(17,.int .i64 8),(18,.int .i64 z)]) (fun z:Nat=>[(0,.cells (zQZ (leB z v)++zQZ (zU (8 - z))) 5 0 true 0)]) (fun z:Nat=>1) (fun z:Nat=>z≤8) (fun z:Nat=>8 - z) (0) (fun z hz=>⟨by simp[zWP],by simp,by exact Nat.zero_le _⟩) (by omega) (by simp only[go_sem,zQS];done) (by trivial) ?_;intro i hi;have hst:=yJB [] v i;simp only[zWH,List.nil_append,List.length_nil,Nat.zero_add] at hst
 repeat' (first|refine zQQ 917619 ?_|refine zQW ?_|(refine stp ?_;simp only[go_sem,hst,List.length_append,zQY,zXX,zXV])|(simp (disch:=omega) only[zQK,zBG])|(refine spl (fun h=>?_) (fun h=>?_)<;>first|omega|try simp only[go_sem,h])|(refine zQT ?_ ?_;focus omega))
 ·(refine ⟨(i+1),?_,?_,rfl,rfl,?_,?_⟩;rotate_left;(focus (simp only[];omega));(focus ((try simp only[go_sem,zQS,yBG,yJM]);((repeat' apply And.intro)<;>(rfl))));(focus (trivial));(try simp only[]))
  omega
 ·obtain rfl:i=8:=by omega
  exact zWW [0] (by simp;done) (by simp;done) (by simp;done) (by simp;done) (by simp;done) (by simp;done) rfl (by simp) (by simp[zWH,xZX])
theorem zTB (l:List UInt8) (i:Nat) (h:i<l.length):(zQZ l)[i]? = some (.int .u8 (l.getD i 0).toNat):=by
 simp[zQZ,h]
theorem leN_step (l:List UInt8) (p j:Nat) (h:p+1+j≤l.length):leN ((l.drop p).take (j+1))=(l.getD p 0).toNat+256*leN ((l.drop (p+1)).take j):=by
 rw[List.drop_eq_getElem_cons (show p<l.length by omega),List.take_succ_cons,leN];simp[show p<l.length by omega]
theorem zGW (l:List UInt8) (j:Nat):leN (l.take j)<256 ^ j:=by
 refine Nat.lt_of_lt_of_le (leN_lt _) (Nat.pow_le_pow_right (by omega) ?_);simp[List.length_take];omega
theorem yNZ (l:List UInt8) (p j:Nat) (h:p+1+j≤l.length) (hj:j<8):orI .u64 (((leN ((l.drop (p+1)).take j):Nat):Int)*256 % 18446744073709551616) ((l.getD p 0).toNat:Int)=((leN ((l.drop p).take (j+1)):Nat):Int):=by
 have h1:=zGW (l.drop (p+1)) j;have h2:256 ^ j≤256 ^ 7:=Nat.pow_le_pow_right (by omega) (by omega);have h3:=UInt8.toNat_lt (l.getD p 0);have h4:(256:Nat) ^ 7=72057594037927936:=by decide
 rw[leN_step l p j h];generalize (l.getD p 0).toNat=c at *
 generalize leN ((l.drop (p+1)).take j)=y at *
 generalize 256 ^ j=q at *
 rw[Int.emod_eq_of_lt (by omega) (by omega),orI_add 8 (by omega) (by omega) (by omega) (by omega) (by simp[IntKind.max,IntKind.bits,IntKind.signed];omega)]
 push_cast;omega
def zSF (l:List UInt8) (p:Nat):EV:=if p+2≤l.length then .tuple [.int .u16 (leN ((l.drop p).take 2):Nat),.int .i64 0] else .tuple [.int .u16 0,.int .i64 6]
theorem yJR (G:List Gl) (l R:List UInt8) (p cp z0 f:Nat) (w:Bool) (hp:p≤70000000000000) (hl:l.length≤70000000000000):Eff G Tryz.prog 166 [.slice (some ⟨0,0⟩) l.length cp,.int .i64 p] [(0,.cells (zQZ l++zQZ R) 5 z0 w f)] 1 (zSF l p) [(0,.cells (zQZ l++zQZ R) 5 z0 w f)] 1:=by
 unfold Eff;refine zQV 39 [.tmp 4,.tmp 5] Tryz.func166 ?_
 repeat' (first|refine zQQ 8913395 ?_|refine zQW ?_|(refine stp ?_;simp only[go_sem])|(refine Pure.at (yBS _) (by simp) (by simp) rfl ?_;(try simp only[go_sem]))|(simp (disch:=omega) only[zQK])|(refine spl (fun h=>?_) (fun h=>?_)<;>first|omega|((try simp only[zZQ]);(try simp only[go_sem,h])))|fail)
 ·rw[show zSF l p=.tuple [.int .u16 0,.int .i64 6] from if_neg (by omega)];exact zWW [] (by simp) (by simp) (by simp) (by simp) (by simp) (by simp) rfl (by simp) (by simp)
 rw[show zSF l p=.tuple [.int .u16 (leN ((l.drop p).take 2):Nat),.int .i64 0] from if_pos (by omega)];refine zWK (fun z:Nat=>[(0,.slice (some ⟨0,0⟩) l.length cp),(1,.int .i64 p),(7,.int .u64 ((leN ((l.drop (p+(2 - z))).take z):Nat):Int)),(8,.int .i64 (2 - 1 - z))]) (fun z:Nat=>[(0,.cells (zQZ l++zQZ R) 5 z0 w f)]) (fun z:Nat=>1) (fun z:Nat=>z≤2) (fun z:Nat=>2 - z) (0) (fun z hz=>⟨by simp[zWP],by simp,by exact Nat.le_refl _⟩) (by omega) (by (try simp only[go_sem,zQS]);((repeat' apply And.intro)<;>(rfl))) (by trivial) ?_;intro j hj
 rcases Nat.lt_or_ge j 2 with hjk | hjk
 ·have hor:=yNZ l (p+(1 - j)) j (by omega) (by omega);have hsj:2 - (j+1)=1 - j:=by omega
  have hix:((p:Int)+(1 - (j:Int))).toNat=p+(1 - j):=by omega
  rw[show p+(1 - j)+1=p+(2 - j) by omega] at hor
  have hget:(zQZ l++zQZ R)[p+(1 - j)]? = some (.int .u8 (l.getD (p+(1 - j)) 0).toNat):=by
   rw[List.getElem?_append_left (by rw[zQY];omega),zTB l _ (by omega)]
  have hc:=UInt8.toNat_lt (l.getD (p+(1 - j)) 0)
  repeat' (first|refine zQQ 8913395 ?_|refine zQW ?_|(refine stp ?_;simp only[go_sem,yBH])|(simp only[go_sem,hix,hget])|(simp (disch:=omega) only[zQK,zKG])|(refine spl (fun h=>?_) (fun h=>?_)<;>first|omega|try simp only[go_sem,h])|(refine zQT ?_ ?_;focus omega))
  (refine ⟨(j+1),?_,?_,rfl,rfl,?_,?_⟩;rotate_left;(focus (simp only[];omega));(focus ((try simp only[go_sem,zQS,hor,hsj]);((repeat' apply And.intro)<;>((try simp only[EV.int.injEq,true_and]);omega))));(focus (trivial));(try simp only[]))
  omega
 ·obtain rfl:j=2:=by omega
  have hlt:=zGW (l.drop p) 2;simp only[Nat.reducePow] at hlt
  repeat' (first|refine zQQ 8913395 ?_|(refine stp ?_;simp only[go_sem,Nat.sub_self,Nat.add_zero])|(simp (disch:=omega) only[zYP])|fail)
  exact zWW [] (by simp) (by simp) (by simp) (by simp) (by simp) (by simp) rfl (by simp) (by simp)
def zHY (l:List UInt8) (p:Nat):EV:=if p+4≤l.length then .tuple [.int .u32 (leN ((l.drop p).take 4):Nat),.int .i64 0] else .tuple [.int .u32 0,.int .i64 6]
theorem take32_c (G:List Gl) (l R:List UInt8) (p cp z0 f:Nat) (w:Bool) (hp:p≤70000000000000) (hl:l.length≤70000000000000):Eff G Tryz.prog 138 [.slice (some ⟨0,0⟩) l.length cp,.int .i64 p] [(0,.cells (zQZ l++zQZ R) 5 z0 w f)] 1 (zHY l p) [(0,.cells (zQZ l++zQZ R) 5 z0 w f)] 1:=by
 unfold Eff;refine zQV 39 [.tmp 4,.tmp 5] Tryz.func138 ?_
 repeat' (first|refine zQQ 8913395 ?_|refine zQW ?_|(refine stp ?_;simp only[go_sem])|(refine Pure.at (yBT _) (by simp) (by simp) rfl ?_;(try simp only[go_sem]))|(simp (disch:=omega) only[zQK])|(refine spl (fun h=>?_) (fun h=>?_)<;>first|omega|((try simp only[zZQ]);(try simp only[go_sem,h])))|fail)
 ·rw[show zHY l p=.tuple [.int .u32 0,.int .i64 6] from if_neg (by omega)];exact zWW [] (by simp) (by simp) (by simp) (by simp) (by simp) (by simp) rfl (by simp) (by simp)
 rw[show zHY l p=.tuple [.int .u32 (leN ((l.drop p).take 4):Nat),.int .i64 0] from if_pos (by omega)];refine zWK (fun z:Nat=>[(0,.slice (some ⟨0,0⟩) l.length cp),(1,.int .i64 p),(7,.int .u64 ((leN ((l.drop (p+(4 - z))).take z):Nat):Int)),(8,.int .i64 (4 - 1 - z))]) (fun z:Nat=>[(0,.cells (zQZ l++zQZ R) 5 z0 w f)]) (fun z:Nat=>1) (fun z:Nat=>z≤4) (fun z:Nat=>4 - z) (0) (fun z hz=>⟨by simp[zWP],by simp,by exact Nat.le_refl _⟩) (by omega) (by (try simp only[go_sem,zQS]);((repeat' apply And.intro)<;>(rfl))) (by trivial) ?_;intro j hj
 rcases Nat.lt_or_ge j 4 with hjk | hjk
 ·have hor:=yNZ l (p+(3 - j)) j (by omega) (by omega);have hsj:4 - (j+1)=3 - j:=by omega
  have hix:((p:Int)+(3 - (j:Int))).toNat=p+(3 - j):=by omega
  rw[show p+(3 - j)+1=p+(4 - j) by omega] at hor
  have hget:(zQZ l++zQZ R)[p+(3 - j)]? = some (.int .u8 (l.getD (p+(3 - j)) 0).toNat):=by
   rw[List.getElem?_append_left (by rw[zQY];omega),zTB l _ (by omega)]
  have hc:=UInt8.toNat_lt (l.getD (p+(3 - j)) 0)
  repeat' (first|refine zQQ 8913395 ?_|refine zQW ?_|(refine stp ?_;simp only[go_sem,yBH])|(simp only[go_sem,hix,hget])|(simp (disch:=omega) only[zQK,zKG])|(refine spl (fun h=>?_) (fun h=>?_)<;>first|omega|try simp only[go_sem,h])|(refine zQT ?_ ?_;focus omega))
  (refine ⟨(j+1),?_,?_,rfl,rfl,?_,?_⟩;rotate_left;(focus (simp only[];omega));(focus ((try simp only[go_sem,zQS,hor,hsj]);((repeat' apply And.intro)<;>((try simp only[EV.int.injEq,true_and]);omega))));(focus (trivial));(try simp only[]))
  omega
 ·obtain rfl:j=4:=by omega
  have hlt:=zGW (l.drop p) 4;simp only[Nat.reducePow] at hlt
  repeat' (first|refine zQQ 8913395 ?_|(refine stp ?_;simp only[go_sem,Nat.sub_self,Nat.add_zero])|(simp (disch:=omega) only[zPH])|fail)
  exact zWW [] (by simp) (by simp) (by simp) (by simp) (by simp) (by simp) rfl (by simp) (by simp)
def yYT (l:List UInt8) (p:Nat):EV:=if p+8≤l.length then .tuple [.int .u64 (leN ((l.drop p).take 8):Nat),.int .i64 0] else .tuple [.int .u64 0,.int .i64 6]
theorem xYW (G:List Gl) (l R:List UInt8) (p cp z0 f:Nat) (w:Bool) (hp:p≤70000000000000) (hl:l.length≤70000000000000):Eff G Tryz.prog 45 [.slice (some ⟨0,0⟩) l.length cp,.int .i64 p] [(0,.cells (zQZ l++zQZ R) 5 z0 w f)] 1 (yYT l p) [(0,.cells (zQZ l++zQZ R) 5 z0 w f)] 1:=by
 unfold Eff;refine zQV 38 [.tmp 4,.tmp 5] Tryz.func45 ?_
 repeat' (first|refine zQQ 8913395 ?_|refine zQW ?_|(refine stp ?_;simp only[go_sem])|(refine Pure.at (xYR _) (by simp) (by simp) rfl ?_;(try simp only[go_sem]))|(simp (disch:=omega) only[zQK])|(refine spl (fun h=>?_) (fun h=>?_)<;>first|omega|((try simp only[zZQ]);(try simp only[go_sem,h])))|fail)
 ·rw[show yYT l p=.tuple [.int .u64 0,.int .i64 6] from if_neg (by omega)];exact zWW [] (by simp) (by simp) (by simp) (by simp) (by simp) (by simp) rfl (by simp) (by simp)
 rw[show yYT l p=.tuple [.int .u64 (leN ((l.drop p).take 8):Nat),.int .i64 0] from if_pos (by omega)];refine zWK (fun z:Nat=>[(0,.slice (some ⟨0,0⟩) l.length cp),(1,.int .i64 p),(7,.int .u64 ((leN ((l.drop (p+(8 - z))).take z):Nat):Int)),(8,.int .i64 (8 - 1 - z))]) (fun z:Nat=>[(0,.cells (zQZ l++zQZ R) 5 z0 w f)]) (fun z:Nat=>1) (fun z:Nat=>z≤8) (fun z:Nat=>8 - z) (0) (fun z hz=>⟨by simp[zWP],by simp,by exact Nat.le_refl _⟩) (by omega) (by (try simp only[go_sem,zQS]);((repeat' apply And.intro)<;>(rfl))) (by trivial) ?_;intro j hj
 rcases Nat.lt_or_ge j 8 with hjk | hjk
 ·have hor:=yNZ l (p+(7 - j)) j (by omega) (by omega);have hsj:8 - (j+1)=7 - j:=by omega
  have hix:((p:Int)+(7 - (j:Int))).toNat=p+(7 - j):=by omega
  rw[show p+(7 - j)+1=p+(8 - j) by omega] at hor
  have hget:(zQZ l++zQZ R)[p+(7 - j)]? = some (.int .u8 (l.getD (p+(7 - j)) 0).toNat):=by
   rw[List.getElem?_append_left (by rw[zQY];omega),zTB l _ (by omega)]
  have hc:=UInt8.toNat_lt (l.getD (p+(7 - j)) 0)
  repeat' (first|refine zQQ 8913395 ?_|refine zQW ?_|(refine stp ?_;simp only[go_sem,yBH])|(simp only[go_sem,hix,hget])|(simp (disch:=omega) only[zQK,zKG])|(refine spl (fun h=>?_) (fun h=>?_)<;>first|omega|try simp only[go_sem,h])|(refine zQT ?_ ?_;focus omega))
  (refine ⟨(j+1),?_,?_,rfl,rfl,?_,?_⟩;rotate_left;(focus (simp only[];omega));(focus ((try simp only[go_sem,zQS,hor,hsj]);((repeat' apply And.intro)<;>((try simp only[EV.int.injEq,true_and]);omega))));(focus (trivial));(try simp only[]))
  omega
 ·obtain rfl:j=8:=by omega
  have hlt:=zGW (l.drop p) 8;simp only[Nat.reducePow] at hlt
  repeat' (first|refine zQQ 8913395 ?_|(refine stp ?_;simp only[go_sem,Nat.sub_self,Nat.add_zero])|fail)
  exact zWW [] (by simp) (by simp) (by simp) (by simp) (by simp) (by simp) rfl (by simp) (by simp)
end
section
def zGS (T:List UInt8) (f:Nat):List UInt8:=T.take f++zU (252 - T.length)++T.drop f
theorem zYV (T:List UInt8) (f:Nat) (h:T.length≤252):(zGS T f).length=252:=by
 simp only[zGS,List.length_append,List.length_take,zXV,List.length_drop];omega
abbrev yZQ (T:List UInt8) (f:Nat):EO:=.cells (.bool true :: .int .i64 f :: .int .i64 (f+(252 - T.length):Nat)::zQZ (zGS T f)) 292 0 true 0
theorem drop3 {α:Type} (a b c:α) (L:List α) (n:Nat):List.drop (3+n) (a::b::c::L)=L.drop n:=by rw[Nat.add_comm];rfl
theorem putL3 (a b c:EV) (L v:List EV) (n:Nat):zZH (a::b::c::L) (3+n) v=a::b::c::zZH L n v:=by
 unfold zZH;rw[show 3+n+v.length=3+(n+v.length) by omega,drop3,Nat.add_comm 3 n];rfl
theorem putL3' (a b c:EV) (L v:List EV):zZH (a::b::c::L) 3 v=a::b::c::zZH L 0 v:=putL3 a b c L v 0
theorem gapL_take (T:List UInt8) (f:Nat) (hf:f≤T.length):(zGS T f).take f=T.take f:=by
 unfold zGS;rw[List.append_assoc,List.take_left' (by simp;omega)]
theorem xQF (T:List UInt8) (f:Nat) (hf:f≤T.length):(zGS T f).drop (f+(252 - T.length))=T.drop f:=by
 unfold zGS;rw[List.drop_left' (by simp;omega)]
theorem gap_make (T:List UInt8) (hT:T.length≤252):zZH (zQZ (zU 252)) 0 (zQZ T)=zQZ (zGS T T.length):=by
 unfold zZH zGS;rw[List.take_zero,List.nil_append,zZP,zNB,Nat.zero_add,zQY,List.take_length,List.drop_length,List.append_nil,zWJ]
theorem zDB (G:List Gl) (T:List UInt8) (f:Nat):Eff G Tryz.prog 170 [.ptr (some ⟨0,0⟩)] [(0,yZQ T f)] 1 (.bool true) [(0,yZQ T f)] 1:=by
 unfold Eff yZQ;refine zQV 11 [.tmp 2] Tryz.func170 ?_
 repeat' (first|refine zQQ 5 ?_|(refine stp ?_;simp only[go_sem])|fail)
 exact zWW [] (by simp) (by simp) (by simp) (by simp) (by simp) (by simp) rfl (by simp) (by simp)
theorem room_c (G:List Gl) (T:List UInt8) (f:Nat) (hT:T.length≤252) (hf:f≤T.length):Eff G Tryz.prog 171 [.ptr (some ⟨0,0⟩)] [(0,yZQ T f)] 1 (.int .i64 (252 - T.length)) [(0,yZQ T f)] 1:=by
 unfold Eff yZQ;refine zQV 15 [.tmp 2] Tryz.func171 ?_
 repeat' (first|refine zQQ 37 ?_|(refine stp ?_;simp only[go_sem])|(refine zWV (id:=3) mixed [(0,[]),(1,[]),(2,[]),(4,[]),(5,[]),(6,[]),(3,[]),(7,[]),(8,[]),(9,[])] (by kernel_rfl) ?_;simp only[go_sem])|(refine Eff.at2 (zDB G T f ) [0] rfl (by first|(simp;done)|fail) rfl ?_;(try simp only[go_sem]))|(simp (disch:=omega) only[zQK])|fail)
 rw[show ((f+(252 - T.length):Nat):Int) - (f:Int)=252 - (T.length:Int) by omega];exact zWW [] (by simp) (by simp) (by simp) (by simp) (by simp) (by simp) rfl (by simp) (by simp)
theorem len_c (G:List Gl) (T:List UInt8) (f:Nat) (hT:T.length≤252) (hf:f≤T.length):Eff G Tryz.prog 141 [.ptr (some ⟨0,0⟩)] [(0,yZQ T f)] 1 (.int .i64 T.length) [(0,yZQ T f)] 1:=by
 unfold Eff yZQ;refine zQV 9 [.tmp 2] Tryz.func141 ?_
 repeat' (first|refine zQQ 37 ?_|(refine stp ?_;simp only[go_sem])|(refine Eff.at2 (zDB G T f ) [0] rfl (by first|(simp;done)|fail) rfl ?_;(try simp only[go_sem]))|(refine Eff.at2 (room_c G T f hT hf ) [0] rfl (by first|(simp;done)|fail) rfl ?_;(try simp only[go_sem]))|(simp (disch:=omega) only[zQK])|fail)
 rw[show (252:Int) - (252 - (T.length:Int))=T.length by omega];exact zWW [] (by simp) (by simp) (by simp) (by simp) (by simp) (by simp) rfl (by simp) (by simp)
theorem at_c (G:List Gl) (T:List UInt8) (f:Nat):Eff G Tryz.prog 143 [.ptr (some ⟨0,0⟩)] [(0,yZQ T f)] 1 (.int .i64 f) [(0,yZQ T f)] 1:=by
 unfold Eff yZQ;refine zQV 10 [.tmp 2] Tryz.func143 ?_
 repeat' (first|refine zQQ 37 ?_|(refine stp ?_;simp only[go_sem])|(refine Eff.at2 (zDB G T f ) [0] rfl (by first|(simp;done)|fail) rfl ?_;(try simp only[go_sem]))|fail)
 exact zWW [] (by simp) (by simp) (by simp) (by simp) (by simp) (by simp) rfl (by simp) (by simp)
theorem right_c (G:List Gl) (T:List UInt8) (f a b:Nat) (hT:T.length≤252) (hf:f≤T.length) (hab:a≤b) (hb:b≤T.length):Eff G Tryz.prog 200 [.ptr (some ⟨0,0⟩),.int .i64 a,.int .i64 b] [(0,yZQ T f)] 1 (.bool true) [(0,yZQ T f)] 1:=by
 unfold Eff yZQ;refine zQV 20 [.tmp 6] Tryz.func200 ?_
 repeat' (first|refine zQQ 71 ?_|(refine stp ?_;simp only[go_sem])|(refine Eff.at2 (len_c G T f hT hf ) [0] rfl (by first|(simp;done)|fail) rfl ?_;(try simp only[go_sem]))|(refine spl (fun h=>?_) (fun h=>?_)<;>first|omega|((try simp only[zZQ]);(try simp only[go_sem,h])))|fail)
 all_goals (try (exfalso;omega))
 rw[show decide ((b:Int)≤(T.length:Int))=true from decide_eq_true (by omega)];exact zWW [] (by simp) (by simp) (by simp) (by simp) (by simp) (by simp) rfl (by simp) (by simp)
theorem text_c (G:List Gl) (T:List UInt8) (f:Nat) (hT:T.length≤252) (hf:f≤T.length):Eff G Tryz.prog 142 [.ptr (some ⟨0,0⟩)] [(0,yZQ T f)] 1 (.str T) [(0,yZQ T f)] 1:=by
 unfold Eff yZQ;refine zQV 25 [.tmp 2] Tryz.func142 ?_;have e1:(zQZ (zGS T f)).take (f - 0)=zQZ (T.take f):=by rw[Nat.sub_zero,zVQ,gapL_take T f hf]
 have e2:((zQZ (zGS T f)).drop (f+(252 - T.length))).take (252 - (f+(252 - T.length)))=zQZ (T.drop f):=by
  rw[zZP,xQF T f hf,List.take_of_length_le];rw[zQY,List.length_drop];omega
 repeat' (first|refine zQQ 37 ?_|(refine stp ?_;simp only[go_sem])|(refine zWV (id:=3) mixed [(0,[]),(1,[]),(2,[]),(3,[]),(4,[]),(5,[]),(9,[]),(10,[]),(11,[]),(12,[]),(13,[]),(14,[]),(6,[]),(7,[]),(8,[]),(15,[]),(16,[]),(17,[]),(18,[]),(19,[])] (by kernel_rfl) ?_;simp only[go_sem,e1,e2,drop3,zQY,zYV T f hT,List.take_append_drop,List.length_take,List.length_drop])|(refine Eff.at2 (zDB G T f ) [0] rfl (by first|(simp;done)|fail) rfl ?_;(try simp only[go_sem]))|(refine zQT ?_ ?_;focus omega))
 exact zWW [] (by simp) (by simp) (by simp) (by simp) (by simp) (by simp) rfl (by simp) (by simp)
theorem make_c (G:List Gl) (T:List UInt8) (hT:T.length≤252):Eff G Tryz.prog 176 [.str T] [] 0 (.tuple [.ptr (some ⟨0,0⟩),.int .i64 0]) [(0,yZQ T T.length)] 1:=by
 unfold Eff yZQ;refine zQV 19 [.tmp 2,.tmp 3] Tryz.func176 ?_
 repeat' (first|refine zQQ 157 ?_|(refine stp ?_;simp only[go_sem,zXV,zQY])|(refine spl (fun h=>?_) (fun h=>?_)<;>first|omega|try simp only[go_sem,h])|(refine zQT ?_ ?_;focus omega))
 rw[Nat.min_eq_left hT,zSM,putL3',gap_make T hT,show (252:Int)=((T.length+(252 - T.length):Nat):Int) by omega];exact zWW [0] (by simp) (by simp) (by simp) (by simp) (by simp) (by simp) rfl (by simp) (by simp)
end
section
def yPW (c:List UInt8) (o:Nat) (v:List UInt8):List UInt8:=c.take o++(v++c.drop (o+v.length))
theorem yWK (c v:List UInt8) (o:Nat):zZH (zQZ c) o (zQZ v)=zQZ (yPW c o v):=by
 unfold zZH yPW;rw[zWJ,zWJ,← zVQ,← zZP,zQY]
theorem yQZ (c v:List UInt8) (o:Nat) (h:o+v.length≤c.length):(yPW c o v).length=c.length:=by
 simp only[yPW,List.length_append,List.length_take,List.length_drop];omega
theorem gap_lo (T:List UInt8) (f a:Nat) (hT:T.length≤252) (hf:f≤T.length) (ha:a≤f):yPW (yPW (zGS T f) (a+(252 - T.length)) ((T.take f).drop a)) a (zU (252 - T.length))=zGS T a:=by
 have hP:(T.take a).length=a:=by simp;omega
 have hQ:((T.take f).drop a).length=f - a:=by simp;omega
 have h1:T.take f=T.take a++(T.take f).drop a:=by
  conv=>lhs;rw[← List.take_append_drop a (T.take f),List.take_take,Nat.min_eq_left ha]
 have h2:T.drop a=(T.take f).drop a++T.drop f:=by
  conv=>lhs;rw[← List.take_append_drop f T,List.drop_append]
  rw[show a - (T.take f).length=0 by simp;omega,List.drop_zero]
 unfold zGS;rw[h2];generalize (T.take f).drop a=Q at *
 rw[h1];generalize T.take a=P at *
 generalize T.drop f=R at *
 generalize 252 - T.length=g at *
 have hz:=zXV g;generalize zU g=Z at *
 unfold yPW;have e1:(P++Q++Z++R).drop (a+g+Q.length)=R:=by
  rw[List.drop_left' (by simp;omega)]
 rw[e1];have e2:(P++Q++Z++R).take (a+g)=P++(Q++Z).take g:=by
  rw[List.append_assoc P,List.append_assoc P,List.take_append,hP,List.take_of_length_le (by omega),show a+g - a=g by omega,List.take_append_of_le_length (by simp;omega)]
 rw[e2,List.append_assoc P,List.take_left' hP,hz];have e3:(P++((Q++Z).take g++(Q++R))).drop (a+g)=Q++R:=by
  rw[← List.append_assoc,List.drop_left' (by simp;omega)]
 rw[e3];simp only[List.append_assoc]
theorem gap_hi (T:List UInt8) (f a:Nat) (hT:T.length≤252) (hf:f≤a) (ha:a≤T.length):yPW (yPW (zGS T f) f ((T.drop f).take (a - f))) a (zU (252 - T.length))=zGS T a:=by
 have hP:(T.take f).length=f:=by simp;omega
 have hQ:((T.drop f).take (a - f)).length=a - f:=by simp;omega
 have h1:T.drop f=(T.drop f).take (a - f)++T.drop a:=by
  conv=>lhs;rw[← List.take_append_drop (a - f) (T.drop f),List.drop_drop,show f+(a - f)=a by omega]
 have h2:T.take a=T.take f++(T.drop f).take (a - f):=by
  conv=>lhs;rw[show a=f+(a - f) by omega,List.take_add]
 unfold zGS;rw[h2];generalize (T.drop f).take (a - f)=Q at *
 rw[h1];generalize T.take f=P at *
 generalize T.drop a=R at *
 generalize 252 - T.length=g at *
 have hz:=zXV g;generalize zU g=Z at *
 unfold yPW;rw[List.append_assoc P,List.take_left' hP];have e1:(P++(Z++(Q++R))).drop (f+Q.length)=(Z++(Q++R)).drop Q.length:=by
  rw[List.drop_append,hP,List.drop_of_length_le (by omega),List.nil_append];congr 1;omega
 rw[e1,← List.append_assoc P,List.take_left' (by simp;omega)];have e3:(P++Q++(Z++(Q++R)).drop Q.length).drop (a+Z.length)=R:=by
  rw[List.drop_append,List.drop_of_length_le (by simp;omega),List.nil_append,List.drop_drop,← List.append_assoc,List.drop_left' (by simp;omega)]
 rw[e3];simp only[List.append_assoc]
theorem gapL_mid (T:List UInt8) (f a:Nat) (ha:a≤f) (hf:f≤T.length):((zGS T f).drop a).take (f - a)=(T.take f).drop a:=by
 unfold zGS;rw[List.append_assoc,List.drop_append_of_le_length (by simp;omega),List.take_left' (by simp;omega)]
theorem gapL_mid2 (T:List UInt8) (f a:Nat) (hf:f≤a) (ha:a≤T.length):((zGS T f).drop (f+(252 - T.length))).take (a - f)=(T.drop f).take (a - f):=by rw[xQF T f (by omega)]
theorem move_c (G:List Gl) (T:List UInt8) (f a:Nat) (hT:T.length≤252) (hf:f≤T.length) (ha:a≤T.length):Eff G Tryz.prog 177 [.ptr (some ⟨0,0⟩),.int .i64 a] [(0,yZQ T f)] 1 (.int .i64 0) [(0,yZQ T a)] 1:=by
 have hlen:=zYV T f hT;unfold Eff yZQ;refine zQV 97 [.tmp 4] Tryz.func177 ?_
 rcases Nat.lt_or_ge a f with haf | haf
 ·have n1:(((f+(252 - T.length):Nat):Int)+((a:Int) - f)).toNat=a+(252 - T.length):=by omega
  have n2:((f+(252 - T.length):Nat):Int)+((a:Int) - f)=((a+(252 - T.length):Nat):Int):=by omega
  have n3:(f:Int)+((a:Int) - f)=a:=by omega
  have n4:(3+a+(f - a)≤255)=True:=by simp;omega
  have n5:f+(252 - T.length) - (a+(252 - T.length))=f - a:=by omega
  have e1:List.take (f - a) (List.drop a (zQZ (zGS T f)))=zQZ ((T.take f).drop a):=by rw[zZP,zVQ,gapL_mid T f a (by omega) hf]
  have hX:((T.take f).drop a).length=f - a:=by simp;omega
  have e2:List.take (f - a) (zQZ ((T.take f).drop a))=zQZ ((T.take f).drop a):=by rw[← hX];exact zSM _
  have e3:=gap_lo T f a hT hf (by omega);have l1:(yPW (zGS T f) (a+(252 - T.length)) ((T.take f).drop a)).length=252:=by rw[yQZ _ _ _ (by omega)];exact hlen
  have n6:a+(252 - T.length) - a=252 - T.length:=by omega
  repeat' (first|refine zQQ 2105651 ?_|(refine stp ?_;simp only[go_sem,drop3,putL3,zQY,hlen,n2,n3,n4,e1,e2,hX,Nat.min_self,yWK,l1])|(refine zWV (id:=7) mixed [(0,[]),(1,[]),(2,[]),(3,[]),(4,[]),(5,[]),(7,[]),(9,[]),(10,[]),(11,[]),(14,[]),(15,[]),(16,[]),(17,[]),(18,[]),(19,[]),(20,[]),(6,[]),(8,[]),(12,[]),(13,[]),(21,[]),(22,[]),(23,[])] (by kernel_rfl) ?_;simp only[go_sem,n2])|(refine zWV (id:=11) mixed [(0,[]),(1,[]),(2,[]),(3,[]),(4,[]),(5,[]),(7,[]),(8,[]),(9,[]),(6,[]),(10,[]),(11,[]),(12,[])] (by kernel_rfl) ?_;simp only[go_sem])|(refine Eff.at2 (zDB G T f ) [0] rfl (by first|(simp;done)|fail) rfl ?_;(try simp only[go_sem]))|(refine Eff.at2 (right_c G T f a a hT hf (Nat.le_refl _) ha ) [0] rfl (by first|(simp;done)|fail) rfl ?_;(try simp only[go_sem]))|(refine zGY ?_;unfold yXY;simp only[go_sem,putL3,zQY,yWK,e3,l1])|(simp only[go_sem,n5,n6])|(simp (disch:=omega) only[zQK])|(refine spl (fun h=>?_) (fun h=>?_)<;>first|omega|try simp only[go_sem,h])|(refine zQT ?_ ?_;focus omega))
  exact zWW [] (by simp) (by simp) (by simp) (by simp) (by simp) (by simp) rfl (by simp) (by simp)
 ·have n1:(((f+(252 - T.length):Nat):Int)+((a:Int) - f)).toNat=a+(252 - T.length):=by omega
  have n2:((f+(252 - T.length):Nat):Int)+((a:Int) - f)=((a+(252 - T.length):Nat):Int):=by omega
  have n3:(f:Int)+((a:Int) - f)=a:=by omega
  have n5:a+(252 - T.length) - (f+(252 - T.length))=a - f:=by omega
  have n4:(3+(f+(252 - T.length))+(a - f)≤255)=True:=by simp;omega
  have hX:((T.drop f).take (a - f)).length=a - f:=by simp;omega
  have e1:List.take (a - f) (List.drop (f+(252 - T.length)) (zQZ (zGS T f)))=zQZ ((T.drop f).take (a - f)):=by rw[zZP,zVQ,gapL_mid2 T f a haf ha]
  have e2:List.take (a - f) (zQZ ((T.drop f).take (a - f)))=zQZ ((T.drop f).take (a - f)):=by
   conv=>lhs;rw[← hX]
   rw[hX,List.take_of_length_le];rw[zQY,hX];exact Nat.le_refl _
  have e3:=gap_hi T f a hT haf ha;have l1:(yPW (zGS T f) f ((T.drop f).take (a - f))).length=252:=by rw[yQZ _ _ _ (by omega)];exact hlen
  have n6:a+(252 - T.length) - a=252 - T.length:=by omega
  have n7:min (a - f) (252 - f)=a - f:=by omega
  repeat' (first|refine zQQ 2105651 ?_|(refine stp ?_;simp only[go_sem,drop3,putL3,zQY,hlen,n2,n3,n4,n7,e1,e2,hX,yWK,l1])|(refine zWV (id:=8) mixed [(0,[]),(1,[]),(2,[]),(3,[]),(4,[]),(5,[]),(8,[]),(9,[]),(10,[]),(11,[]),(12,[]),(13,[]),(15,[]),(16,[]),(17,[]),(19,[]),(6,[]),(7,[]),(14,[]),(18,[]),(20,[]),(21,[]),(22,[])] (by kernel_rfl) ?_;simp only[go_sem,n2])|(refine zWV (id:=11) mixed [(0,[]),(1,[]),(2,[]),(3,[]),(4,[]),(5,[]),(7,[]),(8,[]),(9,[]),(6,[]),(10,[]),(11,[]),(12,[])] (by kernel_rfl) ?_;simp only[go_sem])|(refine Eff.at2 (zDB G T f ) [0] rfl (by first|(simp;done)|fail) rfl ?_;(try simp only[go_sem]))|(refine Eff.at2 (right_c G T f a a hT hf (Nat.le_refl _) ha ) [0] rfl (by first|(simp;done)|fail) rfl ?_;(try simp only[go_sem]))|(refine zGY ?_;unfold yXY;simp only[go_sem,putL3,zQY,yWK,e3,l1])|(simp only[go_sem,n5,n6])|(simp (disch:=omega) only[zQK])|(refine spl (fun h=>?_) (fun h=>?_)<;>first|omega|try simp only[go_sem,h])|(refine zQT ?_ ?_;focus omega))
  exact zWW [] (by simp) (by simp) (by simp) (by simp) (by simp) (by simp) rfl (by simp) (by simp)
end
section
def zKX (T:List UInt8) (f:Nat):List UInt8:=leB 2 f++leB 2 (f+(252 - T.length))++zGS T f
theorem zSZ (T:List UInt8) (f:Nat) (h:T.length≤252):(zKX T f).length=256:=by
 simp only[zKX,List.length_append,zXX,zYV T f h]
theorem block_c (G:List Gl) (T:List UInt8) (f:Nat) (hT:T.length≤252) (hf:f≤T.length):Eff G Tryz.prog 178 [.ptr (some ⟨0,0⟩)] [(0,yZQ T f)] 1 (.slice (some ⟨1,0⟩) 256 256) [(0,yZQ T f),(1,.cells (zQZ (zKX T f)) 5 1 true 0)] 2:=by
 have hlen:=zYV T f hT;have e1:List.take 252 (zQZ (zGS T f))=zQZ (zGS T f):=List.take_of_length_le (by rw[zQY];omega);have t1:List.take 4 (zQZ (leB 2 f)++zQZ (leB 2 (f+(252 - T.length)))++zQZ (zU 6))=zQZ (leB 2 f)++zQZ (leB 2 (f+(252 - T.length))):=List.take_left' (by simp[zQY]);unfold Eff yZQ;refine zQV 25 [.tmp 2] Tryz.func178 ?_
 repeat' (first|refine zQQ 77 ?_|(refine stp ?_;simp only[go_sem,zQY,hlen,zXX,zXV,List.length_append,e1,t1,true_or])|(refine zWV (id:=3) mixed [(0,[]),(1,[]),(2,[]),(6,[]),(7,[]),(8,[]),(3,[]),(4,[]),(9,[]),(10,[]),(5,[9]),(11,[]),(12,[])] (by kernel_rfl) ?_;simp only[go_sem])|(refine Eff.at2 (zDB G T f ) [0] rfl (by first|(simp;done)|fail) rfl ?_;(try simp only[go_sem]))|(refine Eff.at2 (putN16_c G f (by omega) ) [] rfl (by first|(simp;done)|fail) rfl ?_;(try simp only[go_sem]))|(refine Eff.at2 (yZS G (leB 2 f) (zU 6) 8 0 0 true (f+(252 - T.length)) (by omega) (by simp) ) [14] rfl (by first|(simp;done)|fail) rfl ?_;(try simp only[go_sem,zXX]))|(simp (disch:=omega) only[zYP])|fail)
 exact zWW [16] (by simp;done) (by simp;done) (by simp;done) (by simp;done) (by simp;done) (by simp;done) rfl (by simp) (by simp[zKX])
end
section
theorem und260:Tryz.prog.underlying 290=some (.array 252 5):=by kernel_rfl
theorem guard260:Tryz.prog.eqGuardType Tryz.prog.depth 290=false:=by kernel_rfl
theorem cells5:Tryz.prog.cellsOf 5=1:=by kernel_rfl
theorem und5:Tryz.prog.underlying 5=some (.int .u8):=by kernel_rfl
theorem blk_take0 (T:List UInt8) (f:Nat) (h:T.length≤252) (hf:f≤T.length):zSF (zKX T f) 0=.tuple [.int .u16 f,.int .i64 0]:=by
 unfold zSF;rw[if_pos (by rw[zSZ T f h];omega),List.drop_zero];have:(zKX T f).take 2=leB 2 f:=by unfold zKX;rw[List.append_assoc,List.take_left' (zXX 2 f)]
 rw[this,yQY 2 f (by omega)]
theorem blk_take2 (T:List UInt8) (f:Nat) (h:T.length≤252) (hf:f≤T.length):zSF (zKX T f) 2=.tuple [.int .u16 ((f+(252 - T.length):Nat):Int),.int .i64 0]:=by
 unfold zSF;rw[if_pos (by rw[zSZ T f h];omega)];have:((zKX T f).drop 2).take 2=leB 2 (f+(252 - T.length)):=by
  unfold zKX;rw[List.append_assoc,List.drop_left' (zXX 2 f),List.take_left' (zXX 2 _)]
 rw[this,yQY 2 _ (by omega)]
theorem blk_data (T:List UInt8) (f:Nat) (h:T.length≤252):((zQZ (zKX T f)).drop 4).take 252=zQZ (zGS T f):=by
 rw[zZP];have:(zKX T f).drop 4=zGS T f:=by unfold zKX;rw[List.drop_left' (by simp)]
 rw[this,List.take_of_length_le];rw[zQY,zYV T f h];exact Nat.le_refl _
theorem gapL_clean (T:List UInt8) (f:Nat) (h:T.length≤252) (hf:f≤T.length):yPW (zGS T f) f (zU (252 - T.length))=zGS T f:=by
 unfold yPW zGS;have hP:(T.take f).length=f:=by simp;omega
 rw[List.append_assoc,List.take_left' hP,zXV];rw[show (T.take f++(zU (252 - T.length)++T.drop f)).drop (f+(252 - T.length))=T.drop f by
  rw[← List.append_assoc,List.drop_left' (by rw[List.length_append,hP,zXV])]]
theorem putC_one (c:List EV) (o:Nat) (v:EV):yDS c o [v]=c.set o v:=rfl
theorem putC_gap (a b c:EV) (T:List UInt8) (f:Nat) (h:T.length≤252):yDS (a::b::c::zQZ (zU 252)) 3 (zQZ (zGS T f))=a::b::c::zQZ (zGS T f):=by
 have hl:=zYV T f h;generalize zGS T f=l at *
 match l,hl with
 | x::y::r,hl=>
   have:yDS (a::b::c::zQZ (zU 252)) 3 (zQZ (x::y::r))=zZH (a::b::c::zQZ (zU 252)) 3 (zQZ (x::y::r)):=by
    rw[zJW,zJW];rfl
   rw[this,putL3',yWK]
   congr 4
   unfold yPW;rw[List.take_zero,List.nil_append,hl,zNB];simp[zU]
theorem putC_all (T:List UInt8) (f:Nat) (h:T.length≤252):yDS (zQZ (zU 252)) 0 (zQZ (zGS T f))=zQZ (zGS T f):=by
 have hl:=zYV T f h;generalize zGS T f=l at *
 match l,hl with
 | x::y::r,hl=>
   have:yDS (zQZ (zU 252)) 0 (zQZ (x::y::r))=zZH (zQZ (zU 252)) 0 (zQZ (x::y::r)):=by
    rw[zJW,zJW];rfl
   rw[this,yWK]
   congr 1
   unfold yPW;rw[List.take_zero,List.nil_append,hl,zNB];simp[zU]
attribute [-go_sem] yDS
theorem open_c (G:List Gl) (T:List UInt8) (f cp z0 fz:Nat) (w:Bool) (hT:T.length≤252) (hf:f≤T.length) (hcp:256≤cp) (hz:z0=0∨z0=1):Eff G Tryz.prog 140 [.slice (some ⟨0,0⟩) 256 cp] [(0,.cells (zQZ (zKX T f)) 5 z0 w fz)] 1 (.tuple [.ptr (some ⟨1,0⟩),.int .i64 0]) [(0,.cells (zQZ (zKX T f)) 5 z0 w fz),(1,yZQ T f)] 2:=by
 have hlen:=zYV T f hT;have hbl:=zSZ T f hT;have b0:=blk_take0 T f hT hf;have b2:=blk_take2 T f hT hf;have bd:=blk_data T f hT;have hc:=gapL_clean T f hT hf;have n1:f+(252 - T.length) - f=252 - T.length:=by omega
 have k0:=yJR G (zKX T f) [] 0 cp z0 fz w (by omega) (by omega);have k2:=yJR G (zKX T f) [] 2 cp z0 fz w (by omega) (by omega);rw[hbl,b0,zWH,List.append_nil] at k0
 rw[hbl,b2,zWH,List.append_nil] at k2
 obtain ⟨inf5,d5,v5,I5⟩:=zQG T5;have heq:eqE.eqL (zQZ (zGS T f)) (zQZ (zGS T f))=true:=by
  have:=eqE_bytes (zGS T f) (zGS T f);rw[eqE] at this
  rw[this];simp
 have hes:=(eqS_bytes und260 I5.info cells5 und5 guard260 hlen hlen).2;rw[eqE,heq] at hes
 have hes2:EqS Tryz.prog BinOp.neq 290 (EV.agg (zQZ (zGS T f))) (EV.agg (zQZ (zGS T f))) false:=hes;have t252:List.take 252 (zQZ (zGS T f))=zQZ (zGS T f):=List.take_of_length_le (by rw[zQY];omega);unfold Eff yZQ;refine zQV 54 [.tmp 2,.tmp 3] Tryz.func140 ?_
 repeat' (first|refine zQQ 4503600164246365 ?_|(refine stp ?_;simp only[go_sem,t252,putC_all T f hT,zQY,hlen,n1,zXV,Op.operands])|(refine zWV (id:=10) mixed [(1,[]),(2,[]),(3,[]),(0,[]),(4,[]),(5,[])] (by kernel_rfl) ?_;simp only[go_sem,heq,t252,zQY,hlen])|(refine Eff.at2 (k0 ) [0] rfl (by first|(simp;done)|fail) rfl ?_;(try simp only[go_sem]))|(refine Eff.at2 (k2 ) [0] rfl (by first|(simp;done)|fail) rfl ?_;(try simp only[go_sem]))|(refine eop_arrAt ?_;unfold eArrAt;simp only[go_sem,putC_one,putC_gap _ _ _ T f hT,zQY,hlen,hbl,bd,zXV])|(refine zGY ?_;unfold yXY;simp only[go_sem,zQY,hlen,yWK,hc])|(simp (disch:=omega) only[zQK])|(refine spl (fun h=>?_) (fun h=>?_)<;>first|omega|((try simp only[zZQ]);(try simp only[go_sem,h])))|(refine zQT ?_ ?_;focus omega))
 exact zWW [1] (by simp) (by simp) (by simp) (by simp) (by simp) (by simp) rfl (by simp) (by simp)
end
end Go.Proofs.YtncphnpndkjkaaaGreatDoor
