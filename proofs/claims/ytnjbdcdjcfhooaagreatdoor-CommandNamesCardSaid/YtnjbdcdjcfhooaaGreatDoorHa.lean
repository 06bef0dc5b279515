/-
  Own work: walks and laws of the functions that the statement reaches; the statement itself stands in the last text.
-/
import Derived.Test.YtnjbdcdjcfhooaaGreatDoorRows
import Derived.Test.YtnjbdcdjcfhooaaGreatDoorEd
namespace Go.Proofs.YtnjbdcdjcfhooaaGreatDoor
open Go.E
set_option linter.all false
set_option maxRecDepth 20000
set_option maxHeartbeats 4000000
theorem mixed : Tryz.prog.follows .mixedOrders = true := by kernel_rfl
theorem T2 : tiOf Tryz.prog 2 = some ⟨(.int .i64), 1, 8, [(.int .i64 0)]⟩ := by kernel_rfl
theorem T3 : tiOf Tryz.prog 3 = some ⟨(.int .i64), 1, 8, [(.int .i64 0)]⟩ := by kernel_rfl
theorem T4 : tiOf Tryz.prog 4 = some ⟨.bool, 1, 1, [(.bool false)]⟩ := by kernel_rfl
theorem T5 : tiOf Tryz.prog 5 = some ⟨(.int .u8), 1, 1, [(.int .u8 0)]⟩ := by kernel_rfl
theorem T9 : tiOf Tryz.prog 9 = some ⟨.str, 1, 16, [(.str [])]⟩ := by kernel_rfl
theorem T17 : tiOf Tryz.prog 17 = some ⟨(.ptr 215), 1, 8, [(.ptr none)]⟩ := by kernel_rfl
theorem T20 : tiOf Tryz.prog 20 = some ⟨.iface, 1, 16, [.nilIface]⟩ := by kernel_rfl
theorem T21 : tiOf Tryz.prog 21 = some ⟨(.int .i32), 1, 4, [(.int .i32 0)]⟩ := by kernel_rfl
theorem T22 : tiOf Tryz.prog 22 = some ⟨(.int .u32), 1, 4, [(.int .u32 0)]⟩ := by kernel_rfl
theorem T24 : tiOf Tryz.prog 24 = some ⟨(.struct [(0, 3), (1, 9), (2, 22), (3, 3), (4, 3), (5, 9), (6, 5)]), 7, 72, [(.int .i64 0), (.str []), (.int .u32 0), (.int .i64 0), (.int .i64 0), (.str []), (.int .u8 0)]⟩ := by kernel_rfl
theorem T26 : tiOf Tryz.prog 26 = some ⟨.iface, 1, 16, [.nilIface]⟩ := by kernel_rfl
theorem T29 : tiOf Tryz.prog 29 = some ⟨(.int .i64), 1, 8, [(.int .i64 0)]⟩ := by kernel_rfl
theorem T40 : tiOf Tryz.prog 40 = some ⟨(.struct [(0, 3), (1, 3)]), 2, 16, [(.int .i64 0), (.int .i64 0)]⟩ := by kernel_rfl
theorem T42 : tiOf Tryz.prog 42 = some ⟨(.struct [(0, 3), (1, 3)]), 2, 16, [(.int .i64 0), (.int .i64 0)]⟩ := by kernel_rfl
theorem T43 : tiOf Tryz.prog 43 = some ⟨(.slice 64), 1, 24, [(.slice none 0 0)]⟩ := by kernel_rfl
theorem T44 : tiOf Tryz.prog 44 = some ⟨(.slice 109), 1, 24, [(.slice none 0 0)]⟩ := by kernel_rfl
theorem T45 : tiOf Tryz.prog 45 = some ⟨(.slice 9), 1, 24, [(.slice none 0 0)]⟩ := by kernel_rfl
theorem T47 : tiOf Tryz.prog 47 = some ⟨(.struct [(0, 3), (1, 3), (2, 3), (3, 3), (4, 3), (5, 3), (6, 3), (7, 3), (8, 3)]), 9, 72, [(.int .i64 0), (.int .i64 0), (.int .i64 0), (.int .i64 0), (.int .i64 0), (.int .i64 0), (.int .i64 0), (.int .i64 0), (.int .i64 0)]⟩ := by kernel_rfl
theorem T49 : tiOf Tryz.prog 49 = some ⟨(.struct [(0, 29), (1, 3), (2, 40), (4, 9), (5, 4), (6, 42), (8, 43), (9, 44), (10, 45), (11, 47)]), 20, 216, [(.int .i64 0), (.int .i64 0), (.int .i64 0), (.int .i64 0), (.str []), (.bool false), (.int .i64 0), (.int .i64 0), (.slice none 0 0), (.slice none 0 0), (.slice none 0 0), (.int .i64 0), (.int .i64 0), (.int .i64 0), (.int .i64 0), (.int .i64 0), (.int .i64 0), (.int .i64 0), (.int .i64 0), (.int .i64 0)]⟩ := by kernel_rfl
theorem T55 : tiOf Tryz.prog 55 = some ⟨(.slice 72), 1, 24, [(.slice none 0 0)]⟩ := by kernel_rfl
theorem T61 : tiOf Tryz.prog 61 = some ⟨(.slice 29), 1, 24, [(.slice none 0 0)]⟩ := by kernel_rfl
theorem T62 : tiOf Tryz.prog 62 = some ⟨(.slice 3), 1, 24, [(.slice none 0 0)]⟩ := by kernel_rfl
theorem T64 : tiOf Tryz.prog 64 = some ⟨(.struct [(0, 22), (1, 3), (2, 5)]), 3, 24, [(.int .u32 0), (.int .i64 0), (.int .u8 0)]⟩ := by kernel_rfl
theorem T68 : tiOf Tryz.prog 68 = some ⟨(.ptr 95), 1, 8, [(.ptr none)]⟩ := by kernel_rfl
theorem T70 : tiOf Tryz.prog 70 = some ⟨(.struct [(0, 24), (7, 55), (8, 3), (9, 68)]), 10, 112, [(.int .i64 0), (.str []), (.int .u32 0), (.int .i64 0), (.int .i64 0), (.str []), (.int .u8 0), (.slice none 0 0), (.int .i64 0), (.ptr none)]⟩ := by kernel_rfl
theorem T72 : tiOf Tryz.prog 72 = some ⟨(.struct [(0, 3), (1, 3), (2, 9), (3, 3)]), 4, 40, [(.int .i64 0), (.int .i64 0), (.str []), (.int .i64 0)]⟩ := by kernel_rfl
theorem T75 : tiOf Tryz.prog 75 = some ⟨(.slice 83), 1, 24, [(.slice none 0 0)]⟩ := by kernel_rfl
theorem T77 : tiOf Tryz.prog 77 = some ⟨(.struct [(0, 3), (1, 75)]), 2, 32, [(.int .i64 0), (.slice none 0 0)]⟩ := by kernel_rfl
theorem T79 : tiOf Tryz.prog 79 = some ⟨(.map 9 77), 1, 8, [(.map none)]⟩ := by kernel_rfl
theorem T83 : tiOf Tryz.prog 83 = some ⟨.func, 1, 8, [.nilFn]⟩ := by kernel_rfl
theorem T86 : tiOf Tryz.prog 86 = some ⟨(.slice 89), 1, 24, [(.slice none 0 0)]⟩ := by kernel_rfl
theorem T89 : tiOf Tryz.prog 89 = some ⟨(.struct [(0, 9), (1, 9)]), 2, 32, [(.str []), (.str [])]⟩ := by kernel_rfl
theorem T93 : tiOf Tryz.prog 93 = some ⟨(.ptr 68), 1, 8, [(.ptr none)]⟩ := by kernel_rfl
theorem T95 : tiOf Tryz.prog 95 = some ⟨(.struct [(0, 29), (1, 3)]), 2, 16, [(.int .i64 0), (.int .i64 0)]⟩ := by kernel_rfl
theorem T109 : tiOf Tryz.prog 109 = some ⟨(.struct [(0, 22), (1, 3), (2, 3), (3, 3)]), 4, 32, [(.int .u32 0), (.int .i64 0), (.int .i64 0), (.int .i64 0)]⟩ := by kernel_rfl
theorem T123 : tiOf Tryz.prog 123 = some ⟨.other, 1, 8, [(.ptr none)]⟩ := by kernel_rfl
theorem T124 : tiOf Tryz.prog 124 = some ⟨(.int .u64), 1, 8, [(.int .u64 0)]⟩ := by kernel_rfl
theorem T126 : tiOf Tryz.prog 126 = some ⟨(.struct [(0, 17), (1, 123), (2, 124)]), 3, 24, [(.ptr none), (.ptr none), (.int .u64 0)]⟩ := by kernel_rfl
theorem T129 : tiOf Tryz.prog 129 = some ⟨.iface, 1, 16, [.nilIface]⟩ := by kernel_rfl
theorem T131 : tiOf Tryz.prog 131 = some ⟨(.int .u8), 1, 1, [(.int .u8 0)]⟩ := by kernel_rfl
theorem T139 : tiOf Tryz.prog 139 = some ⟨(.slice 5), 1, 24, [(.slice none 0 0)]⟩ := by kernel_rfl
theorem T141 : tiOf Tryz.prog 141 = some ⟨(.ptr 143), 1, 8, [(.ptr none)]⟩ := by kernel_rfl
theorem T143 : tiOf Tryz.prog 143 = some ⟨(.struct [(0, 141), (1, 139)]), 2, 32, [(.ptr none), (.slice none 0 0)]⟩ := by kernel_rfl
theorem T149 : tiOf Tryz.prog 149 = some ⟨(.int .u64), 1, 8, [(.int .u64 0)]⟩ := by kernel_rfl
theorem T164 : tiOf Tryz.prog 164 = some ⟨.iface, 1, 16, [.nilIface]⟩ := by kernel_rfl
theorem T167 : tiOf Tryz.prog 167 = some ⟨.iface, 1, 16, [.nilIface]⟩ := by kernel_rfl
theorem T169 : tiOf Tryz.prog 169 = some ⟨.iface, 1, 16, [.nilIface]⟩ := by kernel_rfl
theorem T170 : tiOf Tryz.prog 170 = some ⟨(.slice 26), 1, 24, [(.slice none 0 0)]⟩ := by kernel_rfl
theorem T173 : tiOf Tryz.prog 173 = some ⟨(.ptr 5), 1, 8, [(.ptr none)]⟩ := by kernel_rfl
theorem T181 : tiOf Tryz.prog 181 = some ⟨(.arr 24 5), 24, 24, [(.int .u8 0), (.int .u8 0), (.int .u8 0), (.int .u8 0), (.int .u8 0), (.int .u8 0), (.int .u8 0), (.int .u8 0), (.int .u8 0), (.int .u8 0), (.int .u8 0), (.int .u8 0), (.int .u8 0), (.int .u8 0), (.int .u8 0), (.int .u8 0), (.int .u8 0), (.int .u8 0), (.int .u8 0), (.int .u8 0), (.int .u8 0), (.int .u8 0), (.int .u8 0), (.int .u8 0)]⟩ := by kernel_rfl
theorem T182 : tiOf Tryz.prog 182 = some ⟨(.int .u64), 1, 8, [(.int .u64 0)]⟩ := by kernel_rfl
theorem T187 : tiOf Tryz.prog 187 = some ⟨(.slice 21), 1, 24, [(.slice none 0 0)]⟩ := by kernel_rfl
theorem T192 : tiOf Tryz.prog 192 = some ⟨(.arr 20 182), 20, 160, [(.int .u64 0), (.int .u64 0), (.int .u64 0), (.int .u64 0), (.int .u64 0), (.int .u64 0), (.int .u64 0), (.int .u64 0), (.int .u64 0), (.int .u64 0), (.int .u64 0), (.int .u64 0), (.int .u64 0), (.int .u64 0), (.int .u64 0), (.int .u64 0), (.int .u64 0), (.int .u64 0), (.int .u64 0), (.int .u64 0)]⟩ := by kernel_rfl
theorem T193 : tiOf Tryz.prog 193 = some ⟨(.arr 65 5), 65, 65, [(.int .u8 0), (.int .u8 0), (.int .u8 0), (.int .u8 0), (.int .u8 0), (.int .u8 0), (.int .u8 0), (.int .u8 0), (.int .u8 0), (.int .u8 0), (.int .u8 0), (.int .u8 0), (.int .u8 0), (.int .u8 0), (.int .u8 0), (.int .u8 0), (.int .u8 0), (.int .u8 0), (.int .u8 0), (.int .u8 0), (.int .u8 0), (.int .u8 0), (.int .u8 0), (.int .u8 0), (.int .u8 0), (.int .u8 0), (.int .u8 0), (.int .u8 0), (.int .u8 0), (.int .u8 0), (.int .u8 0), (.int .u8 0), (.int .u8 0), (.int .u8 0), (.int .u8 0), (.int .u8 0), (.int .u8 0), (.int .u8 0), (.int .u8 0), (.int .u8 0), (.int .u8 0), (.int .u8 0), (.int .u8 0), (.int .u8 0), (.int .u8 0), (.int .u8 0), (.int .u8 0), (.int .u8 0), (.int .u8 0), (.int .u8 0), (.int .u8 0), (.int .u8 0), (.int .u8 0), (.int .u8 0), (.int .u8 0), (.int .u8 0), (.int .u8 0), (.int .u8 0), (.int .u8 0), (.int .u8 0), (.int .u8 0), (.int .u8 0), (.int .u8 0), (.int .u8 0), (.int .u8 0)]⟩ := by kernel_rfl
theorem T196 : tiOf Tryz.prog 196 = some ⟨(.arr 256 5), 256, 256, [(.int .u8 0), (.int .u8 0), (.int .u8 0), (.int .u8 0), (.int .u8 0), (.int .u8 0), (.int .u8 0), (.int .u8 0), (.int .u8 0), (.int .u8 0), (.int .u8 0), (.int .u8 0), (.int .u8 0), (.int .u8 0), (.int .u8 0), (.int .u8 0), (.int .u8 0), (.int .u8 0), (.int .u8 0), (.int .u8 0), (.int .u8 0), (.int .u8 0), (.int .u8 0), (.int .u8 0), (.int .u8 0), (.int .u8 0), (.int .u8 0), (.int .u8 0), (.int .u8 0), (.int .u8 0), (.int .u8 0), (.int .u8 0), (.int .u8 0), (.int .u8 0), (.int .u8 0), (.int .u8 0), (.int .u8 0), (.int .u8 0), (.int .u8 0), (.int .u8 0), (.int .u8 0), (.int .u8 0), (.int .u8 0), (.int .u8 0), (.int .u8 0), (.int .u8 0), (.int .u8 0), (.int .u8 0), (.int .u8 0), (.int .u8 0), (.int .u8 0), (.int .u8 0), (.int .u8 0), (.int .u8 0), (.int .u8 0), (.int .u8 0), (.int .u8 0), (.int .u8 0), (.int .u8 0), (.int .u8 0), (.int .u8 0), (.int .u8 0), (.int .u8 0), (.int .u8 0), (.int .u8 0), (.int .u8 0), (.int .u8 0), (.int .u8 0), (.int .u8 0), (.int .u8 0), (.int .u8 0), (.int .u8 0), (.int .u8 0), (.int .u8 0), (.int .u8 0), (.int .u8 0), (.int .u8 0), (.int .u8 0), (.int .u8 0), (.int .u8 0), (.int .u8 0), (.int .u8 0), (.int .u8 0), (.int .u8 0), (.int .u8 0), (.int .u8 0), (.int .u8 0), (.int .u8 0), (.int .u8 0), (.int .u8 0), (.int .u8 0), (.int .u8 0), (.int .u8 0), (.int .u8 0), (.int .u8 0), (.int .u8 0), (.int .u8 0), (.int .u8 0), (.int .u8 0), (.int .u8 0), (.int .u8 0), (.int .u8 0), (.int .u8 0), (.int .u8 0), (.int .u8 0), (.int .u8 0), (.int .u8 0), (.int .u8 0), (.int .u8 0), (.int .u8 0), (.int .u8 0), (.int .u8 0), (.int .u8 0), (.int .u8 0), (.int .u8 0), (.int .u8 0), (.int .u8 0), (.int .u8 0), (.int .u8 0), (.int .u8 0), (.int .u8 0), (.int .u8 0), (.int .u8 0), (.int .u8 0), (.int .u8 0), (.int .u8 0), (.int .u8 0), (.int .u8 0), (.int .u8 0), (.int .u8 0), (.int .u8 0), (.int .u8 0), (.int .u8 0), (.int .u8 0), (.int .u8 0), (.int .u8 0), (.int .u8 0), (.int .u8 0), (.int .u8 0), (.int .u8 0), (.int .u8 0), (.int .u8 0), (.int .u8 0), (.int .u8 0), (.int .u8 0), (.int .u8 0), (.int .u8 0), (.int .u8 0), (.int .u8 0), (.int .u8 0), (.int .u8 0), (.int .u8 0), (.int .u8 0), (.int .u8 0), (.int .u8 0), (.int .u8 0), (.int .u8 0), (.int .u8 0), (.int .u8 0), (.int .u8 0), (.int .u8 0), (.int .u8 0), (.int .u8 0), (.int .u8 0), (.int .u8 0), (.int .u8 0), (.int .u8 0), (.int .u8 0), (.int .u8 0), (.int .u8 0), (.int .u8 0), (.int .u8 0), (.int .u8 0), (.int .u8 0), (.int .u8 0), (.int .u8 0), (.int .u8 0), (.int .u8 0), (.int .u8 0), (.int .u8 0), (.int .u8 0), (.int .u8 0), (.int .u8 0), (.int .u8 0), (.int .u8 0), (.int .u8 0), (.int .u8 0), (.int .u8 0), (.int .u8 0), (.int .u8 0), (.int .u8 0), (.int .u8 0), (.int .u8 0), (.int .u8 0), (.int .u8 0), (.int .u8 0), (.int .u8 0), (.int .u8 0), (.int .u8 0), (.int .u8 0), (.int .u8 0), (.int .u8 0), (.int .u8 0), (.int .u8 0), (.int .u8 0), (.int .u8 0), (.int .u8 0), (.int .u8 0), (.int .u8 0), (.int .u8 0), (.int .u8 0), (.int .u8 0), (.int .u8 0), (.int .u8 0), (.int .u8 0), (.int .u8 0), (.int .u8 0), (.int .u8 0), (.int .u8 0), (.int .u8 0), (.int .u8 0), (.int .u8 0), (.int .u8 0), (.int .u8 0), (.int .u8 0), (.int .u8 0), (.int .u8 0), (.int .u8 0), (.int .u8 0), (.int .u8 0), (.int .u8 0), (.int .u8 0), (.int .u8 0), (.int .u8 0), (.int .u8 0), (.int .u8 0), (.int .u8 0), (.int .u8 0), (.int .u8 0), (.int .u8 0), (.int .u8 0), (.int .u8 0), (.int .u8 0), (.int .u8 0), (.int .u8 0), (.int .u8 0), (.int .u8 0), (.int .u8 0), (.int .u8 0), (.int .u8 0), (.int .u8 0), (.int .u8 0), (.int .u8 0), (.int .u8 0), (.int .u8 0), (.int .u8 0)]⟩ := by kernel_rfl
theorem T198 : tiOf Tryz.prog 198 = some ⟨(.struct [(0, 5), (1, 5)]), 2, 2, [(.int .u8 0), (.int .u8 0)]⟩ := by kernel_rfl
theorem T199 : tiOf Tryz.prog 199 = some ⟨(.arr 16 198), 32, 32, [(.int .u8 0), (.int .u8 0), (.int .u8 0), (.int .u8 0), (.int .u8 0), (.int .u8 0), (.int .u8 0), (.int .u8 0), (.int .u8 0), (.int .u8 0), (.int .u8 0), (.int .u8 0), (.int .u8 0), (.int .u8 0), (.int .u8 0), (.int .u8 0), (.int .u8 0), (.int .u8 0), (.int .u8 0), (.int .u8 0), (.int .u8 0), (.int .u8 0), (.int .u8 0), (.int .u8 0), (.int .u8 0), (.int .u8 0), (.int .u8 0), (.int .u8 0), (.int .u8 0), (.int .u8 0), (.int .u8 0), (.int .u8 0)]⟩ := by kernel_rfl
theorem T201 : tiOf Tryz.prog 201 = some ⟨(.arr 32 5), 32, 32, [(.int .u8 0), (.int .u8 0), (.int .u8 0), (.int .u8 0), (.int .u8 0), (.int .u8 0), (.int .u8 0), (.int .u8 0), (.int .u8 0), (.int .u8 0), (.int .u8 0), (.int .u8 0), (.int .u8 0), (.int .u8 0), (.int .u8 0), (.int .u8 0), (.int .u8 0), (.int .u8 0), (.int .u8 0), (.int .u8 0), (.int .u8 0), (.int .u8 0), (.int .u8 0), (.int .u8 0), (.int .u8 0), (.int .u8 0), (.int .u8 0), (.int .u8 0), (.int .u8 0), (.int .u8 0), (.int .u8 0), (.int .u8 0)]⟩ := by kernel_rfl
theorem T202 : tiOf Tryz.prog 202 = some ⟨(.arr 64 5), 64, 64, [(.int .u8 0), (.int .u8 0), (.int .u8 0), (.int .u8 0), (.int .u8 0), (.int .u8 0), (.int .u8 0), (.int .u8 0), (.int .u8 0), (.int .u8 0), (.int .u8 0), (.int .u8 0), (.int .u8 0), (.int .u8 0), (.int .u8 0), (.int .u8 0), (.int .u8 0), (.int .u8 0), (.int .u8 0), (.int .u8 0), (.int .u8 0), (.int .u8 0), (.int .u8 0), (.int .u8 0), (.int .u8 0), (.int .u8 0), (.int .u8 0), (.int .u8 0), (.int .u8 0), (.int .u8 0), (.int .u8 0), (.int .u8 0), (.int .u8 0), (.int .u8 0), (.int .u8 0), (.int .u8 0), (.int .u8 0), (.int .u8 0), (.int .u8 0), (.int .u8 0), (.int .u8 0), (.int .u8 0), (.int .u8 0), (.int .u8 0), (.int .u8 0), (.int .u8 0), (.int .u8 0), (.int .u8 0), (.int .u8 0), (.int .u8 0), (.int .u8 0), (.int .u8 0), (.int .u8 0), (.int .u8 0), (.int .u8 0), (.int .u8 0), (.int .u8 0), (.int .u8 0), (.int .u8 0), (.int .u8 0), (.int .u8 0), (.int .u8 0), (.int .u8 0), (.int .u8 0)]⟩ := by kernel_rfl
attribute [go_sem] T2 T3 T4 T5 T9 T17 T20 T21 T22 T24 T26 T29 T40 T42 T43 T44 T45 T47 T49 T55
attribute [go_sem] T61 T62 T64 T68 T70 T72 T75 T77 T79 T83 T86 T89 T93 T95 T109 T123 T124 T126 T129 T131
attribute [go_sem] T139 T141 T143 T149 T164 T167 T169 T170 T173 T181 T182 T187 T192 T193 T196 T198 T199 T201 T202
theorem noesc {x : EV} {S : ES} {Q : ER → ES → Prop} (h : Q (.ret x) S) : ECalls Tryz.prog 117 [x] S Q := by
  refine ecalls_extern (e := Extern.AbiNoEscape.same) Tryz.func117 (by kernel_rfl) (by kernel_rfl) (by kernel_rfl) (by kernel_rfl) fun ρ w args' hR hA => ?_
  obtain ⟨x', e, hx⟩ := one_of hA
  obtain ⟨l⟩ := args'
  simp only at e
  subst e
  exact RunV.pure hR rfl hx h
theorem lies143 : liesAt Tryz.prog Tryz.prog.depth 143 (2 / Tryz.prog.cellsOf 143) 0 143 1 = true := by kernel_rfl
theorem und141 : Tryz.prog.underlying 141 = some (.pointer 143) := by kernel_rfl
theorem und173 : Tryz.prog.underlying 173 = some (.pointer 5) := by kernel_rfl
theorem cells5 : Tryz.prog.cellsOf 5 = 1 := by kernel_rfl
theorem und123 : Tryz.prog.underlying 123 = some .unsafePointer := by kernel_rfl
abbrev bld (p : Option EA) (b : EV) : EO := .cells [.ptr p, b] 143 0 true 0
theorem cc_new (G : List Gl) : Eff G Tryz.prog 108 [.ptr (some ⟨0, 0⟩)] [(0, bld none (.slice none 0 0))] 1 (.tuple []) [(0, bld (some ⟨0, 0⟩) (.slice none 0 0))] 1 := by
  unfold Eff bld
  refine ecalls_in 20 [] Tryz.func108 rfl rfl rfl (by kernel_rfl) (le_ble rfl) ?_
  repeat' (first | refine esem_seqK 524353 ?_ | refine esem_block ?_ | (refine stp ?_; simp only [go_sem]) | (refine noesc ?_; simp only [go_sem]) | (refine eop_toU ⟨143, _, und141, und123, T143, (by decide), ?_⟩; simp only [go_sem]) | (refine eop_fromU ⟨143, _, und123, und141, T143, (by decide), ?_⟩; simp only [go_sem, lies143]) | (simp (disch := omega) only [wE]) | (refine spl (fun h => ?_) (fun h => ?_) <;> first | (exfalso; omega) | ((try simp only [opRun, opSkip, stepRun, pickZ]); (try simp only [go_sem, h]))) | (refine and_om ?_ ?_; focus omega))
  all_goals exact done_ef2 [] (by simp) rfl (by simp [mA]) (by simp [bC])
theorem cc_full (G : List Gl) (n m : Nat) : Eff G Tryz.prog 108 [.ptr (some ⟨0, 0⟩)] [(0, bld (some ⟨0, 0⟩) (.slice (some ⟨1, 0⟩) n m))] 2 (.tuple []) [(0, bld (some ⟨0, 0⟩) (.slice (some ⟨1, 0⟩) n m))] 2 := by
  unfold Eff bld
  refine ecalls_in 20 [] Tryz.func108 rfl rfl rfl (by kernel_rfl) (le_ble rfl) ?_
  repeat' (first | refine esem_seqK 524353 ?_ | refine esem_block ?_ | (refine stp ?_; simp only [go_sem]) | (refine ⟨(eqS_ptr T141 rfl T143 (by decide)).2, ?_⟩; try simp only [go_sem]) | (simp (disch := omega) only [wE]) | (refine spl (fun h => ?_) (fun h => ?_) <;> first | (exfalso; omega) | ((try simp only [opRun, opSkip, stepRun, pickZ]); (try simp only [go_sem, h]))) | (refine and_om ?_ ?_; focus omega))
  all_goals exact done_ef2 [] (by simp) rfl (by simp [mA]) (by simp [bC])
theorem wb_new (G : List Gl) (c : UInt8) : Eff G Tryz.prog 89 [.ptr (some ⟨0, 0⟩), .int .u8 c.toNat] [(0, bld none (.slice none 0 0))] 1 .nilIface [(0, bld (some ⟨0, 0⟩) (.slice (some ⟨1, 0⟩) 1 1)), (1, .cells (bytesE [c]) 5 1 true 0)] 2 := by
  unfold Eff bld
  refine ecalls_in 17 [.tmp 4] Tryz.func89 rfl rfl rfl (by kernel_rfl) (le_ble rfl) ?_
  repeat' (first | refine esem_seqK 19 ?_ | refine esem_block ?_ | (refine stp ?_; simp only [go_sem]) | (refine Eff.at2 (cc_new _ ) [0] rfl (by first | (simp; done) | (simp; omega) | (simp [bC]; done) | omega) rfl ?_; (try simp only [go_sem])) | (refine eop_append ?_; simp only [go_sem]) | (simp (disch := omega) only [wE]) | (refine spl (fun h => ?_) (fun h => ?_) <;> first | (exfalso; omega) | ((try simp only [opRun, opSkip, stepRun, pickZ]); (try simp only [go_sem, h]))) | (refine and_om ?_ ?_; focus omega))
  all_goals exact done_ef2 [2] (by simp) rfl (by simp [mA]) (by simp [bC])
abbrev full (i j : Nat) (l : List UInt8) : List (Nat × EO) := [(i, bld (some ⟨i, 0⟩) (.slice (some ⟨j, 0⟩) l.length l.length)), (j, .cells (bytesE l) 5 1 true 0)]
theorem wb_full (G : List Gl) (c : UInt8) (l : List UInt8) (hl : l.length ≤ 70000000000000) : Eff G Tryz.prog 89 [.ptr (some ⟨0, 0⟩), .int .u8 c.toNat] (full 0 1 l) 2 .nilIface (full 0 2 (l ++ [c])) 3 := by
  unfold Eff full bld
  refine ecalls_in 17 [.tmp 4] Tryz.func89 rfl rfl rfl (by kernel_rfl) (le_ble rfl) ?_
  repeat' (first | refine esem_seqK 19 ?_ | refine esem_block ?_ | (refine stp ?_; simp only [go_sem]) | (refine Eff.at2 (cc_full _ l.length l.length ) [0, 1] rfl (by first | (simp; done) | (simp; omega) | (simp [bC]; done) | omega) rfl ?_; (try simp only [go_sem])) | (refine eop_append ?_; simp only [go_sem]) | (simp (disch := omega) only [wE]) | (refine spl (fun h => ?_) (fun h => ?_) <;> first | (exfalso; omega) | ((try simp only [opRun, opSkip, stepRun, pickZ]); (try simp only [go_sem, h]))) | (refine and_om ?_ ?_; focus omega))
  all_goals exact done_ef2 [3] (by simp) rfl (by simp [mA]) (by simp [bC])
theorem ws_new (G : List Gl) (l : List UInt8) (h0 : 0 < l.length) (hl : l.length ≤ 70000000000000) : Eff G Tryz.prog 91 [.ptr (some ⟨0, 0⟩), .str l] [(0, bld none (.slice none 0 0))] 1 (.tuple [.int .i64 l.length, .nilIface]) (full 0 1 l) 2 := by
  have h1 : (l.length = 0) = False := by simp; intro h; subst h; simp at h0
  unfold Eff full bld
  refine ecalls_in 19 [.tmp 4, .tmp 5] Tryz.func91 rfl rfl rfl (by kernel_rfl) (le_ble rfl) ?_
  repeat' (first | refine esem_seqK 51 ?_ | refine esem_block ?_ | (refine stp ?_; simp only [go_sem]) | (refine Eff.at2 (cc_new _ ) [0] rfl (by first | (simp; done) | (simp; omega) | (simp [bC]; done) | omega) rfl ?_; (try simp only [go_sem])) | (refine eop_append ?_; simp only [go_sem, h1]) | (simp (disch := omega) only [wE]) | (refine spl (fun h => ?_) (fun h => ?_) <;> first | (exfalso; omega) | ((try simp only [opRun, opSkip, stepRun, pickZ]); (try simp only [go_sem, h]))) | (refine and_om ?_ ?_; focus omega))
  all_goals exact done_ef2 [1] (by simp) rfl (by simp [mA]) (by simp [bC])
theorem ws_full (G : List Gl) (k l : List UInt8) (h0 : 0 < l.length) (hl : k.length + l.length ≤ 70000000000000) : Eff G Tryz.prog 91 [.ptr (some ⟨0, 0⟩), .str l] (full 0 1 k) 2 (.tuple [.int .i64 l.length, .nilIface]) (full 0 2 (k ++ l)) 3 := by
  have h1 : (l.length = 0) = False := by simp; intro h; subst h; simp at h0
  unfold Eff full bld
  refine ecalls_in 19 [.tmp 4, .tmp 5] Tryz.func91 rfl rfl rfl (by kernel_rfl) (le_ble rfl) ?_
  repeat' (first | refine esem_seqK 51 ?_ | refine esem_block ?_ | (refine stp ?_; simp only [go_sem]) | (refine Eff.at2 (cc_full _ k.length k.length ) [0, 1] rfl (by first | (simp; done) | (simp; omega) | (simp [bC]; done) | omega) rfl ?_; (try simp only [go_sem])) | (refine eop_append ?_; simp only [go_sem, h1]) | (simp (disch := omega) only [wE]) | (refine spl (fun h => ?_) (fun h => ?_) <;> first | (exfalso; omega) | ((try simp only [opRun, opSkip, stepRun, pickZ]); (try simp only [go_sem, h]))) | (refine and_om ?_ ?_; focus omega))
  all_goals exact done_ef2 [2] (by simp) rfl (by simp [mA]) (by simp [bC])
theorem str_nil (G : List Gl) (p : Option EA) (hp : p = none ∨ p = some ⟨0, 0⟩) : Eff G Tryz.prog 94 [.ptr (some ⟨0, 0⟩)] [(0, bld p (.slice none 0 0))] 1 (.str []) [] 1 := by
  unfold Eff bld
  rcases hp with rfl | rfl
  all_goals
    refine ecalls_in 14 [.tmp 2] Tryz.func94 rfl rfl rfl (by kernel_rfl) (le_ble rfl) ?_
    repeat' (first | refine esem_seqK 5 ?_ | refine esem_block ?_ | (refine stp ?_; simp only [go_sem]) | (refine drawQ (id := 1) mixed [(0, []), (1, []), (2, []), (5, []), (6, []), (7, []), (3, []), (8, []), (9, []), (4, [8, 9]), (10, []), (11, [])] (by kernel_rfl) ?_; simp only [go_sem]) | (refine eop_data ?_; simp only [go_sem]) | (refine eop_text ?_; simp only [go_sem, und173, cells5]) | (simp (disch := omega) only [wE]) | (refine spl (fun h => ?_) (fun h => ?_) <;> first | (exfalso; omega) | ((try simp only [opRun, opSkip, stepRun, pickZ]); (try simp only [go_sem, h]))) | (refine and_om ?_ ?_; focus omega))
    all_goals exact done_ef2 [] (by simp) rfl (by simp [mA]) (by simp [bC])
theorem str_full (G : List Gl) (l : List UInt8) (h0 : 0 < l.length) (hl : l.length ≤ 70000000000000) : Eff G Tryz.prog 94 [.ptr (some ⟨0, 0⟩)] (full 0 1 l) 2 (.str l) [] 2 := by
  have h1 : (l.length = 0) = False := by simp; intro h; subst h; simp at h0
  unfold Eff full bld
  refine ecalls_in 14 [.tmp 2] Tryz.func94 rfl rfl rfl (by kernel_rfl) (le_ble rfl) ?_
  repeat' (first | refine esem_seqK 5 ?_ | refine esem_block ?_ | (refine stp ?_; simp only [go_sem]) | (refine drawQ (id := 1) mixed [(0, []), (1, []), (2, []), (5, []), (6, []), (7, []), (3, []), (8, []), (9, []), (4, [8, 9]), (10, []), (11, [])] (by kernel_rfl) ?_; simp only [go_sem]) | (refine eop_data ?_; simp only [go_sem, h1]) | (refine eop_text ?_; simp only [go_sem, und173, cells5]) | (simp (disch := omega) only [wE]) | (refine spl (fun h => ?_) (fun h => ?_) <;> first | (exfalso; omega) | ((try simp only [opRun, opSkip, stepRun, pickZ]); (try simp only [go_sem, h]))) | (refine and_om ?_ ?_; focus omega))
  all_goals exact done_ef2 [] (by simp) rfl (by simp [mA]) (by simp [bC])
end Go.Proofs.YtnjbdcdjcfhooaaGreatDoor
namespace Go.Proofs.YtnjbdcdjcfhooaaGreatDoor
open Go.E
set_option linter.all false
set_option maxRecDepth 20000
set_option maxHeartbeats 4000000
def blankB (c : UInt8) : Bool := decide ((c.toNat : Int) = 32) || decide ((c.toNat : Int) = 9)
theorem blank_c (G : List Gl) (c : UInt8) : Pure G Tryz.prog 54 [.int .u8 c.toNat] (.bool (blankB c)) := by
  refine pure_hid fun V hV => ?_
  refine ecalls_in 9 [.tmp 2] Tryz.func54 rfl rfl rfl (by kernel_rfl) (le_ble rfl) ?_
  repeat' (first | refine esem_seqK 5 ?_ | refine esem_block ?_ | (refine stp ?_; simp only [go_sem]) | (simp (disch := omega) only [wE]) | (refine spl (fun h => ?_) (fun h => ?_) <;> first | (exfalso; omega) | ((try simp only [opRun, opSkip, stepRun, pickZ]); (try simp only [go_sem, h]))) | (refine and_om ?_ ?_; focus omega))
  all_goals (refine done_zero (by simp [EV.bel]) ?_; rw [hV]; simp_all [blankB])
def runB (c : UInt8) : Bool := decide ((97 ≤ (c.toNat : Int) ∧ (c.toNat : Int) ≤ 122) ∨ (48 ≤ (c.toNat : Int) ∧ (c.toNat : Int) ≤ 57) ∨ (c.toNat : Int) = 46 ∨ (c.toNat : Int) = 95 ∨ (c.toNat : Int) = 45)
theorem runs_c (G : List Gl) (c : UInt8) : Pure G Tryz.prog 55 [.int .u8 c.toNat] (.bool (runB c)) := by
  refine pure_hid fun V hV => ?_
  refine ecalls_in 29 [.tmp 2] Tryz.func55 rfl rfl rfl (by kernel_rfl) (le_ble rfl) ?_
  repeat' (first | refine esem_seqK 5 ?_ | refine esem_block ?_ | (refine stp ?_; simp only [go_sem]) | (simp (disch := omega) only [wE]) | (refine spl (fun h => ?_) (fun h => ?_) <;> first | (exfalso; omega) | ((try simp only [opRun, opSkip, stepRun, pickZ]); (try simp only [go_sem, h]))) | (refine and_om ?_ ?_; focus omega))
  all_goals (refine done_zero (by simp [EV.bel]) ?_; rw [hV]; simp only [runB, EV.bool.injEq]; first | (symm; apply decide_eq_true; omega) | (symm; apply decide_eq_false; omega) | (congr 1; apply propext; omega))
def plainB (r : Int) : Bool := decide (32 ≤ r ∧ r ≠ 34 ∧ r ≠ 92 ∧ r ≠ 127 ∧ r ≠ 133 ∧ r ≠ 8232 ∧ r ≠ 8233)
theorem plain_c (G : List Gl) (r : Int) : Pure G Tryz.prog 92 [.int .i32 r] (.bool (plainB r)) := by
  refine pure_hid fun V hV => ?_
  refine ecalls_in 13 [.tmp 2] Tryz.func92 rfl rfl rfl (by kernel_rfl) (le_ble rfl) ?_
  repeat' (first | refine esem_seqK 29 ?_ | refine esem_block ?_ | (refine stp ?_; simp only [go_sem]) | (simp (disch := omega) only [wE]) | (refine spl (fun h => ?_) (fun h => ?_) <;> first | (exfalso; omega) | ((try simp only [opRun, opSkip, stepRun, pickZ]); (try simp only [go_sem, h]))) | (refine and_om ?_ ?_; focus omega))
  all_goals (refine done_zero (by simp [EV.bel]) ?_; rw [hV]; simp only [plainB, EV.bool.injEq]; first | (symm; apply decide_eq_true; omega) | (symm; apply decide_eq_false; omega) | (congr 1; apply propext; omega))
def digI (c : UInt8) : Int := if 48 ≤ (c.toNat : Int) ∧ (c.toNat : Int) ≤ 57 then c.toNat - 48 else if 97 ≤ (c.toNat : Int) ∧ (c.toNat : Int) ≤ 102 then c.toNat - 87 else 16
end Go.Proofs.YtnjbdcdjcfhooaaGreatDoor
namespace Go.Proofs.YtnjbdcdjcfhooaaGreatDoor
open Go.E
set_option linter.all false
set_option maxRecDepth 20000
set_option maxHeartbeats 4000000
theorem decE_pos (l : List UInt8) : 1 ≤ (decE l).2 := by
  simp only [decE, Utf8.decode]
  repeat' (first | split | (simp only []; omega) | decide)
theorem decE_le (l : List UInt8) (h : 0 < l.length) : (decE l).2 ≤ l.length := by
  have hs : (ByteArray.mk l.toArray).size = l.length := size_mk l
  simp only [decE, Utf8.decode, hs, Nat.zero_add]
  repeat' split
  all_goals (simp_all; try omega)
def rightB (l : List UInt8) : Bool := decide ((((decE l).1 : Nat) : Int) ≠ 65533 ∨ (decE l).2 = 3)
abbrev charE (l : List UInt8) : EV := .tuple [.int .i32 (decE l).1, .int .i64 (decE l).2, .bool (rightB l)]
end Go.Proofs.YtnjbdcdjcfhooaaGreatDoor
namespace Go.Proofs.YtnjbdcdjcfhooaaGreatDoor
open Go.E
set_option linter.all false
set_option maxRecDepth 20000
set_option maxHeartbeats 4000000
def runeLenI (r : Int) : Int := if r < 0 then -1 else if r ≤ 127 then 1 else if r ≤ 2047 then 2 else if 55296 ≤ r ∧ r ≤ 57343 then -1 else if r ≤ 65535 then 3 else if r ≤ 1114111 then 4 else -1
theorem runeLen_c (G : List Gl) (r : Int) : Pure G Tryz.prog 118 [.int .i32 r] (.int .i64 (runeLenI r)) := by
  refine pure_hid fun V hV => ?_
  refine ecalls_in 25 [.tmp 2] Tryz.func118 rfl rfl rfl (by kernel_rfl) (le_ble rfl) ?_
  repeat' (first | refine esem_seqK 4723277 ?_ | refine esem_block ?_ | (refine stp ?_; simp only [go_sem]) | (simp (disch := omega) only [wE]) | (refine spl (fun h => ?_) (fun h => ?_) <;> first | (exfalso; omega) | ((try simp only [opRun, opSkip, stepRun, pickZ]); (try simp only [go_sem, h]))) | (refine and_om ?_ ?_; focus omega))
  all_goals (refine done_zero (by simp [EV.bel]) ?_; rw [hV]; simp only [runeLenI, EV.int.injEq, true_and]; (repeat' split) <;> omega)
theorem decE_wide (l : List UInt8) (h : (decE l).1 ≠ 65533) : runeLenI (decE l).1 = (decE l).2 := by
  revert h
  simp only [decE, Utf8.decode, Utf8.runeError, Utf8.valid, Nat.zero_add]
  repeat' split
  all_goals (intro h; first | (exact absurd rfl h) | (simp_all [runeLenI]; (repeat' split) <;> omega))
end Go.Proofs.YtnjbdcdjcfhooaaGreatDoor
