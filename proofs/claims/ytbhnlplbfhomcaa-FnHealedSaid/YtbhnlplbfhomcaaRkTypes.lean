/-
  The types' sizes, fields, zero values. Printed by wip/tools/types.py.
  No condition.
-/
import Derived.Test.YtbhnlplbfhomcaaProg
import Derived.Test.YtbhnlplbfhomcaaSyC
namespace Go.SX.Ty
open Go Go.SX Go.Proofs
set_option maxRecDepth 100000
theorem tsz3 : tsz Try.prog 3 = some 1 := by kernel_rfl
theorem tby3 : tby Try.prog 3 = some 8 := by kernel_rfl
theorem tag3 : tag Try.prog 3 = some false := by kernel_rfl
theorem isSl3 : isSlT Try.prog 3 = false := by kernel_rfl
theorem tzr3 : tzr Try.prog 3 = some [.im (.int .i64 (0))] := by kernel_rfl
theorem tsz4 : tsz Try.prog 4 = some 1 := by kernel_rfl
theorem tby4 : tby Try.prog 4 = some 1 := by kernel_rfl
theorem tag4 : tag Try.prog 4 = some false := by kernel_rfl
theorem isSl4 : isSlT Try.prog 4 = false := by kernel_rfl
theorem isBo4 : isBoT Try.prog 4 = true := by kernel_rfl
theorem tzr4 : tzr Try.prog 4 = some [.im (.bool false)] := by kernel_rfl
theorem tsz5 : tsz Try.prog 5 = some 1 := by kernel_rfl
theorem tby5 : tby Try.prog 5 = some 1 := by kernel_rfl
theorem tag5 : tag Try.prog 5 = some false := by kernel_rfl
theorem isSl5 : isSlT Try.prog 5 = false := by kernel_rfl
theorem tzr5 : tzr Try.prog 5 = some [.im (.int .u8 (0))] := by kernel_rfl
theorem tsz9 : tsz Try.prog 9 = some 1 := by kernel_rfl
theorem tby9 : tby Try.prog 9 = some 16 := by kernel_rfl
theorem tag9 : tag Try.prog 9 = some false := by kernel_rfl
theorem isSl9 : isSlT Try.prog 9 = false := by kernel_rfl
theorem isSt9 : isStT Try.prog 9 = true := by kernel_rfl
theorem tzr9 : tzr Try.prog 9 = some [.im (.str ⟨#[]⟩)] := by kernel_rfl
theorem tsz29 : tsz Try.prog 29 = some 1 := by kernel_rfl
theorem tby29 : tby Try.prog 29 = some 24 := by kernel_rfl
theorem tag29 : tag Try.prog 29 = some false := by kernel_rfl
theorem tel29 : tel Try.prog 29 = some 5 := by kernel_rfl
theorem isSl29 : isSlT Try.prog 29 = true := by kernel_rfl
theorem tzr29 : tzr Try.prog 29 = some [.nil] := by kernel_rfl
theorem tsz31 : tsz Try.prog 31 = some 1 := by kernel_rfl
theorem tby31 : tby Try.prog 31 = some 8 := by kernel_rfl
theorem tag31 : tag Try.prog 31 = some false := by kernel_rfl
theorem isSl31 : isSlT Try.prog 31 = false := by kernel_rfl
theorem tzr31 : tzr Try.prog 31 = some [.im (.cpx .f32 0 0)] := by kernel_rfl
theorem tsz32 : tsz Try.prog 32 = some 1 := by kernel_rfl
theorem tby32 : tby Try.prog 32 = some 4 := by kernel_rfl
theorem tag32 : tag Try.prog 32 = some false := by kernel_rfl
theorem isSl32 : isSlT Try.prog 32 = false := by kernel_rfl
theorem tzr32 : tzr Try.prog 32 = some [.im (.flt .f32 0)] := by kernel_rfl
theorem tsz33 : tsz Try.prog 33 = some 1 := by kernel_rfl
theorem tby33 : tby Try.prog 33 = some 24 := by kernel_rfl
theorem tag33 : tag Try.prog 33 = some false := by kernel_rfl
theorem tel33 : tel Try.prog 33 = some 31 := by kernel_rfl
theorem isSl33 : isSlT Try.prog 33 = true := by kernel_rfl
theorem tzr33 : tzr Try.prog 33 = some [.nil] := by kernel_rfl
theorem tsz35 : tsz Try.prog 35 = some 3 := by kernel_rfl
theorem tby35 : tby Try.prog 35 = some 40 := by kernel_rfl
theorem tag35 : tag Try.prog 35 = some true := by kernel_rfl
theorem isSl35 : isSlT Try.prog 35 = false := by kernel_rfl
theorem tok35 : tok Try.prog 35 = true := by kernel_rfl
theorem tfd35_0 : tfd Try.prog 35 0 = some (0, 33) := by kernel_rfl
theorem tfd35_1 : tfd Try.prog 35 1 = some (1, 3) := by kernel_rfl
theorem tfd35_2 : tfd Try.prog 35 2 = some (2, 3) := by kernel_rfl
theorem tzr35 : tzr Try.prog 35 = some [.nil, .im (.int .i64 (0)), .im (.int .i64 (0))] := by kernel_rfl
theorem tsz36 : tsz Try.prog 36 = some 1 := by kernel_rfl
theorem tby36 : tby Try.prog 36 = some 24 := by kernel_rfl
theorem tag36 : tag Try.prog 36 = some false := by kernel_rfl
theorem tel36 : tel Try.prog 36 = some 3 := by kernel_rfl
theorem isSl36 : isSlT Try.prog 36 = true := by kernel_rfl
theorem tzr36 : tzr Try.prog 36 = some [.nil] := by kernel_rfl
theorem tsz38 : tsz Try.prog 38 = some 2 := by kernel_rfl
theorem tby38 : tby Try.prog 38 = some 48 := by kernel_rfl
theorem tag38 : tag Try.prog 38 = some true := by kernel_rfl
theorem isSl38 : isSlT Try.prog 38 = false := by kernel_rfl
theorem tok38 : tok Try.prog 38 = true := by kernel_rfl
theorem tfd38_0 : tfd Try.prog 38 0 = some (0, 33) := by kernel_rfl
theorem tfd38_1 : tfd Try.prog 38 1 = some (1, 36) := by kernel_rfl
theorem tzr38 : tzr Try.prog 38 = some [.nil, .nil] := by kernel_rfl
theorem tsz40 : tsz Try.prog 40 = some 11 := by kernel_rfl
theorem tby40 : tby Try.prog 40 = some 136 := by kernel_rfl
theorem tag40 : tag Try.prog 40 = some true := by kernel_rfl
theorem isSl40 : isSlT Try.prog 40 = false := by kernel_rfl
theorem tok40 : tok Try.prog 40 = true := by kernel_rfl
theorem tfd40_0 : tfd Try.prog 40 0 = some (0, 3) := by kernel_rfl
theorem tfd40_1 : tfd Try.prog 40 1 = some (1, 31) := by kernel_rfl
theorem tfd40_2 : tfd Try.prog 40 2 = some (2, 31) := by kernel_rfl
theorem tfd40_3 : tfd Try.prog 40 3 = some (3, 32) := by kernel_rfl
theorem tfd40_4 : tfd Try.prog 40 4 = some (4, 35) := by kernel_rfl
theorem tfd40_5 : tfd Try.prog 40 5 = some (7, 38) := by kernel_rfl
theorem tfd40_6 : tfd Try.prog 40 6 = some (9, 3) := by kernel_rfl
theorem tfd40_7 : tfd Try.prog 40 7 = some (10, 3) := by kernel_rfl
theorem tzr40 : tzr Try.prog 40 = some [.im (.int .i64 (0)), .im (.cpx .f32 0 0), .im (.cpx .f32 0 0), .im (.flt .f32 0), .nil, .im (.int .i64 (0)), .im (.int .i64 (0)), .nil, .nil, .im (.int .i64 (0)), .im (.int .i64 (0))] := by kernel_rfl
theorem tsz45 : tsz Try.prog 45 = some 1 := by kernel_rfl
theorem tby45 : tby Try.prog 45 = some 24 := by kernel_rfl
theorem tag45 : tag Try.prog 45 = some false := by kernel_rfl
theorem tel45 : tel Try.prog 45 = some 40 := by kernel_rfl
theorem isSl45 : isSlT Try.prog 45 = true := by kernel_rfl
theorem tzr45 : tzr Try.prog 45 = some [.nil] := by kernel_rfl
theorem tsz47 : tsz Try.prog 47 = some 2 := by kernel_rfl
theorem tby47 : tby Try.prog 47 = some 16 := by kernel_rfl
theorem tag47 : tag Try.prog 47 = some true := by kernel_rfl
theorem isSl47 : isSlT Try.prog 47 = false := by kernel_rfl
theorem tok47 : tok Try.prog 47 = true := by kernel_rfl
theorem tfd47_0 : tfd Try.prog 47 0 = some (0, 3) := by kernel_rfl
theorem tfd47_1 : tfd Try.prog 47 1 = some (1, 3) := by kernel_rfl
theorem tzr47 : tzr Try.prog 47 = some [.im (.int .i64 (0)), .im (.int .i64 (0))] := by kernel_rfl
theorem isEq47 : isEqT Try.prog 47 = true := by kernel_rfl
theorem tsz48 : tsz Try.prog 48 = some 1 := by kernel_rfl
theorem tby48 : tby Try.prog 48 = some 24 := by kernel_rfl
theorem tag48 : tag Try.prog 48 = some false := by kernel_rfl
theorem tel48 : tel Try.prog 48 = some 47 := by kernel_rfl
theorem isSl48 : isSlT Try.prog 48 = true := by kernel_rfl
theorem tzr48 : tzr Try.prog 48 = some [.nil] := by kernel_rfl
theorem tsz50 : tsz Try.prog 50 = some 2 := by kernel_rfl
theorem tby50 : tby Try.prog 50 = some 48 := by kernel_rfl
theorem tag50 : tag Try.prog 50 = some true := by kernel_rfl
theorem isSl50 : isSlT Try.prog 50 = false := by kernel_rfl
theorem tok50 : tok Try.prog 50 = true := by kernel_rfl
theorem tfd50_0 : tfd Try.prog 50 0 = some (0, 45) := by kernel_rfl
theorem tfd50_1 : tfd Try.prog 50 1 = some (1, 48) := by kernel_rfl
theorem tzr50 : tzr Try.prog 50 = some [.nil, .nil] := by kernel_rfl
theorem tsz51 : tsz Try.prog 51 = some 1 := by kernel_rfl
theorem tby51 : tby Try.prog 51 = some 24 := by kernel_rfl
theorem tag51 : tag Try.prog 51 = some false := by kernel_rfl
theorem tel51 : tel Try.prog 51 = some 33 := by kernel_rfl
theorem isSl51 : isSlT Try.prog 51 = true := by kernel_rfl
theorem tzr51 : tzr Try.prog 51 = some [.nil] := by kernel_rfl
theorem tsz56 : tsz Try.prog 56 = some 1 := by kernel_rfl
theorem tby56 : tby Try.prog 56 = some 24 := by kernel_rfl
theorem tag56 : tag Try.prog 56 = some false := by kernel_rfl
theorem tel56 : tel Try.prog 56 = some 32 := by kernel_rfl
theorem isSl56 : isSlT Try.prog 56 = true := by kernel_rfl
theorem tzr56 : tzr Try.prog 56 = some [.nil] := by kernel_rfl
theorem tsz58 : tsz Try.prog 58 = some 1 := by kernel_rfl
theorem tby58 : tby Try.prog 58 = some 8 := by kernel_rfl
theorem tag58 : tag Try.prog 58 = some false := by kernel_rfl
theorem isSl58 : isSlT Try.prog 58 = false := by kernel_rfl
theorem tzr58 : tzr Try.prog 58 = some [.im (.flt .f64 0)] := by kernel_rfl
theorem tsz64 : tsz Try.prog 64 = some 2 := by kernel_rfl
theorem tby64 : tby Try.prog 64 = some 16 := by kernel_rfl
theorem tag64 : tag Try.prog 64 = some true := by kernel_rfl
theorem isSl64 : isSlT Try.prog 64 = false := by kernel_rfl
theorem tok64 : tok Try.prog 64 = true := by kernel_rfl
theorem tfd64_0 : tfd Try.prog 64 0 = some (0, 3) := by kernel_rfl
theorem tfd64_1 : tfd Try.prog 64 1 = some (1, 3) := by kernel_rfl
theorem tzr64 : tzr Try.prog 64 = some [.im (.int .i64 (0)), .im (.int .i64 (0))] := by kernel_rfl
theorem tsz69 : tsz Try.prog 69 = some 4 := by kernel_rfl
theorem tby69 : tby Try.prog 69 = some 32 := by kernel_rfl
theorem tag69 : tag Try.prog 69 = some true := by kernel_rfl
theorem isSl69 : isSlT Try.prog 69 = false := by kernel_rfl
theorem tok69 : tok Try.prog 69 = true := by kernel_rfl
theorem tfd69_0 : tfd Try.prog 69 0 = some (0, 3) := by kernel_rfl
theorem tfd69_1 : tfd Try.prog 69 1 = some (1, 3) := by kernel_rfl
theorem tfd69_2 : tfd Try.prog 69 2 = some (2, 3) := by kernel_rfl
theorem tfd69_3 : tfd Try.prog 69 3 = some (3, 3) := by kernel_rfl
theorem tzr69 : tzr Try.prog 69 = some [.im (.int .i64 (0)), .im (.int .i64 (0)), .im (.int .i64 (0)), .im (.int .i64 (0))] := by kernel_rfl
theorem tsz70 : tsz Try.prog 70 = some 1 := by kernel_rfl
theorem tby70 : tby Try.prog 70 = some 24 := by kernel_rfl
theorem tag70 : tag Try.prog 70 = some false := by kernel_rfl
theorem tel70 : tel Try.prog 70 = some 69 := by kernel_rfl
theorem isSl70 : isSlT Try.prog 70 = true := by kernel_rfl
theorem tzr70 : tzr Try.prog 70 = some [.nil] := by kernel_rfl
theorem tsz115 : tsz Try.prog 115 = some 3 := by kernel_rfl
theorem tby115 : tby Try.prog 115 = some 40 := by kernel_rfl
theorem tag115 : tag Try.prog 115 = some true := by kernel_rfl
theorem isSl115 : isSlT Try.prog 115 = false := by kernel_rfl
theorem tok115 : tok Try.prog 115 = true := by kernel_rfl
theorem tfd115_0 : tfd Try.prog 115 0 = some (0, 29) := by kernel_rfl
theorem tfd115_1 : tfd Try.prog 115 1 = some (1, 3) := by kernel_rfl
theorem tfd115_2 : tfd Try.prog 115 2 = some (2, 3) := by kernel_rfl
theorem tzr115 : tzr Try.prog 115 = some [.nil, .im (.int .i64 (0)), .im (.int .i64 (0))] := by kernel_rfl
theorem tsz121 : tsz Try.prog 121 = some 1 := by kernel_rfl
theorem tby121 : tby Try.prog 121 = some 4 := by kernel_rfl
theorem tag121 : tag Try.prog 121 = some false := by kernel_rfl
theorem isSl121 : isSlT Try.prog 121 = false := by kernel_rfl
theorem tzr121 : tzr Try.prog 121 = some [.im (.int .u32 (0))] := by kernel_rfl
theorem tsz125 : tsz Try.prog 125 = some 1 := by kernel_rfl
theorem tby125 : tby Try.prog 125 = some 24 := by kernel_rfl
theorem tag125 : tag Try.prog 125 = some false := by kernel_rfl
theorem tel125 : tel Try.prog 125 = some 48 := by kernel_rfl
theorem isSl125 : isSlT Try.prog 125 = true := by kernel_rfl
theorem tzr125 : tzr Try.prog 125 = some [.nil] := by kernel_rfl
theorem tsz139 : tsz Try.prog 139 = some 1 := by kernel_rfl
theorem tby139 : tby Try.prog 139 = some 8 := by kernel_rfl
theorem tag139 : tag Try.prog 139 = some false := by kernel_rfl
theorem isSl139 : isSlT Try.prog 139 = false := by kernel_rfl
theorem tzr139 : tzr Try.prog 139 = some [.im (.int .u64 (0))] := by kernel_rfl
end Go.SX.Ty

namespace Go.SX
open Go Go.Proofs
attribute [go_sem] Ty.tsz3 Ty.tby3 Ty.tag3 Ty.isSl3 Ty.tzr3 Try.underlying3 Ty.tsz4 Ty.tby4 Ty.tag4 Ty.isSl4 Ty.isBo4 Ty.tzr4 Ty.tsz5 Ty.tby5 Ty.tag5 Ty.isSl5 Ty.tzr5 Try.underlying5 Ty.tsz9
attribute [go_sem] Ty.tby9 Ty.tag9 Ty.isSl9 Ty.isSt9 Ty.tzr9 Ty.tsz29 Ty.tby29 Ty.tag29 Ty.tel29 Ty.isSl29 Ty.tzr29 Ty.tsz31 Ty.tby31 Ty.tag31 Ty.isSl31 Ty.tzr31 Try.underlying31 Ty.tsz32
attribute [go_sem] Ty.tby32 Ty.tag32 Ty.isSl32 Ty.tzr32 Try.underlying32 Ty.tsz33 Ty.tby33 Ty.tag33 Ty.tel33 Ty.isSl33 Ty.tzr33 Ty.tsz35 Ty.tby35 Ty.tag35 Ty.isSl35 Ty.tok35 Ty.tfd35_0
attribute [go_sem] Ty.tfd35_1 Ty.tfd35_2 Ty.tzr35 Ty.tsz36 Ty.tby36 Ty.tag36 Ty.tel36 Ty.isSl36 Ty.tzr36 Ty.tsz38 Ty.tby38 Ty.tag38 Ty.isSl38 Ty.tok38 Ty.tfd38_0 Ty.tfd38_1 Ty.tzr38 Ty.tsz40
attribute [go_sem] Ty.tby40 Ty.tag40 Ty.isSl40 Ty.tok40 Ty.tfd40_0 Ty.tfd40_1 Ty.tfd40_2 Ty.tfd40_3 Ty.tfd40_4 Ty.tfd40_5 Ty.tfd40_6 Ty.tfd40_7 Ty.tzr40 Ty.tsz45 Ty.tby45 Ty.tag45 Ty.tel45
attribute [go_sem] Ty.isSl45 Ty.tzr45 Ty.tsz47 Ty.tby47 Ty.tag47 Ty.isSl47 Ty.tok47 Ty.tfd47_0 Ty.tfd47_1 Ty.tzr47 Ty.tsz48 Ty.tby48 Ty.tag48 Ty.tel48 Ty.isSl48 Ty.tzr48 Ty.tsz50 Ty.tby50
attribute [go_sem] Ty.tag50 Ty.isSl50 Ty.tok50 Ty.tfd50_0 Ty.tfd50_1 Ty.tzr50 Ty.tsz51 Ty.tby51 Ty.tag51 Ty.tel51 Ty.isSl51 Ty.tzr51 Ty.tsz56 Ty.tby56 Ty.tag56 Ty.tel56 Ty.isSl56 Ty.tzr56
attribute [go_sem] Ty.tsz58 Ty.tby58 Ty.tag58 Ty.isSl58 Ty.tzr58 Try.underlying58 Ty.tsz64 Ty.tby64 Ty.tag64 Ty.isSl64 Ty.tok64 Ty.tfd64_0 Ty.tfd64_1 Ty.tzr64 Ty.tsz69 Ty.tby69 Ty.tag69
attribute [go_sem] Ty.isSl69 Ty.tok69 Ty.tfd69_0 Ty.tfd69_1 Ty.tfd69_2 Ty.tfd69_3 Ty.tzr69 Ty.tsz70 Ty.tby70 Ty.tag70 Ty.tel70 Ty.isSl70 Ty.tzr70 Ty.tsz115 Ty.tby115 Ty.tag115 Ty.isSl115
attribute [go_sem] Ty.tok115 Ty.tfd115_0 Ty.tfd115_1 Ty.tfd115_2 Ty.tzr115 Ty.tsz121 Ty.tby121 Ty.tag121 Ty.isSl121 Ty.tzr121 Try.underlying121 Ty.tsz125 Ty.tby125 Ty.tag125 Ty.tel125
attribute [go_sem] Ty.isEq47 Ty.isSl125 Ty.tzr125 Ty.tsz139 Ty.tby139 Ty.tag139 Ty.isSl139 Ty.tzr139 Try.underlying139
end Go.SX
