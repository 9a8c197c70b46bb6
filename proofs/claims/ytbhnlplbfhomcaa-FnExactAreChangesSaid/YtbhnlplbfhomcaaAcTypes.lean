/-
  The types' sizes, fields, zero values. Printed by wip/tools/types.py.
  No condition.
-/
import Derived.Test.YtbhnlplbfhomcaaProg
import Derived.Test.YtbhnlplbfhomcaaSxU
namespace Go.SX.Ty
open Go Go.SX Go.Proofs
set_option maxRecDepth 100000
theorem tsz3 : tsz Try.prog 3 = some 1 := by kernel_rfl
theorem tby3 : tby Try.prog 3 = some 8 := by kernel_rfl
theorem tag3 : tag Try.prog 3 = some false := by kernel_rfl
theorem isSl3 : isSlT Try.prog 3 = false := by kernel_rfl
theorem tzr3 : tzr Try.prog 3 = some [.im (.int .i64 (0))] := by kernel_rfl
theorem tsz4 : tsz Try.prog 4 = some 1 := by kernel_rfl
theorem tby4 : tby Try.prog 4 = some 1 := by kernel_rfl
theorem tag4 : tag Try.prog 4 = some false := by kernel_rfl
theorem isSl4 : isSlT Try.prog 4 = false := by kernel_rfl
theorem isBo4 : isBoT Try.prog 4 = true := by kernel_rfl
theorem tzr4 : tzr Try.prog 4 = some [.im (.bool false)] := by kernel_rfl
theorem tsz9 : tsz Try.prog 9 = some 1 := by kernel_rfl
theorem tby9 : tby Try.prog 9 = some 16 := by kernel_rfl
theorem tag9 : tag Try.prog 9 = some false := by kernel_rfl
theorem isSl9 : isSlT Try.prog 9 = false := by kernel_rfl
theorem isSt9 : isStT Try.prog 9 = true := by kernel_rfl
theorem tzr9 : tzr Try.prog 9 = some [.im (.str ⟨#[]⟩)] := by kernel_rfl
theorem tsz22 : tsz Try.prog 22 = some 1 := by kernel_rfl
theorem tby22 : tby Try.prog 22 = some 24 := by kernel_rfl
theorem tag22 : tag Try.prog 22 = some false := by kernel_rfl
theorem tel22 : tel Try.prog 22 = some 76 := by kernel_rfl
theorem isSl22 : isSlT Try.prog 22 = true := by kernel_rfl
theorem tzr22 : tzr Try.prog 22 = some [.nil] := by kernel_rfl
theorem tsz25 : tsz Try.prog 25 = some 1 := by kernel_rfl
theorem tby25 : tby Try.prog 25 = some 24 := by kernel_rfl
theorem tag25 : tag Try.prog 25 = some false := by kernel_rfl
theorem tel25 : tel Try.prog 25 = some 77 := by kernel_rfl
theorem isSl25 : isSlT Try.prog 25 = true := by kernel_rfl
theorem tzr25 : tzr Try.prog 25 = some [.nil] := by kernel_rfl
theorem tsz76 : tsz Try.prog 76 = some 2 := by kernel_rfl
theorem tby76 : tby Try.prog 76 = some 24 := by kernel_rfl
theorem tag76 : tag Try.prog 76 = some true := by kernel_rfl
theorem isSl76 : isSlT Try.prog 76 = false := by kernel_rfl
theorem tok76 : tok Try.prog 76 = true := by kernel_rfl
theorem tfd76_0 : tfd Try.prog 76 0 = some (0, 3) := by kernel_rfl
theorem tfd76_1 : tfd Try.prog 76 1 = some (1, 9) := by kernel_rfl
theorem tzr76 : tzr Try.prog 76 = some [.im (.int .i64 (0)), .im (.str ⟨#[]⟩)] := by kernel_rfl
theorem tsz77 : tsz Try.prog 77 = some 2 := by kernel_rfl
theorem tby77 : tby Try.prog 77 = some 24 := by kernel_rfl
theorem tag77 : tag Try.prog 77 = some true := by kernel_rfl
theorem isSl77 : isSlT Try.prog 77 = false := by kernel_rfl
theorem tok77 : tok Try.prog 77 = true := by kernel_rfl
theorem tfd77_0 : tfd Try.prog 77 0 = some (0, 3) := by kernel_rfl
theorem tfd77_1 : tfd Try.prog 77 1 = some (1, 9) := by kernel_rfl
theorem tzr77 : tzr Try.prog 77 = some [.im (.int .i64 (0)), .im (.str ⟨#[]⟩)] := by kernel_rfl
theorem tsz81 : tsz Try.prog 81 = some 1 := by kernel_rfl
theorem tby81 : tby Try.prog 81 = some 8 := by kernel_rfl
theorem tag81 : tag Try.prog 81 = some false := by kernel_rfl
theorem isSl81 : isSlT Try.prog 81 = false := by kernel_rfl
theorem tzr81 : tzr Try.prog 81 = some [.im (.raw .nilFunc)] := by kernel_rfl
end Go.SX.Ty
