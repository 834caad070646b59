/-
  What the evaluator asks of the program's types.
-/
import Derived.Test.YtkffpfapfljinaaGreatDoorAbsT
import Derived.Test.YtkffpfapfljinaaGreatDoorProg
import Derived.KernelRfl
namespace Go.Proofs.YtkffpfapfljinaaGreatDoor
namespace Abs
@[simp] theorem zr9 : zero? Tryz.prog 9 = some (.cell (.pv (.sc (.string ⟨#[]⟩)))) := by kernel_rfl
@[simp] theorem ag31 : isAgg? Tryz.prog 31 = some false := by kernel_rfl
@[simp] theorem sz31 : size? Tryz.prog 31 = some 1 := by kernel_rfl
@[simp] theorem el31 : elem? Tryz.prog 31 = some (34, 5, 80) := by kernel_rfl
@[simp] theorem ar31 : array? Tryz.prog 31 = none := by kernel_rfl
@[simp] theorem ag32 : isAgg? Tryz.prog 32 = some false := by kernel_rfl
@[simp] theorem sz32 : size? Tryz.prog 32 = some 1 := by kernel_rfl
@[simp] theorem el32 : elem? Tryz.prog 32 = some (9, 1, 16) := by kernel_rfl
@[simp] theorem ag34 : isAgg? Tryz.prog 34 = some true := by kernel_rfl
@[simp] theorem sz34 : size? Tryz.prog 34 = some 5 := by kernel_rfl
@[simp] theorem zr34 : zero? Tryz.prog 34 = some (.agg [.pv (.sc (.int .i64 0)), .pv (.sc (.int .i64 0)), .pv (.sc (.string ⟨#[]⟩)), .pv (.sc (.slice none 0 0)), .pv (.sc (.slice none 0 0))]) := by kernel_rfl
@[simp] theorem el44 : elem? Tryz.prog 44 = some (46, 3, 56) := by kernel_rfl
@[simp] theorem zr46 : zero? Tryz.prog 46 = some (.agg [.pv (.sc (.int .i64 0)), .pv (.sc (.slice none 0 0)), .pv (.sc (.slice none 0 0))]) := by kernel_rfl
@[simp] theorem fd34_3 : field? Tryz.prog 34 3 = some (3, 1, false) := by kernel_rfl
@[simp] theorem fd34_4 : field? Tryz.prog 34 4 = some (4, 1, false) := by kernel_rfl
@[simp] theorem en89 : enters Tryz.prog 89 = true := by kernel_rfl
@[simp] theorem en126 : enters Tryz.prog 126 = true := by kernel_rfl
@[simp] theorem en128 : enters Tryz.prog 128 = true := by kernel_rfl
@[simp] theorem en153 : enters Tryz.prog 153 = true := by kernel_rfl
theorem mixed : Tryz.prog.follows .mixedOrders = true := by kernel_rfl
end Abs
end Go.Proofs.YtkffpfapfljinaaGreatDoor
