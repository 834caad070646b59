/-
  What the evaluator asks of the program's types.
-/
import Derived.Test.YtagadjpmkggjdaaGreatDoorAbsT
import Derived.Test.YtagadjpmkggjdaaGreatDoorProg
import Derived.KernelRfl
namespace Go.Proofs.YtagadjpmkggjdaaGreatDoor
namespace Abs
@[simp] theorem zr9:zero? Tryz.prog 9=some (.cell (.pv (.sc (.string ⟨#[]⟩)))):=by kernel_rfl
@[simp] theorem ag22:isAgg? Tryz.prog 22=some false:=by kernel_rfl
@[simp] theorem sz22:size? Tryz.prog 22=some 1:=by kernel_rfl
@[simp] theorem el22:elem? Tryz.prog 22=some (28,5,80):=by kernel_rfl
@[simp] theorem ar22:array? Tryz.prog 22=none:=by kernel_rfl
@[simp] theorem ag26:isAgg? Tryz.prog 26=some false:=by kernel_rfl
@[simp] theorem sz26:size? Tryz.prog 26=some 1:=by kernel_rfl
@[simp] theorem el26:elem? Tryz.prog 26=some (9,1,16):=by kernel_rfl
@[simp] theorem ag28:isAgg? Tryz.prog 28=some true:=by kernel_rfl
@[simp] theorem sz28:size? Tryz.prog 28=some 5:=by kernel_rfl
@[simp] theorem zr28:zero? Tryz.prog 28=some (.agg [.pv (.sc (.int .i64 0)),.pv (.sc (.int .i64 0)),.pv (.sc (.string ⟨#[]⟩)),.pv (.sc (.slice none 0 0)),.pv (.sc (.slice none 0 0))]):=by kernel_rfl
@[simp] theorem fd28_3:field? Tryz.prog 28 3=some (3,1,false):=by kernel_rfl
@[simp] theorem fd28_4:field? Tryz.prog 28 4=some (4,1,false):=by kernel_rfl
@[simp] theorem en32:enters Tryz.prog 32=true:=by kernel_rfl
@[simp] theorem en58:enters Tryz.prog 58=true:=by kernel_rfl
@[simp] theorem en59:enters Tryz.prog 59=true:=by kernel_rfl
@[simp] theorem en186:enters Tryz.prog 186=true:=by kernel_rfl
theorem mixed:Tryz.prog.follows .mixedOrders=true:=by kernel_rfl
end Abs
end Go.Proofs.YtagadjpmkggjdaaGreatDoor
