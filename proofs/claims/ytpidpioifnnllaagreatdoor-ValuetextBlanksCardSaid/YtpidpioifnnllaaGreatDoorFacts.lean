/-
  What the evaluator asks of the program's types.
-/
import Derived.Test.YtpidpioifnnllaaGreatDoorAbsT
import Derived.Test.YtpidpioifnnllaaGreatDoorProg
import Derived.KernelRfl
namespace Go.Proofs.YtpidpioifnnllaaGreatDoor
namespace Abs
@[simp] theorem zr9:zero? Tryz.prog 9=some (.cell (.pv (.sc (.string ⟨#[]⟩)))):=by kernel_rfl
@[simp] theorem el24:elem? Tryz.prog 24=some (9,1,16):=by kernel_rfl
theorem mixed:Tryz.prog.follows .mixedOrders=true:=by kernel_rfl
end Abs
end Go.Proofs.YtpidpioifnnllaaGreatDoor
