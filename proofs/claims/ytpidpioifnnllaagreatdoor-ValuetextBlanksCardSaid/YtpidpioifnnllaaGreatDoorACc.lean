/-
  Contracts: the copies of values in each package.
-/
import Derived.Test.YtpidpioifnnllaaGreatDoorACb
import Derived.Test.YtpidpioifnnllaaGreatDoorKnot
import Derived.Test.YtpidpioifnnllaaGreatDoorABr
namespace Go.Proofs.YtpidpioifnnllaaGreatDoor
set_option linter.unusedSimpArgs false
set_option linter.unusedVariables false
namespace Abs
open Go.RowKit
variable {E : World → Prop} {E0 : Nat} {G : Nat → Option (List PV)}
set_option maxRecDepth 100000
set_option maxHeartbeats 1000000
end Abs
end Go.Proofs.YtpidpioifnnllaaGreatDoor
