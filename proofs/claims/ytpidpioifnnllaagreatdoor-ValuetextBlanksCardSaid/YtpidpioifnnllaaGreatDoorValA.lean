/-
  Contracts of the reference's functions on values that only read: left, Small, node, check, Check.
-/
import Derived.Test.YtpidpioifnnllaaGreatDoorVal
namespace Go.Proofs.YtpidpioifnnllaaGreatDoor
open Go.RowKit
end Go.Proofs.YtpidpioifnnllaaGreatDoor
