/-
  Contracts of the two functions Format: of number and of the reference.
-/
import Derived.Test.YtkffpfapfljinaaGreatDoorNumText
namespace Go.Proofs.YtkffpfapfljinaaGreatDoor
open Go.RowKit
end Go.Proofs.YtkffpfapfljinaaGreatDoor
