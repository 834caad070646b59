/-
  Contracts of the functions of the package provisionref01 that read texts.
-/
import Derived.Test.YtkffpfapfljinaaGreatDoorNumText
namespace Go.Proofs.YtkffpfapfljinaaGreatDoor
open Go.RowKit
end Go.Proofs.YtkffpfapfljinaaGreatDoor
