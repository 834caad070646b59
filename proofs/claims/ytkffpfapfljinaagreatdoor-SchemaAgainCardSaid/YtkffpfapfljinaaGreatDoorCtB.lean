/-
  Contracts of the reference's numbers, in the form that printed proofs use.
-/
import Derived.Test.YtkffpfapfljinaaGreatDoorCtA
import Derived.Test.YtkffpfapfljinaaGreatDoorNumRef
import Derived.Test.YtkffpfapfljinaaGreatDoorNumFmt
namespace Go.Proofs.YtkffpfapfljinaaGreatDoor
namespace Abs
open Go.RowKit
variable {E : World → Prop} {E0 : Nat} {G : Nat → Option (List PV)}
end Abs
end Go.Proofs.YtkffpfapfljinaaGreatDoor
