/-
  A configuration that is coerced is coerced to itself, and conforms to the type of its schema.
-/
import Derived.Test.YtkffpfapfljinaaGreatDoorPlN
namespace Go.Proofs.YtkffpfapfljinaaGreatDoor
set_option linter.unusedSimpArgs false
set_option linter.unusedVariables false
namespace Abs
open Go.RowKit
structure Kasc (n : NestedG) : Prop extends Kfit n where
 ra : n.attrs.Pairwise fun a b => Op.bytesLess a.name.toList b.name.toList = true
theorem SVal.kasc {s : SchemaG} (h : SVal s) : ∀ n ∈ s.nested, Kasc n := fun n hn => by
 obtain ⟨i, hi⟩ := List.getElem?_of_mem hn
 exact { toKfit := h.kfit n hn, ra := (h.ok.kinds i n hi).attrs.2 }
end Abs
end Go.Proofs.YtkffpfapfljinaaGreatDoor
