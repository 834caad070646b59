/-
  Contracts of the two functions Valid.
-/
import Derived.Test.YtkffpfapfljinaaGreatDoorRows
import Derived.Test.YtkffpfapfljinaaGreatDoorNumPlain
import Derived.WalkKit
import Derived.WalkSpells
import Derived.WalkLawsBesides
import Derived.Lib.Hide
namespace Go.Proofs.YtkffpfapfljinaaGreatDoor
open Go.RowKit
set_option maxHeartbeats 400000 in
theorem qbx (n : Int) (w : World) :
  Calls Tryz.prog 123 #[.int .i64 n] w fun e w' => e = .returned (.bool (NumPlain.validB n)) ∧ w = w' := by
 by_cases h1 : -9007199254740992 ≤ n <;> by_cases h2 : n ≤ 9007199254740992
 all_goals
  go_enter Tryz.func123, Tryz.ntmps123
  go_wp2
  go_ret
  exact ⟨by simp [NumPlain.validB, *], rfl⟩
set_option maxHeartbeats 400000 in
theorem q3q (n : Int) (w : World) :
  Calls Tryz.prog 172 #[.int .i64 n] w fun e w' => e = .returned (.bool (NumPlain.validB n)) ∧ w = w' := by
 by_cases h1 : -9007199254740992 ≤ n <;> by_cases h2 : n ≤ 9007199254740992
 all_goals
  go_enter Tryz.func172, Tryz.ntmps172
  go_wp2
  go_ret
  exact ⟨by simp [NumPlain.validB, *], rfl⟩
end Go.Proofs.YtkffpfapfljinaaGreatDoor
