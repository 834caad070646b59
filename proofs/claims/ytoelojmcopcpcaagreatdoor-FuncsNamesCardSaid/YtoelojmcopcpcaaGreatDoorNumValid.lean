/-
  Contracts of the two functions Valid.
-/
import Derived.Test.YtoelojmcopcpcaaGreatDoorRows
import Derived.Test.YtoelojmcopcpcaaGreatDoorNumPlain
import Derived.WalkKit
import Derived.WalkSpells
import Derived.WalkLawsBesides
import Derived.Lib.Hide
namespace Go.Proofs.YtoelojmcopcpcaaGreatDoor
open Go.RowKit

set_option maxHeartbeats 400000 in
theorem valid_any (n : Int) (w : World) :
    Calls Tryz.prog 67 #[.int .i64 n] w fun e w' => e = .returned (.bool (NumPlain.validB n)) ∧ w = w' := by
  by_cases h1 : -9007199254740992 ≤ n <;> by_cases h2 : n ≤ 9007199254740992
  all_goals
    go_enter Tryz.func67, Tryz.ntmps67
    go_wp2
    go_ret
    exact ⟨by simp [NumPlain.validB, *], rfl⟩

end Go.Proofs.YtoelojmcopcpcaaGreatDoor
