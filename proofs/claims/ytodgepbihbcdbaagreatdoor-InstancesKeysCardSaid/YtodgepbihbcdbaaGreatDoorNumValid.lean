/-
  Contracts of the two functions Valid.
-/
import Derived.Test.YtodgepbihbcdbaaGreatDoorRows
import Derived.Test.YtodgepbihbcdbaaGreatDoorNumPlain
import Derived.WalkKit
import Derived.WalkSpells
import Derived.WalkLawsBesides
import Derived.Lib.Hide
namespace Go.Proofs.YtodgepbihbcdbaaGreatDoor
open Go.RowKit

set_option maxHeartbeats 400000 in
theorem valid_any (n : Int) (w : World) :
    Calls Tryz.prog 89 #[.int .i64 n] w fun e w' => e = .returned (.bool (NumPlain.validB n)) ∧ w = w' := by
  by_cases h1 : -9007199254740992 ≤ n <;> by_cases h2 : n ≤ 9007199254740992
  all_goals
    go_enter Tryz.func89, Tryz.ntmps89
    go_wp2
    go_ret
    exact ⟨by simp [NumPlain.validB, *], rfl⟩

set_option maxHeartbeats 400000 in
theorem rvalid_any (n : Int) (w : World) :
    Calls Tryz.prog 94 #[.int .i64 n] w fun e w' => e = .returned (.bool (NumPlain.validB n)) ∧ w = w' := by
  by_cases h1 : -9007199254740992 ≤ n <;> by_cases h2 : n ≤ 9007199254740992
  all_goals
    go_enter Tryz.func94, Tryz.ntmps94
    go_wp2
    go_ret
    exact ⟨by simp [NumPlain.validB, *], rfl⟩

end Go.Proofs.YtodgepbihbcdbaaGreatDoor
