/-
  Contracts of the reference's numbers, in the form that printed proofs use.
-/
import Derived.Test.YtkffpfapfljinaaGreatDoorCtA
import Derived.Test.YtkffpfapfljinaaGreatDoorNumRef
import Derived.Test.YtkffpfapfljinaaGreatDoorNumFmt
namespace Go.Proofs.YtkffpfapfljinaaGreatDoor
namespace Abs
open Go.RowKit
variable {E : World → Prop} {E0 : Nat} {G : Nat → Option (List PV)}
theorem qte (hb : Base E E0 G) (_he : ∀ w, E w → EnvV w) (s : ByteArray) (r : Int × Int) (h : q5c s = some r) : Pure E E0 Tryz.prog 199 [.cell (vS s)] (.tup [.cell (vi r.1), .cell (vi r.2)]) := by
 obtain ⟨hf, rfl⟩ := q4k h
 exact Pure.of hb fun X w vs hE hv => match vs, hv with
  | [u], ⟨h1, _⟩ => by
   rw [qlq h1]
   exact (quf s w (by unfold maxLen; omega)).mono fun e w' ⟨k1, k2⟩ => ⟨_, k1, by rw [k2]; exact Below.refl _ _, fun X' => ⟨_, rfl, q7g, q7g, trivial⟩⟩
theorem qtc (hb : Base E E0 G) (_he : ∀ w, E w → EnvV w) (n : Int) (r : ByteArray) (h : q78 n = some r) : Pure E E0 Tryz.prog 206 [.cell (vi n)] (c1 (vS r)) := by
 obtain ⟨hf, rfl⟩ := q4k h
 exact Pure.of hb fun X w vs hE hv => match vs, hv with
  | [u], ⟨h2, _⟩ => by
   rw [qdo h2]
   exact (qu3 n w hf.1 hf.2).mono fun e w' ⟨k1, k2⟩ => ⟨_, k1, k2, fun X' => q8q ql4⟩
end Abs
end Go.Proofs.YtkffpfapfljinaaGreatDoor
