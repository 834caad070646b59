/-
  Contracts of the reference's numbers, in the form that printed proofs use.
-/
import Derived.Test.YtodgepbihbcdbaaGreatDoorCtA
import Derived.Test.YtodgepbihbcdbaaGreatDoorNumRef
import Derived.Test.YtodgepbihbcdbaaGreatDoorNumFmt
namespace Go.Proofs.YtodgepbihbcdbaaGreatDoor
namespace Abs
open Go.RowKit
variable {E : World → Prop} {E0 : Nat} {G : Nat → Option (List PV)}
theorem rParse_g (hb : Base E E0 G) (_he : ∀ w, E w → EnvV w) (s : ByteArray) (r : Int × Int) (h : m_parse s = some r) : Pure E E0 Tryz.prog 135 [.cell (vS s)] (.tup [.cell (vi r.1), .cell (vi r.2)]) := by
  obtain ⟨hf, rfl⟩ := gd_eq h
  exact Pure.of hb fun X w vs hE hv => match vs, hv with
    | [u], ⟨h1, _⟩ => by
      rw [strRep h1]
      exact (rparse_any s w (by unfold maxLen; omega)).mono fun e w' ⟨k1, k2⟩ => ⟨_, k1, by rw [k2]; exact Below.refl _ _, fun X' => ⟨_, rfl, rep_int, rep_int, trivial⟩⟩
theorem rFormat_g (hb : Base E E0 G) (_he : ∀ w, E w → EnvV w) (n : Int) (r : ByteArray) (h : m_format n = some r) : Pure E E0 Tryz.prog 151 [.cell (vi n)] (c1 (vS r)) := by
  obtain ⟨hf, rfl⟩ := gd_eq h
  exact Pure.of hb fun X w vs hE hv => match vs, hv with
    | [u], ⟨h2, _⟩ => by
      rw [intRep h2]
      exact (rformat_all n w hf.1 hf.2).mono fun e w' ⟨k1, k2⟩ => ⟨_, k1, k2, fun X' => one_rep rep_str⟩
end Abs
end Go.Proofs.YtodgepbihbcdbaaGreatDoor
