/-
  Contracts of the five operations on numbers, in the form that printed proofs use.
-/
import Derived.Test.YtjfcgdablmjmnaaGreatDoorCtB
import Derived.Test.YtjfcgdablmjmnaaGreatDoorNumWalks
namespace Go.Proofs.YtjfcgdablmjmnaaGreatDoor
namespace Abs
open Go.RowKit
variable {E : World → Prop} {E0 : Nat} {G : Nat → Option (List PV)}
theorem two_of (hb : Base E E0 G) {f : FuncId} {a b : Int} {q : Int × Int} (h : ∀ w, Calls Tryz.prog f #[.int .i64 a, .int .i64 b] w fun e w' => e = .returned (.tuple #[.int .i64 q.1, .int .i64 q.2]) ∧ w = w') :
    Pure E E0 Tryz.prog f [intA a, intA b] (.tup [intA q.1, intA q.2]) :=
  Pure.of hb fun X w vs hE hv => match vs, hv with
    | [u, v], ⟨h1, h2, _⟩ => by
      rw [intRep h1, intRep h2]
      exact (h w).mono fun e w' ⟨k1, k2⟩ => ⟨_, k1, k2 ▸ Below.refl _ _, fun X' => ⟨_, rfl, rep_int, rep_int, trivial⟩⟩
def m_add (a b : Int) : Option (Int × Int) := some (NumPlain.add a b)
theorem nAdd_g (hb : Base E E0 G) (_he : ∀ w, E w → EnvV w) (a b : Int) (r : Int × Int) (h : m_add a b = some r) : Pure E E0 Tryz.prog 90 [.cell (vi a), .cell (vi b)] (.tup [.cell (vi r.1), .cell (vi r.2)]) := by
  obtain rfl : NumPlain.add a b = r := Option.some.inj h
  exact two_of hb fun w => add_any a b w
theorem rAdd_g (hb : Base E E0 G) (_he : ∀ w, E w → EnvV w) (a b : Int) (r : Int × Int) (h : m_add a b = some r) : Pure E E0 Tryz.prog 102 [.cell (vi a), .cell (vi b)] (.tup [.cell (vi r.1), .cell (vi r.2)]) := by
  obtain rfl : NumPlain.add a b = r := Option.some.inj h
  exact two_of hb fun w => radd_any a b w
def m_sub (a b : Int) : Option (Int × Int) := some (NumPlain.sub a b)
theorem nSub_g (hb : Base E E0 G) (_he : ∀ w, E w → EnvV w) (a b : Int) (r : Int × Int) (h : m_sub a b = some r) : Pure E E0 Tryz.prog 91 [.cell (vi a), .cell (vi b)] (.tup [.cell (vi r.1), .cell (vi r.2)]) := by
  obtain rfl : NumPlain.sub a b = r := Option.some.inj h
  exact two_of hb fun w => sub_any a b w
theorem rSub_g (hb : Base E E0 G) (_he : ∀ w, E w → EnvV w) (a b : Int) (r : Int × Int) (h : m_sub a b = some r) : Pure E E0 Tryz.prog 103 [.cell (vi a), .cell (vi b)] (.tup [.cell (vi r.1), .cell (vi r.2)]) := by
  obtain rfl : NumPlain.sub a b = r := Option.some.inj h
  exact two_of hb fun w => rsub_any a b w
def m_mul (a b : Int) : Option (Int × Int) := some (NumPlain.mul a b)
theorem nMul_g (hb : Base E E0 G) (_he : ∀ w, E w → EnvV w) (a b : Int) (r : Int × Int) (h : m_mul a b = some r) : Pure E E0 Tryz.prog 92 [.cell (vi a), .cell (vi b)] (.tup [.cell (vi r.1), .cell (vi r.2)]) := by
  obtain rfl : NumPlain.mul a b = r := Option.some.inj h
  exact two_of hb fun w => mul_any a b w
theorem rMul_g (hb : Base E E0 G) (_he : ∀ w, E w → EnvV w) (a b : Int) (r : Int × Int) (h : m_mul a b = some r) : Pure E E0 Tryz.prog 104 [.cell (vi a), .cell (vi b)] (.tup [.cell (vi r.1), .cell (vi r.2)]) := by
  obtain rfl : NumPlain.mul a b = r := Option.some.inj h
  exact two_of hb fun w => rmul_any a b w
def m_div (a b : Int) : Option (Int × Int) := some (NumPlain.div a b)
theorem nDiv_g (hb : Base E E0 G) (_he : ∀ w, E w → EnvV w) (a b : Int) (r : Int × Int) (h : m_div a b = some r) : Pure E E0 Tryz.prog 93 [.cell (vi a), .cell (vi b)] (.tup [.cell (vi r.1), .cell (vi r.2)]) := by
  obtain rfl : NumPlain.div a b = r := Option.some.inj h
  exact two_of hb fun w => div_any a b w
theorem rDiv_g (hb : Base E E0 G) (_he : ∀ w, E w → EnvV w) (a b : Int) (r : Int × Int) (h : m_div a b = some r) : Pure E E0 Tryz.prog 105 [.cell (vi a), .cell (vi b)] (.tup [.cell (vi r.1), .cell (vi r.2)]) := by
  obtain rfl : NumPlain.div a b = r := Option.some.inj h
  exact two_of hb fun w => rdiv_any a b w
def m_mod (a b : Int) : Option (Int × Int) := some (NumPlain.mod a b)
theorem nMod_g (hb : Base E E0 G) (_he : ∀ w, E w → EnvV w) (a b : Int) (r : Int × Int) (h : m_mod a b = some r) : Pure E E0 Tryz.prog 94 [.cell (vi a), .cell (vi b)] (.tup [.cell (vi r.1), .cell (vi r.2)]) := by
  obtain rfl : NumPlain.mod a b = r := Option.some.inj h
  exact two_of hb fun w => mod_any a b w
theorem rMod_g (hb : Base E E0 G) (_he : ∀ w, E w → EnvV w) (a b : Int) (r : Int × Int) (h : m_mod a b = some r) : Pure E E0 Tryz.prog 106 [.cell (vi a), .cell (vi b)] (.tup [.cell (vi r.1), .cell (vi r.2)]) := by
  obtain rfl : NumPlain.mod a b = r := Option.some.inj h
  exact two_of hb fun w => rmod_any a b w
end Abs
end Go.Proofs.YtjfcgdablmjmnaaGreatDoor
