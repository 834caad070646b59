/-
  slices.Insert of one element, in the form that printed proofs use.
-/
import Derived.Test.YtkffpfapfljinaaGreatDoorInsT
import Derived.Test.YtkffpfapfljinaaGreatDoorFlA
import Derived.Test.YtkffpfapfljinaaGreatDoorCtA
namespace Go.Proofs.YtkffpfapfljinaaGreatDoor
namespace Abs
open Go.RowKit
set_option linter.unusedVariables false
def q5b {α : Type} (by_ : Nat) (xs : List α) (i : Int) (x : α) : Option (List α) := if 0 ≤ i ∧ i ≤ xs.length ∧ (xs.length + 1) * by_ ≤ 140737488355328 then some (insL xs i.toNat x) else none
section
variable {E : World → Prop} {E0 : Nat} {G : Nat → Option (List PV)}
theorem ins_g {α : Type} (F : Fl α) {P : Program} {f : FuncId} {y : Nat} (hy : 0 < y) (R : InsRoads P f F.sz y) (hb : Base E E0 G) {σ : Sto} (id : Nat) (nb full : Bool) (xs : List α) (i : Int) {x : α} {cs : List PV} (hcs : F.f [x] = cs) (ho : σ[id]? = some (some (arO nb F.sz 0 (F.f xs)))) (zs : List α) (h : q5b y xs i x = some zs) :
  Ok E E0 P f [.cell (vO F id xs), .cell (vi i), .cell (.pv (.sl full 1 cs))] σ (c1 (vO F id zs)) (σ.set id (some (arO nb F.sz 0 (F.f zs)))) := by
 unfold q5b at h
 split at h
 ·rename_i hc
  obtain rfl := Option.some.inj h
  subst hcs
  rw [F.one]
  have h1 : xs.length + 1 ≤ (xs.length + 1) * y := Nat.le_mul_of_pos_right _ hy
  have := ins_ok F R hb (full := full) x i.toNat (by omega) hc.2.2 (by omega) ho
  rw [show ((i.toNat : Nat) : Int) = i by omega] at this
  exact this
 ·cases h
theorem quc : InsRoads Tryz.prog 72 3 56 :=
 ⟨qpy, qpx, qpz, qq0⟩
theorem insT_g (hb : Base E E0 G) (_he : ∀ w, E w → EnvV w) {σ : Sto} (id : Nat) (nb full : Bool) (xs : List Ty) (i : Int) {x : Ty} {cs : List PV} (hcs : flT.f [x] = cs) (ho : σ[id]? = some (some (arO nb flT.sz 0 (flT.f xs)))) (zs : List Ty) (h : q5b 56 xs i x = some zs) :
  Ok E E0 Tryz.prog 72 [.cell (vO flT id xs), .cell (vi i), .cell (.pv (.sl full 1 cs))] σ (c1 (vO flT id zs)) (σ.set id (some (arO nb flT.sz 0 (flT.f zs)))) := ins_g flT (by decide) quc hb id nb full xs i hcs ho zs h
theorem qub : InsRoads Tryz.prog 71 1 16 :=
 ⟨qpu, qpt, qpv, qpw⟩
theorem insS_g (hb : Base E E0 G) (_he : ∀ w, E w → EnvV w) {σ : Sto} (id : Nat) (nb full : Bool) (xs : List ByteArray) (i : Int) {x : ByteArray} {cs : List PV} (hcs : flS.f [x] = cs) (ho : σ[id]? = some (some (arO nb flS.sz 0 (flS.f xs)))) (zs : List ByteArray) (h : q5b 16 xs i x = some zs) :
  Ok E E0 Tryz.prog 71 [.cell (vO flS id xs), .cell (vi i), .cell (.pv (.sl full 1 cs))] σ (c1 (vO flS id zs)) (σ.set id (some (arO nb flS.sz 0 (flS.f zs)))) := ins_g flS (by decide) qub hb id nb full xs i hcs ho zs h
end
end Abs
end Go.Proofs.YtkffpfapfljinaaGreatDoor
