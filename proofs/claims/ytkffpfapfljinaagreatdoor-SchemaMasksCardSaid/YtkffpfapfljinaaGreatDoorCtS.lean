/-
  slices.SortFunc of strings by strings.Compare.
-/
import Derived.Test.YtkffpfapfljinaaGreatDoorFlA
import Derived.Test.YtkffpfapfljinaaGreatDoorValD
import Derived.Test.YtkffpfapfljinaaGreatDoorAbsS
import Derived.Test.YtkffpfapfljinaaGreatDoorABr
import Derived.Test.YtkffpfapfljinaaGreatDoorShelf
namespace Go.Proofs.YtkffpfapfljinaaGreatDoor
namespace Abs
open Go.RowKit Go.Lib Go.Sort
set_option linter.unusedVariables false
set_option linter.unusedSimpArgs false
theorem qjt (x y : UInt8) (h : ¬ x < y) (h' : ¬ y < x) : x = y := UInt8.le_antisymm (UInt8.not_lt.1 h') (UInt8.not_lt.1 h)
theorem ltC : ∀ a b : List UInt8, decide (compareBytes a b < 0) = Op.bytesLess a b
 | [], [] => rfl
 | [], _ :: _ => by simp [compareBytes, Op.bytesLess]
 | _ :: _, [] => by simp [compareBytes, Op.bytesLess]
 | x :: a, y :: b => by
  unfold compareBytes Op.bytesLess
  by_cases h : x < y
  ·simp [h]
  ·by_cases h' : y < x
   ·have hne : ¬ x = y := fun e => by subst e; exact h h'
    simp [h, h', hne]
   ·obtain rfl := qjt x y h h'
    rw [if_neg h, if_neg h]
    simp [h, ltC a b]
theorem qgy : ∀ l : List UInt8, Op.bytesLess l l = false
 | [] => rfl
 | x :: r => by simp [Op.bytesLess, qgy r, UInt8.lt_irrefl]
theorem qcj : ∀ {a b c : List UInt8}, Op.bytesLess a b = true → Op.bytesLess b c = true → Op.bytesLess a c = true
 | [], [], _, h, _ => by simp [Op.bytesLess] at h
 | _ :: _, [], _, h, _ => by simp [Op.bytesLess] at h
 | _, _ :: _, [], _, h => by simp [Op.bytesLess] at h
 | [], _ :: _, _ :: _, _, _ => by simp [Op.bytesLess]
 | x :: a, y :: b, z :: c, h, k => by
  simp only [Op.bytesLess, Bool.or_eq_true, Bool.and_eq_true, decide_eq_true_eq, beq_iff_eq] at h k ⊢
  rcases h with h | ⟨rfl, h⟩
  ·rcases k with k | ⟨rfl, k⟩
   ·exact .inl (UInt8.lt_trans h k)
   ·exact .inl h
  ·rcases k with k | ⟨rfl, k⟩
   ·exact .inl k
   ·exact .inr ⟨rfl, qcj h k⟩
theorem qci : ∀ {a b : List UInt8}, Op.bytesLess a b = false → Op.bytesLess b a = false → a = b
 | [], [], _, _ => rfl
 | [], _ :: _, h, _ => by simp [Op.bytesLess] at h
 | _ :: _, [], _, h => by simp [Op.bytesLess] at h
 | x :: a, y :: b, h, k => by
  simp only [Op.bytesLess, Bool.or_eq_false_iff, Bool.and_eq_false_iff, decide_eq_false_iff_not, beq_eq_false_iff_ne] at h k
  obtain rfl := qjt x y h.1 k.1
  rw [qci (h.2.resolve_left fun k => k rfl) (k.2.resolve_left fun k => k rfl)]
theorem qnl {a b c : List UInt8} (h : Op.bytesLess a b = false) (k : Op.bytesLess b c = false) : Op.bytesLess a c = false := by
 cases e : Op.bytesLess a c with
 | false => rfl
 | true =>
  cases e2 : Op.bytesLess b a with
  | true => rw [qcj e2 e] at k; cases k
  | false => rw [qci h e2] at e; rw [e] at k; cases k
def cmpS (a b : ByteArray) : Int := compareBytes a.data.toList b.data.toList
theorem ltS (a b : ByteArray) : ltOf cmpS a b = Op.bytesLess a.toList b.toList := by
 unfold ltOf cmpS
 rw [ltC, ByteArray.toList_eq, ByteArray.toList_eq]
theorem swoS : SWO (ltOf cmpS) where
 irrefl x := by rw [ltS]; exact qgy _
 trans x y z h k := by rw [ltS] at *; exact qcj h k
 ntrans x y z h k := by rw [ltS] at *; exact qnl h k
section
variable {E : World → Prop} {E0 : Nat} {G : Nat → Option (List PV)}
end
end Abs
end Go.Proofs.YtkffpfapfljinaaGreatDoor
