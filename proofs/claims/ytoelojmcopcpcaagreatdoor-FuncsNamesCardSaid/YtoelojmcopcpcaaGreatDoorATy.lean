/-
  Types of the configuration language as a plain type, and as the evaluator holds them.
-/
import Derived.Test.YtoelojmcopcpcaaGreatDoorAVal
namespace Go.Proofs.YtoelojmcopcpcaaGreatDoor
/-- A type: its kind, the types of its elements, its names. -/
inductive Ty where
  | mk (kind : Int) (elems : List Ty) (names : List ByteArray)
namespace Ty
def kind : Ty → Int | .mk k _ _ => k
def elems : Ty → List Ty | .mk _ l _ => l
def names : Ty → List ByteArray | .mk _ _ l => l
@[simp] theorem kind_mk {k l ks} : (Ty.mk k l ks).kind = k := rfl
@[simp] theorem elems_mk {k l ks} : (Ty.mk k l ks).elems = l := rfl
@[simp] theorem names_mk {k l ks} : (Ty.mk k l ks).names = ks := rfl
theorem ind {p : Ty → Prop} (h : ∀ k elems names, (∀ x ∈ elems, p x) → p (.mk k elems names)) (v : Ty) : p v :=
  Ty.rec (motive_1 := p) (motive_2 := fun l => ∀ x ∈ l, p x) (fun k elems names ih => h k elems names ih) (fun _ hx => absurd hx List.not_mem_nil)
    (fun a l ha hl x hx => by
      rcases List.mem_cons.1 hx with rfl | hx
      · exact ha
      · exact hl x hx) v
end Ty
/-- What lies in memory has sizes that Go's integers hold. -/
inductive Ty.Fits : Ty → Prop
  | mk {k : Int} {elems : List Ty} {names : List ByteArray} : (-9223372036854775808 ≤ k ∧ k ≤ 9223372036854775807) → elems.length * 56 ≤ 140737488351232 → names.length * 16 ≤ 140737488351232 → (∀ t ∈ names, t.size ≤ 140737488351232) → (∀ x ∈ elems, Ty.Fits x) → Ty.Fits (.mk k elems names)
theorem Ty.Fits.parts {x : Ty} (h : x.Fits) : (-9223372036854775808 ≤ x.kind ∧ x.kind ≤ 9223372036854775807) ∧ x.elems.length * 56 ≤ 140737488351232 ∧ x.names.length * 16 ≤ 140737488351232 ∧ (∀ t ∈ x.names, t.size ≤ 140737488351232) ∧ (∀ y ∈ x.elems, y.Fits) := by
  cases h with
  | mk h1 h2 h3 h4 h5 => exact ⟨h1, h2, h3, h4, h5⟩
namespace Abs
open Go.RowKit
mutual
/-- The three cells of a type. -/
def toT : Ty → List PV
  | .mk k elems names => [.sc (.int .i64 k), .sl false elems.length (flatT elems), .sl false names.length (names.map strP)]
def flatT : List Ty → List PV
  | [] => []
  | x :: r => toT x ++ flatT r
end
@[simp] theorem flatT_nil : flatT [] = [] := by simp [flatT]
theorem toT_eq (x : Ty) : toT x = [.sc (.int .i64 x.kind), .sl false x.elems.length (flatT x.elems), .sl false x.names.length (x.names.map strP)] := by cases x; simp [toT]
@[simp] theorem flatT_cons (x : Ty) (l : List Ty) : flatT (x :: l) = .sc (.int .i64 x.kind) :: .sl false x.elems.length (flatT x.elems) :: .sl false x.names.length (x.names.map strP) :: flatT l := by
  rw [flatT, toT_eq]; rfl
theorem toT_len (x : Ty) : (toT x).length = 3 := by rw [toT_eq]; rfl
@[simp] theorem flatT_len : ∀ l : List Ty, (flatT l).length = l.length * 3
  | [] => by simp [flatT]
  | x :: r => by rw [flatT, List.length_append, toT_len, flatT_len r]; simp; omega
theorem flatT_append : ∀ a b : List Ty, flatT (a ++ b) = flatT a ++ flatT b
  | [], b => by simp [flatT]
  | x :: r, b => by rw [List.cons_append, flatT, flatT, flatT_append r b, List.append_assoc]
theorem flatT_drop : ∀ (l : List Ty) (i : Nat), (flatT l).drop (i * 3) = flatT (l.drop i)
  | l, 0 => by simp
  | [], i + 1 => by simp [flatT]
  | x :: r, i + 1 => by
    rw [flatT, show (i + 1) * 3 = (toT x).length + i * 3 by rw [toT_len]; omega, List.drop_append, List.drop_succ_cons]
    simp [toT_len, flatT_drop r i]
theorem flatT_take : ∀ (l : List Ty) (i : Nat), (flatT l).take (i * 3) = flatT (l.take i)
  | l, 0 => by simp
  | [], i + 1 => by simp [flatT]
  | x :: r, i + 1 => by
    rw [List.take_succ_cons, flatT, flatT, show (i + 1) * 3 = (toT x).length + i * 3 by rw [toT_len]; omega, List.take_append]
    rw [List.take_of_length_le (by rw [toT_len]; omega)]
    simp [toT_len, flatT_take r i]
/-- A type as an argument or result. -/
def tyA (x : Ty) : AV := .agg [.pv (.sc (.int .i64 x.kind)), .pv (.sl false x.elems.length (flatT x.elems)), .pv (.sl false x.names.length (x.names.map strP))]
theorem flatT_at {l : List Ty} {i : Nat} (h : i < l.length) : (flatT l).drop (i * 3) = .sc (.int .i64 l[i].kind) :: .sl false l[i].elems.length (flatT l[i].elems) :: .sl false l[i].names.length (l[i].names.map strP) :: flatT (l.drop (i + 1)) := by
  rw [flatT_drop, List.drop_eq_getElem_cons h, flatT_cons]
theorem flatT_at_map {l : List Ty} {i : Nat} (h : i < l.length) : ((flatT l).map AC.pv).drop (i * 3) = .pv (.sc (.int .i64 l[i].kind)) :: .pv (.sl false l[i].elems.length (flatT l[i].elems)) :: .pv (.sl false l[i].names.length (l[i].names.map strP)) :: (flatT (l.drop (i + 1))).map AC.pv := by
  rw [← List.map_drop, flatT_at h]; rfl
/-- One value more. -/
theorem flatP_snoc {l : List Val} {i : Nat} (h : i < l.length) : flatP (l.take i) ++ [.sc (.int .i64 l[i].kind), .sc (.int .i64 l[i].num), .sc (.string l[i].str), .sl false l[i].items.length (flatP l[i].items), .sl false l[i].keys.length (l[i].keys.map strP)] = flatP (l.take (i + 1)) := by
  rw [List.take_succ_eq_append_getElem h, flatP_append, flatP_cons, flatP_nil]
theorem keys_at {l : List ByteArray} {i : Nat} (h : i < l.length) : (l.map strP).drop i = .sc (.string l[i]) :: (l.drop (i + 1)).map strP := by
  rw [← List.map_drop, List.drop_eq_getElem_cons h]; rfl
end Abs
end Go.Proofs.YtoelojmcopcpcaaGreatDoor
