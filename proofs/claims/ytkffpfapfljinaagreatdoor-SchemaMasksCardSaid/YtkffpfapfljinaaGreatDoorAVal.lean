/-
  Values of the configuration language as the evaluator holds them.
-/
import Derived.Test.YtkffpfapfljinaaGreatDoorFacts
import Derived.Test.YtkffpfapfljinaaGreatDoorAbsU
import Derived.Test.YtkffpfapfljinaaGreatDoorVal
namespace Go.Proofs.YtkffpfapfljinaaGreatDoor
namespace Abs
open Go.RowKit
@[simp] def strP (s : ByteArray) : PV := .sc (.string s)
mutual
/-- The five cells of a value. -/
def toP : Val → List PV
 | .mk k n s items keys => [.sc (.int .i64 k), .sc (.int .i64 n), .sc (.string s), .sl false items.length (qs items), .sl false keys.length (keys.map strP)]
def qs : List Val → List PV
 | [] => []
 | x :: r => toP x ++ qs r
end
@[simp] theorem qp5 : qs [] = [] := by simp [qs]
theorem qm1 (x : Val) : toP x = [.sc (.int .i64 x.kind), .sc (.int .i64 x.num), .sc (.string x.str), .sl false x.items.length (qs x.items), .sl false x.keys.length (x.keys.map strP)] := by cases x; simp [toP, Val.kind, Val.num, Val.str, Val.items, Val.keys]
@[simp] theorem qaf (x : Val) (l : List Val) : qs (x :: l) = .sc (.int .i64 x.kind) :: .sc (.int .i64 x.num) :: .sc (.string x.str) :: .sl false x.items.length (qs x.items) :: .sl false x.keys.length (x.keys.map strP) :: qs l := by
 rw [qs, qm1]; rfl
theorem q7p (x : Val) : (toP x).length = 5 := by rw [qm1]; rfl
@[simp] theorem qp4 : ∀ l : List Val, (qs l).length = l.length * 5
 | [] => by simp [qs]
 | x :: r => by rw [qs, List.length_append, q7p, qp4 r]; simp; omega
theorem qi6 : ∀ a b : List Val, qs (a ++ b) = qs a ++ qs b
 | [], b => by simp [qs]
 | x :: r, b => by rw [List.cons_append, qs, qs, qi6 r b, List.append_assoc]
theorem qdd : ∀ (l : List Val) (i : Nat), (qs l).drop (i * 5) = qs (l.drop i)
 | l, 0 => by simp
 | [], i + 1 => by simp [qs]
 | x :: r, i + 1 => by
  rw [qs, show (i + 1) * 5 = (toP x).length + i * 5 by rw [q7p]; omega, List.drop_append, List.drop_succ_cons]
  simp [q7p, qdd r i]
def valA (x : Val) : AV := .agg [.pv (.sc (.int .i64 x.kind)), .pv (.sc (.int .i64 x.num)), .pv (.sc (.string x.str)), .pv (.sl false x.items.length (qs x.items)), .pv (.sl false x.keys.length (x.keys.map strP))]
theorem qi9 : ∀ (l : List Val) (i : Nat), (qs l).take (i * 5) = qs (l.take i)
 | l, 0 => by simp
 | [], i + 1 => by simp [qs]
 | x :: r, i + 1 => by
  rw [List.take_succ_cons, qs, qs, show (i + 1) * 5 = (toP x).length + i * 5 by rw [q7p]; omega, List.take_append]
  rw [List.take_of_length_le (by rw [q7p]; omega)]
  simp [q7p, qi9 r i]
theorem qp3 {l : List Val} {i : Nat} (h : i < l.length) : (qs l).drop (i * 5) = .sc (.int .i64 l[i].kind) :: .sc (.int .i64 l[i].num) :: .sc (.string l[i].str) :: .sl false l[i].items.length (qs l[i].items) :: .sl false l[i].keys.length (l[i].keys.map strP) :: qs (l.drop (i + 1)) := by
 rw [qdd, List.drop_eq_getElem_cons h, qaf]
theorem qi7 {l : List Val} {i : Nat} (h : i < l.length) : ((qs l).map AC.pv).drop (i * 5) = .pv (.sc (.int .i64 l[i].kind)) :: .pv (.sc (.int .i64 l[i].num)) :: .pv (.sc (.string l[i].str)) :: .pv (.sl false l[i].items.length (qs l[i].items)) :: .pv (.sl false l[i].keys.length (l[i].keys.map strP)) :: (qs (l.drop (i + 1))).map AC.pv := by
 rw [← List.map_drop, qp3 h]; rfl
theorem qi8 {l : List Val} {i : Nat} (h : i < l.length) (y : Val) : (qs l).take (i * 5) ++ .sc (.int .i64 y.kind) :: .sc (.int .i64 y.num) :: .sc (.string y.str) :: .sl false y.items.length (qs y.items) :: .sl false y.keys.length (y.keys.map strP) :: (qs l).drop (i * 5 + 5) = qs (l.set i y) := by
 rw [List.set_eq_take_append_cons_drop, if_pos h, qi6, qaf, qi9, show i * 5 + 5 = (i + 1) * 5 by omega, qdd]
@[simp] theorem kind_mk {k n s l ks} : (Val.mk k n s l ks).kind = k := rfl
@[simp] theorem qk6 {k n s l ks} : (Val.mk k n s l ks).num = n := rfl
@[simp] theorem qlr {k n s l ks} : (Val.mk k n s l ks).str = s := rfl
@[simp] theorem qj0 {k n s l ks} : (Val.mk k n s l ks).items = l := rfl
@[simp] theorem qj5 {k n s l ks} : (Val.mk k n s l ks).keys = ks := rfl
end Abs
end Go.Proofs.YtkffpfapfljinaaGreatDoor
