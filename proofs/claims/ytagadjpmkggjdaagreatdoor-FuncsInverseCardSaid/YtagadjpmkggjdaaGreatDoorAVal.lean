/-
  Values of the configuration language as the evaluator holds them.
-/
import Derived.Test.YtagadjpmkggjdaaGreatDoorFacts
import Derived.Test.YtagadjpmkggjdaaGreatDoorAbsU
import Derived.Test.YtagadjpmkggjdaaGreatDoorVal
namespace Go.Proofs.YtagadjpmkggjdaaGreatDoor
namespace Abs
open Go.RowKit
@[simp] def strP (s : ByteArray) : PV := .sc (.string s)
mutual
/-- The five cells of a value. -/
def toP : Val → List PV
 | .mk k n s items keys => [.sc (.int .i64 k), .sc (.int .i64 n), .sc (.string s), .sl false items.length (qr items), .sl false keys.length (keys.map strP)]
def qr : List Val → List PV
 | [] => []
 | x :: r => toP x ++ qr r
end
@[simp] theorem qj9 : qr [] = [] := by simp [qr]
theorem qn1 (x : Val) : toP x = [.sc (.int .i64 x.kind), .sc (.int .i64 x.num), .sc (.string x.str), .sl false x.items.length (qr x.items), .sl false x.keys.length (x.keys.map strP)] := by cases x; simp [toP, Val.kind, Val.num, Val.str, Val.items, Val.keys]
@[simp] theorem qb6 (x : Val) (l : List Val) : qr (x :: l) = .sc (.int .i64 x.kind) :: .sc (.int .i64 x.num) :: .sc (.string x.str) :: .sl false x.items.length (qr x.items) :: .sl false x.keys.length (x.keys.map strP) :: qr l := by
 rw [qr, qn1]; rfl
theorem q8b (x : Val) : (toP x).length = 5 := by rw [qn1]; rfl
@[simp] theorem qrf : ∀ l : List Val, (qr l).length = l.length * 5
 | [] => by simp [qr]
 | x :: r => by rw [qr, List.length_append, q8b, qrf r]; simp; omega
theorem qj7 : ∀ a b : List Val, qr (a ++ b) = qr a ++ qr b
 | [], b => by simp [qr]
 | x :: r, b => by rw [List.cons_append, qr, qr, qj7 r b, List.append_assoc]
theorem qee : ∀ (l : List Val) (i : Nat), (qr l).drop (i * 5) = qr (l.drop i)
 | l, 0 => by simp
 | [], i + 1 => by simp [qr]
 | x :: r, i + 1 => by
  rw [qr, show (i + 1) * 5 = (toP x).length + i * 5 by rw [q8b]; omega, List.drop_append, List.drop_succ_cons]
  simp [q8b, qee r i]
def valA (x : Val) : AV := .agg [.pv (.sc (.int .i64 x.kind)), .pv (.sc (.int .i64 x.num)), .pv (.sc (.string x.str)), .pv (.sl false x.items.length (qr x.items)), .pv (.sl false x.keys.length (x.keys.map strP))]
theorem qjb : ∀ (l : List Val) (i : Nat), (qr l).take (i * 5) = qr (l.take i)
 | l, 0 => by simp
 | [], i + 1 => by simp [qr]
 | x :: r, i + 1 => by
  rw [List.take_succ_cons, qr, qr, show (i + 1) * 5 = (toP x).length + i * 5 by rw [q8b]; omega, List.take_append]
  rw [List.take_of_length_le (by rw [q8b]; omega)]
  simp [q8b, qjb r i]
theorem qre {l : List Val} {i : Nat} (h : i < l.length) : (qr l).drop (i * 5) = .sc (.int .i64 l[i].kind) :: .sc (.int .i64 l[i].num) :: .sc (.string l[i].str) :: .sl false l[i].items.length (qr l[i].items) :: .sl false l[i].keys.length (l[i].keys.map strP) :: qr (l.drop (i + 1)) := by
 rw [qee, List.drop_eq_getElem_cons h, qb6]
theorem qj8 {l : List Val} {i : Nat} (h : i < l.length) : ((qr l).map AC.pv).drop (i * 5) = .pv (.sc (.int .i64 l[i].kind)) :: .pv (.sc (.int .i64 l[i].num)) :: .pv (.sc (.string l[i].str)) :: .pv (.sl false l[i].items.length (qr l[i].items)) :: .pv (.sl false l[i].keys.length (l[i].keys.map strP)) :: (qr (l.drop (i + 1))).map AC.pv := by
 rw [← List.map_drop, qre h]; rfl
theorem qja {l : List Val} {i : Nat} (h : i < l.length) (y : Val) : (qr l).take (i * 5) ++ .sc (.int .i64 y.kind) :: .sc (.int .i64 y.num) :: .sc (.string y.str) :: .sl false y.items.length (qr y.items) :: .sl false y.keys.length (y.keys.map strP) :: (qr l).drop (i * 5 + 5) = qr (l.set i y) := by
 rw [List.set_eq_take_append_cons_drop, if_pos h, qj7, qb6, qjb, show i * 5 + 5 = (i + 1) * 5 by omega, qee]
@[simp] theorem kind_mk {k n s l ks} : (Val.mk k n s l ks).kind = k := rfl
@[simp] theorem qy {k n s l ks} : (Val.mk k n s l ks).num = n := rfl
@[simp] theorem qz {k n s l ks} : (Val.mk k n s l ks).str = s := rfl
@[simp] theorem qw {k n s l ks} : (Val.mk k n s l ks).items = l := rfl
@[simp] theorem qx {k n s l ks} : (Val.mk k n s l ks).keys = ks := rfl
end Abs
end Go.Proofs.YtagadjpmkggjdaaGreatDoor
