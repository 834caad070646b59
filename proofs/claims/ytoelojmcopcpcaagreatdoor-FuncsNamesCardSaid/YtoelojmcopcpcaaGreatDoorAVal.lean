/-
  Values of the configuration language as the evaluator holds them.
-/
import Derived.Test.YtoelojmcopcpcaaGreatDoorFacts
import Derived.Test.YtoelojmcopcpcaaGreatDoorAbsU
import Derived.Test.YtoelojmcopcpcaaGreatDoorVal
namespace Go.Proofs.YtoelojmcopcpcaaGreatDoor
namespace Abs
open Go.RowKit

@[simp] def strP (s : ByteArray) : PV := .sc (.string s)
mutual
/-- The five cells of a value. -/
def toP : Val → List PV
  | .mk k n s items keys => [.sc (.int .i64 k), .sc (.int .i64 n), .sc (.string s), .sl false items.length (flatP items), .sl false keys.length (keys.map strP)]
def flatP : List Val → List PV
  | [] => []
  | x :: r => toP x ++ flatP r
end
@[simp] theorem flatP_nil : flatP [] = [] := by simp [flatP]
theorem toP_eq (x : Val) : toP x = [.sc (.int .i64 x.kind), .sc (.int .i64 x.num), .sc (.string x.str), .sl false x.items.length (flatP x.items), .sl false x.keys.length (x.keys.map strP)] := by cases x; simp [toP, Val.kind, Val.num, Val.str, Val.items, Val.keys]
@[simp] theorem flatP_cons (x : Val) (l : List Val) : flatP (x :: l) = .sc (.int .i64 x.kind) :: .sc (.int .i64 x.num) :: .sc (.string x.str) :: .sl false x.items.length (flatP x.items) :: .sl false x.keys.length (x.keys.map strP) :: flatP l := by
  rw [flatP, toP_eq]; rfl
theorem toP_len (x : Val) : (toP x).length = 5 := by rw [toP_eq]; rfl
@[simp] theorem flatP_len : ∀ l : List Val, (flatP l).length = l.length * 5
  | [] => by simp [flatP]
  | x :: r => by rw [flatP, List.length_append, toP_len, flatP_len r]; simp; omega
theorem flatP_append : ∀ a b : List Val, flatP (a ++ b) = flatP a ++ flatP b
  | [], b => by simp [flatP]
  | x :: r, b => by rw [List.cons_append, flatP, flatP, flatP_append r b, List.append_assoc]
theorem flatP_drop : ∀ (l : List Val) (i : Nat), (flatP l).drop (i * 5) = flatP (l.drop i)
  | l, 0 => by simp
  | [], i + 1 => by simp [flatP]
  | x :: r, i + 1 => by
    rw [flatP, show (i + 1) * 5 = (toP x).length + i * 5 by rw [toP_len]; omega, List.drop_append, List.drop_succ_cons]
    simp [toP_len, flatP_drop r i]
/-- A value as an argument or result. -/
def valA (x : Val) : AV := .agg [.pv (.sc (.int .i64 x.kind)), .pv (.sc (.int .i64 x.num)), .pv (.sc (.string x.str)), .pv (.sl false x.items.length (flatP x.items)), .pv (.sl false x.keys.length (x.keys.map strP))]
theorem flatP_take : ∀ (l : List Val) (i : Nat), (flatP l).take (i * 5) = flatP (l.take i)
  | l, 0 => by simp
  | [], i + 1 => by simp [flatP]
  | x :: r, i + 1 => by
    rw [List.take_succ_cons, flatP, flatP, show (i + 1) * 5 = (toP x).length + i * 5 by rw [toP_len]; omega, List.take_append]
    rw [List.take_of_length_le (by rw [toP_len]; omega)]
    simp [toP_len, flatP_take r i]
/-- An item of a list that is read whole. -/
theorem flatP_at {l : List Val} {i : Nat} (h : i < l.length) : (flatP l).drop (i * 5) = .sc (.int .i64 l[i].kind) :: .sc (.int .i64 l[i].num) :: .sc (.string l[i].str) :: .sl false l[i].items.length (flatP l[i].items) :: .sl false l[i].keys.length (l[i].keys.map strP) :: flatP (l.drop (i + 1)) := by
  rw [flatP_drop, List.drop_eq_getElem_cons h, flatP_cons]
theorem flatP_at_map {l : List Val} {i : Nat} (h : i < l.length) : ((flatP l).map AC.pv).drop (i * 5) = .pv (.sc (.int .i64 l[i].kind)) :: .pv (.sc (.int .i64 l[i].num)) :: .pv (.sc (.string l[i].str)) :: .pv (.sl false l[i].items.length (flatP l[i].items)) :: .pv (.sl false l[i].keys.length (l[i].keys.map strP)) :: (flatP (l.drop (i + 1))).map AC.pv := by
  rw [← List.map_drop, flatP_at h]; rfl
theorem flatP_set {l : List Val} {i : Nat} (h : i < l.length) (y : Val) : (flatP l).take (i * 5) ++ .sc (.int .i64 y.kind) :: .sc (.int .i64 y.num) :: .sc (.string y.str) :: .sl false y.items.length (flatP y.items) :: .sl false y.keys.length (y.keys.map strP) :: (flatP l).drop (i * 5 + 5) = flatP (l.set i y) := by
  rw [List.set_eq_take_append_cons_drop, if_pos h, flatP_append, flatP_cons, flatP_take, show i * 5 + 5 = (i + 1) * 5 by omega, flatP_drop]
@[simp] theorem kind_mk {k n s l ks} : (Val.mk k n s l ks).kind = k := rfl
@[simp] theorem num_mk {k n s l ks} : (Val.mk k n s l ks).num = n := rfl
@[simp] theorem str_mk {k n s l ks} : (Val.mk k n s l ks).str = s := rfl
@[simp] theorem items_mk {k n s l ks} : (Val.mk k n s l ks).items = l := rfl
@[simp] theorem keys_mk {k n s l ks} : (Val.mk k n s l ks).keys = ks := rfl
end Abs
end Go.Proofs.YtoelojmcopcpcaaGreatDoor
