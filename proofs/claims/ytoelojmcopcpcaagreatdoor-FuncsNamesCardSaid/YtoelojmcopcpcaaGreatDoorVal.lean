/-
  Values of the configuration language as a plain type, and what it means that a Go value holds one in memory.
-/
import Derived.Test.YtoelojmcopcpcaaGreatDoorRows
import Derived.WalkKit
import Derived.WalkSpells
import Derived.WalkLawsBesides
import Derived.Lib.Hide
import Derived.Lib.IndexBytes
namespace Go.Proofs.YtoelojmcopcpcaaGreatDoor
open Go.RowKit

/-- A value: its kind, number, string, items and keys. -/
inductive Val where
  | mk (kind num : Int) (str : ByteArray) (items : List Val) (keys : List ByteArray)

namespace Val
def kind : Val → Int | .mk k _ _ _ _ => k
def num : Val → Int | .mk _ n _ _ _ => n
def str : Val → ByteArray | .mk _ _ s _ _ => s
def items : Val → List Val | .mk _ _ _ l _ => l
def keys : Val → List ByteArray | .mk _ _ _ _ l => l
theorem ind {p : Val → Prop} (h : ∀ k n s items keys, (∀ x ∈ items, p x) → p (.mk k n s items keys)) (v : Val) : p v :=
  Val.rec (motive_1 := p) (motive_2 := fun l => ∀ x ∈ l, p x) (fun k n s items keys ih => h k n s items keys ih) (fun _ hx => absurd hx List.not_mem_nil)
    (fun a l ha hl x hx => by
      rcases List.mem_cons.1 hx with rfl | hx
      · exact ha
      · exact hl x hx) v
end Val

/-- The strings l lie in memory from an address on. -/
def KeysAt (w : World) (b off : Nat) : List ByteArray → Prop
  | [] => True
  | s :: r => w.cell? ⟨b, off, none⟩ = some (.string s) ∧ KeysAt w b (off + 1) r
/-- A slice of strings. -/
def IsKeys (w : World) (v : Value) (l : List ByteArray) : Prop :=
  ∃ a cap, v = .slice a l.length cap ∧ l.length ≤ cap ∧ (l = [] ∨ ∃ b off, a = some ⟨b, off, none⟩ ∧ KeysAt w b off l)

mutual
/-- The Go value v holds the value x in the world w. -/
def IsVal (w : World) : Value → Val → Prop
  | v, .mk k n s items keys => ∃ vi vk, v = .agg #[.int .i64 k, .int .i64 n, .string s, vi, vk] ∧ IsKeys w vk keys ∧
      ∃ a cap, vi = .slice a items.length cap ∧ items.length ≤ cap ∧ (items = [] ∨ ∃ b off, a = some ⟨b, off, none⟩ ∧ ItemsAt w b off items)
/-- The values l lie in memory from an address on, five cells each. -/
def ItemsAt (w : World) : Nat → Nat → List Val → Prop
  | _, _, [] => True
  | b, off, x :: r => (∃ v0 v1 v2 v3 v4, w.cell? ⟨b, off, none⟩ = some v0 ∧ w.cell? ⟨b, off + 1, none⟩ = some v1 ∧ w.cell? ⟨b, off + 2, none⟩ = some v2 ∧ w.cell? ⟨b, off + 3, none⟩ = some v3 ∧ w.cell? ⟨b, off + 4, none⟩ = some v4 ∧ IsVal w (.agg #[v0, v1, v2, v3, v4]) x) ∧ ItemsAt w b (off + 5) r
end

/-! ### Memory -/
theorem below_then {w w1 w2 : World} (h : Below w.heap.size w w1) (k : Below w1.heap.size w1 w2) : Below w.heap.size w w2 := h.trans (k.mono h.size)
theorem below_box {w w2 : World} {o : Obj} (k : Below (w.alloc o).heap.size (w.alloc o) w2) : Below w.heap.size w w2 := ((Below.refl _ w).alloc (Nat.le_refl _) o).trans (k.mono (by simp))
theorem box_at (w : World) (o : Obj) : (w.alloc o).heap[w.heap.size]? = some o := by
  show (w.heap.push o)[w.heap.size]? = _
  simp
theorem box_below {w w2 : World} {o : Obj} (k : Below (w.alloc o).heap.size (w.alloc o) w2) : w2.heap[w.heap.size]? = some o := (k.block _ (by simp)).trans (box_at w o)
theorem lt_block {w : World} {b : Nat} {o : Obj} (h : w.heap[b]? = some o) : b < w.heap.size := by
  rcases Nat.lt_or_ge b w.heap.size with h' | h'
  · exact h'
  · simp [Array.getElem?_eq_none h'] at h
theorem block_below {w w2 : World} {b : Nat} {o : Obj} (k : Below w.heap.size w w2) (h : w.heap[b]? = some o) : w2.heap[b]? = some o := (k.block _ (lt_block h)).trans h
theorem cell_in {w : World} {b : Nat} {cs : Array Value} {t : TypeId} {f : Nat × Nat} (h : w.heap[b]? = some (.cells cs t f)) (j : Nat) : w.cell? ⟨b, j, none⟩ = cs[j]? := by simp [World.cell?, h]
theorem free_in {w : World} {b : Nat} {cs : Array Value} {t : TypeId} (h : w.heap[b]? = some (.cells cs t (0, 0))) (j : Nat) : w.frozen? ⟨b, j, none⟩ = false := by simp [World.frozen?, h]
theorem cell_keep {w w2 : World} (k : Below w.heap.size w w2) {a : Addr} {v : Value} (h : w.cell? a = some v) : w2.cell? a = some v := by
  have : a.block < w.heap.size := by
    rcases Nat.lt_or_ge a.block w.heap.size with h' | h'
    · exact h'
    · simp [World.cell?, Array.getElem?_eq_none h'] at h
  rw [k.cell this]; exact h

theorem KeysAt.keep {w w2 : World} (k : Below w.heap.size w w2) : ∀ {l : List ByteArray} {b off : Nat}, KeysAt w b off l → KeysAt w2 b off l
  | [], _, _, _ => trivial
  | _ :: _, _, _, h => ⟨cell_keep k h.1, KeysAt.keep k h.2⟩
theorem IsKeys.keep {w w2 : World} (k : Below w.heap.size w w2) {v : Value} {l : List ByteArray} (h : IsKeys w v l) : IsKeys w2 v l := by
  obtain ⟨a, cap, h1, h2, h3⟩ := h
  exact ⟨a, cap, h1, h2, h3.imp id fun ⟨b, off, e, h4⟩ => ⟨b, off, e, h4.keep k⟩⟩
theorem KeysAt.cell {w : World} : ∀ {l : List ByteArray} {b off : Nat}, KeysAt w b off l → ∀ i (h : i < l.length), w.cell? ⟨b, off + i, none⟩ = some (.string l[i])
  | [], _, _, _, i, h => absurd h (by simp)
  | s :: r, b, off, hk, 0, _ => hk.1
  | s :: r, b, off, hk, i + 1, h => by
    have := KeysAt.cell hk.2 i (by simpa using h)
    rw [show off + 1 + i = off + (i + 1) by omega] at this
    exact this
mutual
theorem IsVal.keep {w w2 : World} (k : Below w.heap.size w w2) : ∀ {x : Val} {v : Value}, IsVal w v x → IsVal w2 v x
  | .mk _ _ _ _ _, _, h => by
    unfold IsVal at h ⊢
    obtain ⟨vi, vk, e, hk, a, cap, e2, hle, hc⟩ := h
    exact ⟨vi, vk, e, hk.keep k, a, cap, e2, hle, hc.imp id fun ⟨b, off, e3, h4⟩ => ⟨b, off, e3, ItemsAt.keep k h4⟩⟩
theorem ItemsAt.keep {w w2 : World} (k : Below w.heap.size w w2) : ∀ {l : List Val} {b off : Nat}, ItemsAt w b off l → ItemsAt w2 b off l
  | [], _, _, _ => by unfold ItemsAt; trivial
  | x :: r, _, _, h => by
    unfold ItemsAt at h ⊢
    obtain ⟨⟨v0, v1, v2, v3, v4, c0, c1, c2, c3, c4, hx⟩, hr⟩ := h
    exact ⟨⟨v0, v1, v2, v3, v4, cell_keep k c0, cell_keep k c1, cell_keep k c2, cell_keep k c3, cell_keep k c4, IsVal.keep k hx⟩, ItemsAt.keep k hr⟩
end
/-- One item's cells. -/
def ItemAt (w : World) (b off : Nat) (x : Val) : Prop := ∃ v0 v1 v2 v3 v4, w.cell? ⟨b, off, none⟩ = some v0 ∧ w.cell? ⟨b, off + 1, none⟩ = some v1 ∧ w.cell? ⟨b, off + 2, none⟩ = some v2 ∧ w.cell? ⟨b, off + 3, none⟩ = some v3 ∧ w.cell? ⟨b, off + 4, none⟩ = some v4 ∧ IsVal w (.agg #[v0, v1, v2, v3, v4]) x
theorem ItemsAt.item {w : World} : ∀ {l : List Val} {b off : Nat}, ItemsAt w b off l → ∀ i (h : i < l.length), ItemAt w b (off + i * 5) l[i]
  | [], _, _, _, i, h => absurd h (by simp)
  | x :: r, b, off, hk, 0, _ => by unfold ItemsAt at hk; exact hk.1
  | x :: r, b, off, hk, i + 1, h => by
    unfold ItemsAt at hk
    have := ItemsAt.item hk.2 i (by simpa using h)
    rw [show off + 5 + i * 5 = off + (i + 1) * 5 by omega] at this
    exact this
/-- A slice of values. -/
def IsItems (w : World) (v : Value) (l : List Val) : Prop :=
  ∃ a cap, v = .slice a l.length cap ∧ l.length ≤ cap ∧ (l = [] ∨ ∃ b off, a = some ⟨b, off, none⟩ ∧ ItemsAt w b off l)
theorem IsItems.keep {w w2 : World} (k : Below w.heap.size w w2) {v : Value} {l : List Val} (h : IsItems w v l) : IsItems w2 v l := by
  obtain ⟨a, cap, h1, h2, h3⟩ := h
  exact ⟨a, cap, h1, h2, h3.imp id fun ⟨b, off, e, h4⟩ => ⟨b, off, e, ItemsAt.keep k h4⟩⟩
theorem isVal_iff (w : World) (v : Value) (k n : Int) (s : ByteArray) (items : List Val) (keys : List ByteArray) :
    IsVal w v (.mk k n s items keys) ↔ ∃ vi vk, v = .agg #[.int .i64 k, .int .i64 n, .string s, vi, vk] ∧ IsKeys w vk keys ∧ IsItems w vi items := by
  unfold IsVal IsItems; rfl
/-- A value opened: its five parts. -/
theorem IsVal.open {w : World} {v : Value} {x : Val} (h : IsVal w v x) : ∃ vi vk, v = .agg #[.int .i64 x.kind, .int .i64 x.num, .string x.str, vi, vk] ∧ IsKeys w vk x.keys ∧ IsItems w vi x.items := by
  cases x; exact (isVal_iff _ _ _ _ _ _ _).1 h
theorem IsVal.shut {w : World} {x : Val} {vi vk : Value} (hk : IsKeys w vk x.keys) (hi : IsItems w vi x.items) : IsVal w (.agg #[.int .i64 x.kind, .int .i64 x.num, .string x.str, vi, vk]) x := by
  cases x; exact (isVal_iff _ _ _ _ _ _ _).2 ⟨vi, vk, rfl, hk, hi⟩
theorem IsItems.at {w : World} {a : Option Addr} {n cap : Nat} {l : List Val} (h : IsItems w (.slice a n cap) l) (i : Nat) (hi : i < l.length) : ∃ b off, a = some ⟨b, off, none⟩ ∧ ItemAt w b (off + i * 5) l[i] := by
  obtain ⟨a', cap', e, _, h3⟩ := h
  obtain ⟨rfl, _, _⟩ : a = a' ∧ n = l.length ∧ cap = cap' := by simpa using e
  rcases h3 with rfl | ⟨b, off, e2, h4⟩
  · simp at hi
  · exact ⟨b, off, e2, h4.item i hi⟩
theorem IsKeys.at {w : World} {a : Option Addr} {n cap : Nat} {l : List ByteArray} (h : IsKeys w (.slice a n cap) l) (i : Nat) (hi : i < l.length) : ∃ b off, a = some ⟨b, off, none⟩ ∧ w.cell? ⟨b, off + i, none⟩ = some (.string l[i]) := by
  obtain ⟨a', cap', e, _, h3⟩ := h
  obtain ⟨rfl, _, _⟩ : a = a' ∧ n = l.length ∧ cap = cap' := by simpa using e
  rcases h3 with rfl | ⟨b, off, e2, h4⟩
  · simp at hi
  · exact ⟨b, off, e2, h4.cell i hi⟩
theorem IsItems.slice {w : World} {v : Value} {l : List Val} (h : IsItems w v l) : ∃ a cap, v = .slice a l.length cap ∧ l.length ≤ cap := by
  obtain ⟨a, cap, e, hl, _⟩ := h; exact ⟨a, cap, e, hl⟩
theorem IsKeys.slice {w : World} {v : Value} {l : List ByteArray} (h : IsKeys w v l) : ∃ a cap, v = .slice a l.length cap ∧ l.length ≤ cap := by
  obtain ⟨a, cap, e, hl, _⟩ := h; exact ⟨a, cap, e, hl⟩

/-- What is in memory has sizes that Go's integers hold, and no more than the form's own reach. -/
inductive Val.Fits : Val → Prop
  | mk {k n : Int} {s : ByteArray} {items : List Val} {keys : List ByteArray} : (-9223372036854775808 ≤ k ∧ k ≤ 9223372036854775807) → (-9223372036854775808 ≤ n ∧ n ≤ 9223372036854775807) → s.size ≤ 140737488351232 → items.length * 80 ≤ 140737488351232 → keys.length * 16 ≤ 140737488351232 → (∀ t ∈ keys, t.size ≤ 140737488351232) → (∀ x ∈ items, Val.Fits x) → Val.Fits (.mk k n s items keys)
theorem Val.Fits.parts {x : Val} (h : x.Fits) : (-9223372036854775808 ≤ x.kind ∧ x.kind ≤ 9223372036854775807) ∧ (-9223372036854775808 ≤ x.num ∧ x.num ≤ 9223372036854775807) ∧ x.str.size ≤ 140737488351232 ∧ x.items.length * 80 ≤ 140737488351232 ∧ x.keys.length * 16 ≤ 140737488351232 ∧ (∀ t ∈ x.keys, t.size ≤ 140737488351232) ∧ (∀ y ∈ x.items, y.Fits) := by
  cases h with
  | mk h1 h2 h3 h4 h5 h6 h7 => exact ⟨h1, h2, h3, h4, h5, h6, h7⟩

/-! ### Plain functions -/
mutual
def keysV : Val → Nat
  | .mk _ _ _ items keys => keys.length + keysL items
def keysL : List Val → Nat
  | [] => 0
  | x :: r => keysV x + keysL r
end
theorem keysV_eq (x : Val) : keysV x = x.keys.length + keysL x.items := by cases x; simp only [keysV, Val.keys, Val.items]
theorem drop_at {α : Type} {l : List α} {k : Nat} (h : k < l.length) : l.drop k = l[k] :: l.drop (k + 1) := List.drop_eq_getElem_cons h
theorem below_alloc (w : World) (o : Obj) : Below w.heap.size w (w.alloc o) := (Below.refl _ w).alloc (Nat.le_refl _) o

mutual
def leftV : Val → Int → Int → Int
  | .mk _ _ _ items _, nodes, lv => if nodes < 1 ∨ lv < 1 then -1 else leftL items (nodes - 1) (lv - 1)
def leftL : List Val → Int → Int → Int
  | [], n, _ => n
  | x :: r, n, lv => if n < 0 then n else leftL r (leftV x n lv) lv
end
mutual
def nodesV : Val → Nat
  | .mk _ _ _ items _ => 1 + nodesL items
def nodesL : List Val → Nat
  | [] => 0
  | x :: r => nodesV x + nodesL r
end
theorem leftV_eq (x : Val) (nodes lv : Int) : leftV x nodes lv = if nodes < 1 ∨ lv < 1 then -1 else leftL x.items (nodes - 1) (lv - 1) := by cases x; simp only [leftV, Val.items]
theorem leftL_neg (l : List Val) (n lv : Int) (h : n < 0) : leftL l n lv = n := by
  cases l with
  | nil => rfl
  | cons x r => simp only [leftL]; rw [if_pos h]
mutual
/-- What left returns: -1, or what is left of the nodes. -/
theorem leftV_cases : ∀ (x : Val) (nodes lv : Int), leftV x nodes lv = -1 ∨ (0 ≤ leftV x nodes lv ∧ leftV x nodes lv = nodes - nodesV x)
  | .mk k n s items keys, nodes, lv => by
    simp only [leftV, nodesV]
    by_cases h : nodes < 1 ∨ lv < 1
    · rw [if_pos h]; exact .inl rfl
    · rw [if_neg h]
      rcases leftL_cases items (nodes - 1) (lv - 1) with h1 | h1 | h1
      · exact .inl h1
      · omega
      · exact .inr ⟨h1.1, by rw [h1.2]; omega⟩
theorem leftL_cases : ∀ (l : List Val) (n lv : Int), leftL l n lv = -1 ∨ n < 0 ∨ (0 ≤ leftL l n lv ∧ leftL l n lv = n - nodesL l)
  | [], n, lv => by
    simp only [leftL, nodesL]
    by_cases h : n < 0
    · exact .inr (.inl h)
    · exact .inr (.inr ⟨by omega, by omega⟩)
  | x :: r, n, lv => by
    simp only [leftL, nodesL]
    by_cases h : n < 0
    · exact .inr (.inl h)
    · rw [if_neg h]
      rcases leftV_cases x n lv with h1 | h1
      · rw [h1, leftL_neg _ _ _ (by omega)]; exact .inl rfl
      · rcases leftL_cases r (leftV x n lv) lv with h2 | h2 | h2
        · exact .inl h2
        · omega
        · exact .inr (.inr ⟨h2.1, by omega⟩)
end
theorem leftV_bd (x : Val) (n lv : Int) (h : 0 ≤ n) : -1 ≤ leftV x n lv ∧ leftV x n lv ≤ n := by
  rcases leftV_cases x n lv with h1 | h1 <;> omega
mutual
theorem keys_nodes : ∀ (x : Val), x.Fits → keysV x ≤ nodesV x * 8796093022208
  | .mk k n s items keys, h => by
    obtain ⟨_, _, _, _, h5, _, h7⟩ := h.parts
    simp only [Val.keys, Val.items] at h5 h7
    have := keys_nodesL items h7
    simp only [keysV, nodesV]; omega
theorem keys_nodesL : ∀ (l : List Val), (∀ x ∈ l, x.Fits) → keysL l ≤ nodesL l * 8796093022208
  | [], _ => by simp [keysL]
  | x :: r, h => by
    have h1 := keys_nodes x (h x (by simp))
    have h2 := keys_nodesL r (fun y hy => h y (by simp [hy]))
    simp only [keysL, nodesL]; omega
end
theorem left_keys (x : Val) (nodes lv : Int) (hf : x.Fits) (_ : 0 ≤ nodes) (h2 : nodes ≤ 1000) (h : 0 ≤ leftV x nodes lv) : keysV x ≤ 4611686018427387904 := by
  have h1 := keys_nodes x hf
  rcases leftV_cases x nodes lv with h3 | h3 <;> omega
/-- Small: at most some nodes on at most 40 levels, and few keys. -/
def smallV (x : Val) (nodes : Int) : Bool := decide (0 ≤ leftV x nodes 40) && decide ((keysV x : Int) ≤ 2 * nodes)
theorem smallV_eq (x : Val) (nodes : Int) : smallV x nodes = (decide (0 ≤ leftV x nodes 40) && decide ((keysV x : Int) ≤ 2 * nodes)) := rfl
end Go.Proofs.YtoelojmcopcpcaaGreatDoor
