/-
  Plain laws on what printed functions use: loops over lists, elements, appends.
  What the functions of convert come to: membership, equality, search, copies, a key's value.
  What a checked value is: shaped, with rising keys, of at most 32 levels.
  What copies, equality, refinement, a key's value and the filling of a value come to.
  A key's value, the filling of a value, and what it means that a value conforms to a type.
  What a checked type is.
  What a conversion comes to.
  The laws of conversions: results fit in memory, conform, are kept, and are refined with their values.
  The three laws of conversions as the program says them.
  The three laws of conversions as the program says them.
  The reference's conversions come to the same as the program's; the law about strings and bools of values.
  Simple conversions of checked values; loops that search; known values; three-valued equality.
  Plain laws: the value at a key; parts of checked values.
-/
import Derived.Test.YtkffpfapfljinaaGreatDoorAbsY
import Derived.Test.YtkffpfapfljinaaGreatDoorFnZ
namespace Go.Proofs.YtkffpfapfljinaaGreatDoor
namespace Abs
open Go.RowKit
theorem qc {α : Type} (l : List α) (i : Nat) : idx l (i : Int) = l[i]? := by simp [idx]
theorem qok {α : Type} {l : List α} {i : Nat} {x : α} {r : List α} (h : l.drop i = x :: r) : i < l.length ∧ l[i]? = some x ∧ l.drop (i + 1) = r := by
 have hi : i < l.length := by
  rcases Nat.lt_or_ge i l.length with k | k
  ·exact k
  ·rw [List.drop_eq_nil_of_le k] at h; cases h
 rw [List.drop_eq_getElem_cons hi] at h
 simp only [List.cons.injEq] at h
 exact ⟨hi, by rw [List.getElem?_eq_getElem hi, h.1], h.2⟩
theorem qk {i n : Nat} (h : i < n) (hn : n ≤ 9223372036854775807) : IntKind.i64.wrap ((i : Int) + 1) = ((i + 1 : Nat) : Int) := qg0 (by omega)
theorem app_of {α : Type} {by_ : Nat} {xs ys : List α} (hb : 0 < by_) (h : (xs.length + ys.length) * by_ ≤ 140737488355328) : app by_ xs ys = some (xs ++ ys) := by
 have h2 : xs.length + ys.length ≤ 9223372036854775807 := by
  have := Nat.le_mul_of_pos_right (xs.length + ys.length) hb
  omega
 unfold app
 rw [if_pos ⟨h, h2⟩]
theorem qqv {α A O St : Type} (l : List α) (F : Nat → A → St) {body : St → Option (St ⊕ O)} (spec : A → List α → O) (Q : A → List α → Prop)
  (hnil : ∀ a, Q a [] → body (F l.length a) = some (.inr (spec a [])))
  (hcons : ∀ i x r a, i < l.length → l[i]? = some x → l.drop i = x :: r → Q a (x :: r) → (∃ a', Q a' r ∧ body (F i a) = some (.inl (F (i + 1) a')) ∧ spec a (x :: r) = spec a' r) ∨ body (F i a) = some (.inr (spec a (x :: r)))) :
  ∀ i a, i ≤ l.length → Q a (l.drop i) → qb body (F i a) = some (spec a (l.drop i)) := by
 have key : ∀ n i a, l.length - i = n → i ≤ l.length → Q a (l.drop i) → qb body (F i a) = some (spec a (l.drop i)) := by
  intro n
  induction n with
  | zero =>
   intro i a hn hi hq
   obtain rfl : i = l.length := by omega
   rw [List.drop_length] at hq ⊢
   exact q2d (hnil a hq)
  | succ n ih =>
   intro i a hn hi hq
   have hlt : i < l.length := by omega
   have hd := List.drop_eq_getElem_cons hlt
   rw [hd] at hq ⊢
   rcases hcons i _ _ a hlt (List.getElem?_eq_getElem hlt) hd hq with ⟨a', h1, h2, h3⟩ | h
   ·rw [q3a h2, h3]
    exact ih (i + 1) a' (by omega) (by omega) h1
   ·exact q2d h
 exact fun i a hi hq => key _ i a rfl hi hq
theorem q59 {α A O St : Type} (l : List α) (F : Nat → A → St) {body : St → Option (St ⊕ O)} (spec : A → List α → O) (Q : A → List α → Prop) {s0 : St} {a : A} (h0 : s0 = F 0 a) (hq : Q a l)
  (hnil : ∀ a, Q a [] → body (F l.length a) = some (.inr (spec a [])))
  (hcons : ∀ i x r a, i < l.length → l[i]? = some x → l.drop i = x :: r → Q a (x :: r) → (∃ a', Q a' r ∧ body (F i a) = some (.inl (F (i + 1) a')) ∧ spec a (x :: r) = spec a' r) ∨ body (F i a) = some (.inr (spec a (x :: r)))) :
  qb body s0 = some (spec a l) := by
 rw [h0]
 have := qqv l F spec Q hnil hcons 0 a (Nat.zero_le _) hq
 rwa [List.drop_zero] at this
theorem q13 {St O : Type} {body : St → Option (St ⊕ O)} (I : St → Prop) (μ : St → Nat) (R : O → Prop)
  (step : ∀ s, I s → (∃ s', body s = some (.inl s') ∧ I s' ∧ μ s' < μ s) ∨ ∃ q, body s = some (.inr q) ∧ R q) : ∀ s, I s → ∃ q, qb body s = some q ∧ R q := by
 have key : ∀ n s, μ s < n → I s → ∃ q, qb body s = some q ∧ R q := by
  intro n
  induction n with
  | zero => intro s h; omega
  | succ n ih =>
   intro s h hi
   rcases step s hi with ⟨s', h1, h2, h3⟩ | ⟨q, h1, h2⟩
   ·rw [q3a h1]; exact ih s' (by omega) h2
   ·exact ⟨q, q2d h1, h2⟩
 exact fun s hi => key _ s (Nat.lt_succ_self _) hi
end Abs
end Go.Proofs.YtkffpfapfljinaaGreatDoor
namespace Go.Proofs.YtkffpfapfljinaaGreatDoor
set_option linter.unusedSimpArgs false
set_option linter.unusedVariables false
namespace Abs
open Go.RowKit
def hasB (l : List ByteArray) (v : ByteArray) : Bool := l.any fun x => decide (v = x)
theorem q3v {l : List ByteArray} {v : ByteArray} : hasB l v = true ↔ v ∈ l := by
 unfold hasB
 rw [List.any_eq_true]
 constructor
 ·rintro ⟨x, h1, h2⟩; rw [of_decide_eq_true h2]; exact h1
 ·intro h; exact ⟨v, h, by simp⟩
theorem qpr (l : List ByteArray) (v : ByteArray) (hl : l.length ≤ 9223372036854775807) : ∃ n : Int, gQ85 l v = some n ∧ decide (n ≥ 0) = hasB l v := by
 have h := q13 (body := gQ86 l v) (fun s => ∃ i : Nat, s = (i : Int) ∧ i ≤ l.length ∧ hasB (l.drop i) v = hasB l v) (fun s => l.length - s.toNat) (fun n => decide (n ≥ 0) = hasB l v) (by
  rintro s ⟨i, rfl, hi, hh⟩
  rcases Nat.eq_or_lt_of_le hi with h0 | h0
  ·subst h0
   rw [List.drop_length] at hh
   exact .inr ⟨-1, by simp [gQ86], by rw [← hh]; rfl⟩
  ·have hI : idx l (i : Int) = some l[i] := by rw [qc]; exact List.getElem?_eq_getElem h0
   rw [List.drop_eq_getElem_cons h0] at hh
   have hc : hasB (l[i] :: l.drop (i + 1)) v = (decide (v = l[i]) || hasB (l.drop (i + 1)) v) := rfl
   rw [hc] at hh
   by_cases he : v = l[i]
   ·refine .inr ⟨(i : Int), by simp [gQ86, hI, h0, he], ?_⟩
    rw [← hh, decide_eq_true he, Bool.true_or]; simp
   ·refine .inl ⟨((i + 1 : Nat) : Int), by simp [gQ86, hI, h0, he, qk h0 hl], ⟨i + 1, rfl, h0, ?_⟩, by omega⟩
    rw [← hh, decide_eq_false he, Bool.false_or]) 0 ⟨0, rfl, Nat.zero_le _, by simp⟩
 exact h
theorem qcu (l : List ByteArray) (v : ByteArray) (hl : l.length ≤ 9223372036854775807) : gQ80 l v = some (hasB l v) := by
 obtain ⟨n, h1, h2⟩ := qpr l v hl
 unfold gQ80
 rw [h1, Option.bind_some, h2]
theorem qd0 (a b : List ByteArray) (ha : a.length ≤ 9223372036854775807) : gQ82 a b = some (decide (a = b)) := by
 unfold gQ82
 by_cases hl : a.length = b.length
 ·have h := q13 (body := gQ83 a b) (fun s => ∃ i : Nat, s = (i : Int) ∧ i ≤ a.length ∧ a.take i = b.take i) (fun s => a.length - s.toNat) (fun q => q = decide (a = b)) (by
   rintro s ⟨i, rfl, hi, hh⟩
   rcases Nat.eq_or_lt_of_le hi with h0 | h0
   ·subst h0
    refine .inr ⟨true, by simp [gQ83], ?_⟩
    rw [List.take_length, hl, List.take_length] at hh
    simp [hh]
   ·have h1 : i < b.length := by omega
    have hI : idx a (i : Int) = some a[i] := by rw [qc]; exact List.getElem?_eq_getElem h0
    have hJ : idx b (i : Int) = some b[i] := by rw [qc]; exact List.getElem?_eq_getElem h1
    by_cases he : a[i] = b[i]
    ·refine .inl ⟨((i + 1 : Nat) : Int), by simp [gQ83, hI, hJ, h0, he, qk h0 ha], ⟨i + 1, rfl, h0, ?_⟩, by omega⟩
     rw [List.take_succ_eq_append_getElem h0, List.take_succ_eq_append_getElem h1, hh, he]
    ·refine .inr ⟨false, by simp [gQ83, hI, hJ, h0, he], ?_⟩
     have : a ≠ b := fun k => he (by subst k; rfl)
     simp [this]) 0 ⟨0, rfl, Nat.zero_le _, by simp⟩
  obtain ⟨q, h1, rfl⟩ := h
  simp [hl, h1]
 ·have h1 : a ≠ b := fun k => hl (by rw [k])
  have h2 : ¬ (a.length : Int) = b.length := by omega
  simp [h1, h2]
theorem qji (x y : ByteArray) : gQ03 x y = some (Op.bytesLess x.toList y.toList) := by simp [gQ03, gQ05]
theorem qjz {i j : Nat} (h : i + j ≤ 9223372036854775807) : IntKind.i64.wrap (Int.fdiv (IntKind.u64.wrap (IntKind.i64.wrap ((i : Int) + j))) (2 ^ (min (1 : Int).toNat IntKind.u64.bits))) = (((i + j) / 2 : Nat) : Int) := by
 have h1 : IntKind.i64.wrap ((i : Int) + j) = (i : Int) + j := q51 (by omega) (by omega)
 have h2 : IntKind.u64.wrap ((i : Int) + j) = (i : Int) + j := by
  unfold IntKind.wrap
  simp only [IntKind.bits, IntKind.signed]
  simp
  omega
 have h3 : (2 : Int) ^ (min (1 : Int).toNat IntKind.u64.bits) = 2 := by decide
 rw [h1, h2, h3]
 rw [show Int.fdiv ((i : Int) + j) 2 = (((i + j) / 2 : Nat) : Int) by rw [Int.fdiv_eq_ediv_of_nonneg _ (by omega)]; omega]
 exact q51 (by omega) (by omega)
def Rising (l : List ByteArray) : Prop := ∀ i j : Nat, i < j → ∀ a b : ByteArray, l[i]? = some a → l[j]? = some b → Op.bytesLess a.toList b.toList = true
theorem q3x : ∀ l : List UInt8, Op.bytesLess l l = false
 | [] => rfl
 | x :: r => by simp [Op.bytesLess, q3x r]
theorem q3p : ∀ {a b c : List UInt8}, Op.bytesLess a b = true → Op.bytesLess b c = true → Op.bytesLess a c = true
 | [], [], _, h, _ => by simp [Op.bytesLess] at h
 | _ :: _, [], _, h, _ => by simp [Op.bytesLess] at h
 | _, _ :: _, [], _, h => by simp [Op.bytesLess] at h
 | [], _ :: _, _ :: _, _, _ => by simp [Op.bytesLess]
 | x :: a, y :: b, z :: c, h, k => by
  simp only [Op.bytesLess, Bool.or_eq_true, Bool.and_eq_true, decide_eq_true_eq, beq_iff_eq] at h k ⊢
  rcases h with h | ⟨rfl, h⟩
  ·rcases k with k | ⟨rfl, k⟩
   ·exact .inl (UInt8.lt_trans h k)
   ·exact .inl h
  ·rcases k with k | ⟨rfl, k⟩
   ·exact .inl k
   ·exact .inr ⟨rfl, q3p h k⟩
theorem q7i (l : List ByteArray) (v : ByteArray) (hl : l.length * 2 ≤ 9223372036854775807) (hr : Rising l) :
  ∃ q : Int × Bool, gQ7x l v = some q ∧ 0 ≤ q.1 ∧ q.1 ≤ l.length ∧ (q.2 = true → l[q.1.toNat]? = some v) ∧ (q.2 = false → v ∉ l) := by
 refine q13 (body := gQ7y l v) (fun s => ∃ i j : Nat, s = ((i : Int), (j : Int)) ∧ i ≤ j ∧ j ≤ l.length ∧ (∀ k a, k < i → l[k]? = some a → Op.bytesLess a.toList v.toList = true) ∧ (∀ k a, j ≤ k → l[k]? = some a → Op.bytesLess a.toList v.toList = false)) (fun s => (s.2 - s.1).toNat)
  (fun q => 0 ≤ q.1 ∧ q.1 ≤ l.length ∧ (q.2 = true → l[q.1.toNat]? = some v) ∧ (q.2 = false → v ∉ l)) ?_ (0, (l.length : Int)) ⟨0, l.length, rfl, Nat.zero_le _, Nat.le_refl _, fun k a hk => by omega, fun k a hk e => by rw [List.getElem?_eq_none hk] at e; cases e⟩
 rintro s ⟨i, j, rfl, hij, hj, h1, h2⟩
 by_cases hlt : i < j
 ·left
  have hm : (i + j) / 2 < l.length := by omega
  have hI : idx l (((i + j) / 2 : Nat) : Int) = some l[(i + j) / 2] := by rw [qc]; exact List.getElem?_eq_getElem hm
  have hmid := qjz (i := i) (j := j) (by omega)
  have hdec : decide (((i : Int), (j : Int)).1 < ((i : Int), (j : Int)).2) = true := by simp [hlt]
  unfold gQ7y
  rw [hdec]
  simp only [cond_true, hmid, hI, Option.bind_some, qji]
  cases hc : Op.bytesLess l[(i + j) / 2].toList v.toList with
  | true =>
   refine ⟨((((i + j) / 2 + 1 : Nat) : Int), (j : Int)), by simp only [cond_true, qk (i := (i + j) / 2) (n := l.length) hm (by omega)], ⟨_, j, rfl, by omega, hj, fun k a hk e => ?_, h2⟩, by simp; omega⟩
   rcases Nat.eq_or_lt_of_le (show k ≤ (i + j) / 2 by omega) with rfl | hk'
   ·rw [List.getElem?_eq_getElem hm] at e; simp at e; subst e; exact hc
   ·exact q3p (hr k _ hk' a _ e (List.getElem?_eq_getElem hm)) hc
  | false =>
   refine ⟨((i : Int), (((i + j) / 2 : Nat) : Int)), by simp only [cond_false], ⟨i, _, rfl, by omega, by omega, h1, fun k a hk e => ?_⟩, by simp; omega⟩
   rcases Nat.eq_or_lt_of_le hk with rfl | hk'
   ·rw [List.getElem?_eq_getElem hm] at e; simp at e; subst e; exact hc
   ·cases hb : Op.bytesLess a.toList v.toList with
    | false => rfl
    | true => rw [q3p (hr _ k hk' _ a (List.getElem?_eq_getElem hm) e) hb] at hc; cases hc
 ·right
  obtain rfl : i = j := by omega
  have hnot : ∀ k a, l[k]? = some a → k ≠ i → a ≠ v := by
   intro k a e hne he
   subst he
   rcases Nat.lt_or_ge k i with hk | hk
   ·have := h1 k a hk e; rw [q3x] at this; cases this
   ·have hik : i < k := by omega
    have hkl : k < l.length := by
     rcases Nat.lt_or_ge k l.length with q | q
     ·exact q
     ·rw [List.getElem?_eq_none q] at e; cases e
    have hil : i < l.length := by omega
    have a1 := hr i k hik _ a (List.getElem?_eq_getElem hil) e
    have a2 := h2 i _ (Nat.le_refl _) (List.getElem?_eq_getElem hil)
    rw [a1] at a2; cases a2
  have hdec : decide (((i : Int), (i : Int)).1 < ((i : Int), (i : Int)).2) = false := by simp
  unfold gQ7y
  rw [hdec]
  simp only [cond_false]
  by_cases hil : i < l.length
  ·have hI : idx l (i : Int) = some l[i] := by rw [qc]; exact List.getElem?_eq_getElem hil
   have hd2 : decide ((i : Int) < (l.length : Int)) = true := by simp [hil]
   rw [hd2]
   simp only [cond_true, hI, Option.bind_some, gQ88]
   by_cases he : l[i] = v
   ·refine ⟨((i : Int), true), by simp [he], by simp, by simp; omega, (fun _ => by simp [← he]), (fun h => by cases h)⟩
   ·refine ⟨((i : Int), false), by simp [he], by simp, by simp; omega, (fun h => by cases h), fun _ hm => ?_⟩
    obtain ⟨k, hk⟩ := List.getElem?_of_mem hm
    by_cases hki : k = i
    ·subst hki; rw [List.getElem?_eq_getElem hil] at hk; simp at hk; exact he hk
    ·exact hnot k v hk hki rfl
  ·have hd2 : decide ((i : Int) < (l.length : Int)) = false := by simp; omega
   rw [hd2]
   refine ⟨((i : Int), false), by simp, by simp, by simp; omega, (fun h => by cases h), fun _ hm => ?_⟩
   obtain ⟨k, hk⟩ := List.getElem?_of_mem hm
   have hkl : k < l.length := by
    rcases Nat.lt_or_ge k l.length with q | q
    ·exact q
    ·rw [List.getElem?_eq_none q] at hk; cases hk
   exact hnot k v hk (by omega) rfl
end Abs
end Go.Proofs.YtkffpfapfljinaaGreatDoor
namespace Go.Proofs.YtkffpfapfljinaaGreatDoor
namespace Abs
open Go.RowKit
inductive Good : Nat → Val → Prop
 | mk {d : Nat} {x : Val} : q15 x = 0 → (∀ y ∈ x.items, Good d y) → Good (d + 1) x
theorem Good.node {d : Nat} {x : Val} (h : Good d x) : q15 x = 0 := by cases h; assumption
theorem Good.item {d : Nat} {x : Val} (h : Good d x) : ∃ e, d = e + 1 ∧ ∀ y ∈ x.items, Good e y := by cases h; exact ⟨_, rfl, by assumption⟩
theorem qh9 : ∀ (l : List Val) (lv n : Int), (q1a l lv n).1 = 0 → ∀ x ∈ l, ∃ k, (q14 x lv k).1 = 0
 | [], _, _, _, x, hx => absurd hx List.not_mem_nil
 | y :: r, lv, n, h, x, hx => by
  simp only [q1a] at h
  by_cases hc : (q14 y lv n).1 = 0
  ·rw [if_neg (by simp [hc])] at h
   rcases List.mem_cons.1 hx with rfl | hx
   ·exact ⟨n, hc⟩
   ·exact qh9 r lv _ h x hx
  ·rw [if_pos hc] at h; exact absurd h hc
theorem qpm (x : Val) : ∀ (lv n : Int) (d : Nat), (q14 x lv n).1 = 0 → 33 ≤ lv + d → Good d x := by
 induction x using Val.ind with
 | h k m s items keys ih =>
  intro lv n d h hd
  rw [q85] at h
  split at h
  ·simp at h
  ·rename_i h32
   split at h
   ·simp at h
   ·split at h
    ·rename_i h2; exact absurd h h2
    ·rename_i h3
     obtain ⟨e, rfl⟩ : ∃ e, d = e + 1 := ⟨d - 1, by omega⟩
     refine .mk (by simpa using h3) fun y hy => ?_
     obtain ⟨q, hq⟩ := qh9 _ _ _ h y hy
     exact ih y hy (lv + 1) q e hq (by omega)
theorem qpl {x : Val} (h : qz x = 0) : Good 32 x := qpm x 1 0 32 h (by omega)
theorem qk2 {x : Val} (h : q15 x = 0) : q2f x = true ∧ (x.kind = 2 → NumPlain.validB x.num = true) ∧ vtext x.str = 0 ∧ q1y none x.keys = 0 := by
 unfold q15 at h
 split at h
 ·simp at h
 ·rename_i h1
  split at h
  ·simp at h
  ·rename_i h2
   split at h
   ·rename_i h3; exact absurd h h3
   ·rename_i h3
    refine ⟨by simpa using h1, fun hk => ?_, by simpa using h3, h⟩
    cases hv : NumPlain.validB x.num
    ·exact absurd ⟨hk, hv⟩ h2
    ·rfl
theorem qj4 : ∀ (l : List ByteArray) (p : Option ByteArray), q1y p l = 0 → (∀ q, p = some q → ∀ a ∈ l, Op.bytesLess q.toList a.toList = true) ∧ l.Pairwise fun a b => Op.bytesLess a.toList b.toList = true
 | [], p, _ => ⟨fun _ _ a ha => absurd ha List.not_mem_nil, List.Pairwise.nil⟩
 | s :: r, p, h => by
  unfold q1y at h
  by_cases hv : vtext s = 0
  ·rw [if_neg (by simp [hv])] at h
   have hr : q1y (some s) r = 0 ∧ ∀ q, p = some q → Op.bytesLess q.toList s.toList = true := by
    cases p with
    | none => exact ⟨by simpa using h, fun q hq => by cases hq⟩
    | some q =>
     cases hb : ltB q s with
     | true => exact ⟨by simpa [hb] using h, fun q' hq => by cases hq; exact hb⟩
     | false => simp [hb] at h
   have ⟨i1, i2⟩ := qj4 r (some s) hr.1
   refine ⟨fun q hq a ha => ?_, List.pairwise_cons.2 ⟨i1 s rfl, i2⟩⟩
   rcases List.mem_cons.1 ha with rfl | ha
   ·exact hr.2 q hq
   ·exact q3p (hr.2 q hq) (i1 s rfl a ha)
  ·rw [if_pos hv] at h; exact absurd h hv
theorem q6b {l : List ByteArray} (h : l.Pairwise fun a b => Op.bytesLess a.toList b.toList = true) : Rising l := by
 intro i j hij a b ha hb
 obtain ⟨h1, e1⟩ := List.getElem?_eq_some_iff.1 ha
 obtain ⟨h2, e2⟩ := List.getElem?_eq_some_iff.1 hb
 subst e1 e2
 exact List.pairwise_iff_getElem.1 h i j h1 h2 hij
theorem q7h {l : List ByteArray} (h : Rising l) {i j : Nat} {a : ByteArray} (hi : l[i]? = some a) (hj : l[j]? = some a) : i = j := by
 rcases Nat.lt_trichotomy i j with k | k | k
 ·have := h i j k a a hi hj; rw [q3x] at this; cases this
 ·exact k
 ·have := h j i k a a hj hi; rw [q3x] at this; cases this
theorem Good.rising {d : Nat} {x : Val} (h : Good d x) : Rising x.keys := q6b (qj4 _ _ (qk2 h.node).2.2.2).2
theorem qfa {x : Val} (h : q2f x = true) : 0 ≤ x.kind ∧ x.kind ≤ 6 ∧ (x.kind ≠ 1 → x.kind ≠ 2 → x.num = 0) ∧ (x.kind = 1 → x.num = 0 ∨ x.num = 1) ∧ (x.kind ≠ 3 → x.str = eS) ∧ (x.kind ≠ 4 → x.kind ≠ 5 → x.items = []) ∧ (x.kind = 5 → x.keys.length = x.items.length) ∧ (x.kind ≠ 5 → x.keys = []) := by
 simp only [q2f, qi, Bool.and_eq_true, decide_eq_true_eq, qt, qy, qx, qv, Bool.or_eq_true, beq_iff_eq, bne_iff_ne, ne_eq] at h
 obtain ⟨⟨⟨⟨⟨h0, h1⟩, h2⟩, h3⟩, h4⟩, h5⟩ := h
 refine ⟨h0, h1, ?_, ?_, ?_, ?_, ?_, ?_⟩
 ·intro a b; rcases h2 with (q | q) | q
  ·exact absurd q b
  ·exact absurd q.1 a
  ·exact q
 ·intro a; rcases h2 with (q | q) | q
  ·omega
  ·exact q.2
  ·exact .inl q
 ·intro a; rcases h3 with q | q
  ·exact absurd q a
  ·have : x.str.toList = [] := by simpa using q
   rw [ByteArray.toList_eq] at this
   exact ByteArray.ext (Array.toList_inj.1 this)
 ·intro a b; rcases h4 with (q | q) | q
  ·exact absurd q a
  ·exact absurd q b
  ·exact List.length_eq_zero_iff.1 (by omega)
 ·intro a; rcases h5 with q | q
  ·omega
  ·exact absurd a q.1
 ·intro a; rcases h5 with q | q
  ·exact absurd q.1 a
  ·exact List.length_eq_zero_iff.1 (by omega)
end Abs
end Go.Proofs.YtkffpfapfljinaaGreatDoor
namespace Go.Proofs.YtkffpfapfljinaaGreatDoor
namespace Abs
open Go.RowKit
theorem qe4 {α β O : Type} (l : List α) (f : α → β) {body : Int × List β → Option ((Int × List β) ⊕ O)} (R : List β → O)
  (step : ∀ (i : Nat) (acc : List β) (x : α), i < l.length → l[i]? = some x → acc.length = i → body ((i : Int), acc) = some (.inl (((i + 1 : Nat) : Int), acc ++ [f x])))
  (stop : ∀ acc : List β, acc.length = l.length → body ((l.length : Int), acc) = some (.inr (R acc))) : qb body (0, []) = some (R (l.map f)) := by
 have h := q13 (body := body) (fun s => ∃ i : Nat, s = ((i : Int), (l.take i).map f) ∧ i ≤ l.length) (fun s => l.length - s.1.toNat) (fun q => q = R (l.map f)) (by
  rintro s ⟨i, rfl, hi⟩
  have hlen : ((l.take i).map f).length = i := by simp [hi]
  rcases Nat.eq_or_lt_of_le hi with h0 | h0
  ·subst h0
   exact .inr ⟨_, stop _ hlen, by rw [List.take_length]⟩
  ·have hx := List.getElem?_eq_getElem h0
   refine .inl ⟨_, step i _ _ h0 hx hlen, ⟨i + 1, ?_, h0⟩, ?_⟩
   ·rw [List.take_succ_eq_append_getElem h0, List.map_append]; rfl
   ·simp only [Int.toNat_natCast]; omega) (0, []) ⟨0, by simp, Nat.zero_le _⟩
 obtain ⟨q, h1, rfl⟩ := h
 exact h1
def qp {α : Type} (f : α → Val × Int) : List α → List Val × Int
 | [] => ([], 0)
 | x :: r => if (f x).2 ≠ 0 then ([], (f x).2) else if (qp f r).2 ≠ 0 then ([], (qp f r).2) else ((f x).1 :: (qp f r).1, 0)
theorem qe2 {α O : Type} (l : List α) (f : α → Val × Int) {body : Int × List Val → Option ((Int × List Val) ⊕ O)} (R : List Val → O) (E : Int → O)
  (step : ∀ (i : Nat) (acc : List Val) (x : α), i < l.length → l[i]? = some x → acc.length = i → body ((i : Int), acc) = some (if (f x).2 = 0 then .inl (((i + 1 : Nat) : Int), acc ++ [(f x).1]) else .inr (E (f x).2)))
  (stop : ∀ acc : List Val, acc.length = l.length → body ((l.length : Int), acc) = some (.inr (R acc))) :
  qb body (0, []) = some (if (qp f l).2 = 0 then R (qp f l).1 else E (qp f l).2) := by
 have key : ∀ n (i : Nat) (acc : List Val), l.length - i = n → i ≤ l.length → acc.length = i →
   qb body ((i : Int), acc) = some (if (qp f (l.drop i)).2 = 0 then R (acc ++ (qp f (l.drop i)).1) else E (qp f (l.drop i)).2) := by
  intro n
  induction n with
  | zero =>
   intro i acc hn hi ha
   obtain rfl : i = l.length := by omega
   rw [q2d (stop acc ha), List.drop_length]
   simp [qp]
  | succ n ih =>
   intro i acc hn hi ha
   have hlt : i < l.length := by omega
   have hs := step i acc _ hlt (List.getElem?_eq_getElem hlt) ha
   rw [List.drop_eq_getElem_cons hlt]
   by_cases he : (f l[i]).2 = 0
   ·rw [if_pos he] at hs
    rw [q3a hs, ih (i + 1) _ (by omega) (by omega) (by simp [ha])]
    have e2 : qp f (l[i] :: l.drop (i + 1)) = if (qp f (l.drop (i + 1))).2 ≠ 0 then ([], (qp f (l.drop (i + 1))).2) else ((f l[i]).1 :: (qp f (l.drop (i + 1))).1, 0) := by
     rw [qp, if_neg (by simp [he])]
    rw [e2]
    by_cases hr : (qp f (l.drop (i + 1))).2 = 0
    ·simp [hr]
    ·simp [hr]
   ·rw [if_neg he] at hs
    rw [q2d hs, qp, if_pos he]
    simp [he]
 have := key _ 0 [] rfl (Nat.zero_le _) rfl
 simpa using this
theorem qe1 {body : Int → Option (Int ⊕ Bool)} (n : Nat) (p : Nat → Prop)
  (step : ∀ i : Nat, i < n → (p i ∧ body (i : Int) = some (.inl ((i + 1 : Nat) : Int))) ∨ (¬ p i ∧ body (i : Int) = some (.inr false)))
  (stop : body (n : Int) = some (.inr true)) : ∃ q, qb body 0 = some q ∧ (q = true ↔ ∀ i, i < n → p i) := by
 refine q13 (body := body) (fun s => ∃ i : Nat, s = (i : Int) ∧ i ≤ n ∧ ∀ j, j < i → p j) (fun s => n - s.toNat) (fun q => q = true ↔ ∀ i, i < n → p i) ?_ 0 ⟨0, rfl, Nat.zero_le _, fun j h => by omega⟩
 rintro s ⟨i, rfl, hi, hp⟩
 rcases Nat.eq_or_lt_of_le hi with h0 | h0
 ·subst h0
  exact .inr ⟨true, stop, by simpa using hp⟩
 ·rcases step i h0 with ⟨h1, h2⟩ | ⟨h1, h2⟩
  ·refine .inl ⟨_, h2, ⟨i + 1, rfl, h0, fun j hj => ?_⟩, ?_⟩
   ·rcases Nat.eq_or_lt_of_le (Nat.le_of_lt_succ hj) with rfl | h
    ·exact h1
    ·exact hp j h
   ·simp only [Int.toNat_natCast]; omega
  ·exact .inr ⟨false, h2, by simp; exact ⟨i, h0, h1⟩⟩
theorem q16 {n m : Nat} (h : n * m ≤ 140737488351232) (hm : 0 < m) : n ≤ 140737488351232 := Nat.le_trans (Nat.le_mul_of_pos_right _ hm) h
theorem q5s {α : Type} {l : List α} {m : Nat} (h : l.length * m ≤ 140737488351232) : clone m l = some l := by unfold clone; rw [if_pos (by omega)]
theorem qef {n m : Nat} (h : n * m ≤ 140737488351232) (hm : 0 < m) : mkc m (n : Int) = some () := by
 have := q16 h hm
 unfold mkc
 rw [if_pos ⟨by omega, by simp; omega, by omega⟩]
theorem qw {α : Type} {m n : Nat} (acc : List α) (x : α) (hm : 0 < m) (h : acc.length < n) (hn : n * m ≤ 140737488351232) : app m acc [x] = some (acc ++ [x]) := by
 refine app_of hm ?_
 have : (acc.length + [x].length) * m ≤ n * m := Nat.mul_le_mul_right _ (by simp only [List.length_cons, List.length_nil]; omega)
 omega
theorem qoc (rec : Val → Option Val) (l : List Val) (hl : l.length * 80 ≤ 140737488351232) (h : ∀ x ∈ l, rec x = some x) : gQa0 rec l = some l := by
 unfold gQa0
 by_cases h0 : l.length = 0
 ·have : l = [] := List.length_eq_zero_iff.1 h0
  subst this; rfl
 ·have hd : decide ((l.length : Int) = 0) = false := by simp; exact fun h => h0 (by simp [h])
  rw [hd, cond_false, qef hl (by decide), Option.bind_some]
  have hh := qe4 l (fun x => x) (body := gQa1 rec l) (fun acc => acc) (by
   intro i acc x hi hx ha
   have hx' : x ∈ l := List.mem_of_getElem? hx
   have hn := q16 hl (by decide)
   simp only [gQa1, decide_eq_true (show (i : Int) < l.length by omega), cond_true, qc, hx, Option.bind_some, h x hx', qw acc x (m := 80) (by decide) (show acc.length < l.length by omega) hl, qk hi (show l.length ≤ 9223372036854775807 by omega)]) (by
   intro acc ha
   simp [gQa1])
  rw [hh]; simp
open Classical in
theorem qo8 (x : Val) : tQb6 x = gQ9y (gQa0 (fun a0 => if relV a0 x then tQb6 a0 else none)) x := q2t x ()
theorem q87 (x : Val) : x.Fits → tQb6 x = some x := by
 induction x using wfV.induction with
 | h a ih =>
  intro hf
  obtain ⟨f1, f2, f3, f4, f5, f6, f7⟩ := hf.parts
  rw [qo8]
  unfold gQ9y
  rw [q5s f5, Option.bind_some, qoc _ a.items f4 (fun x hx => by
   rw [if_pos (show relV x a from hx)]
   exact ih x hx (f7 x hx)), Option.bind_some]
  cases a; rfl
theorem qbw {a b : Val} (h1 : a.kind = b.kind) (h2 : a.num = b.num) (h3 : a.str = b.str) (h4 : a.items = b.items) (h5 : a.keys = b.keys) : a = b := by
 cases a; cases b; simp only [Val.kind, Val.num, Val.str, Val.items, Val.keys] at *; subst h1 h2 h3 h4 h5; rfl
theorem q76 {α : Type} {a b : List α} (hl : a.length = b.length) (h : ∀ i, i < a.length → a[i]? = b[i]?) : a = b := by
 apply List.ext_getElem?
 intro i
 rcases Nat.lt_or_ge i a.length with k | k
 ·exact h i k
 ·rw [List.getElem?_eq_none k, List.getElem?_eq_none (by omega)]
open Classical in
theorem qou (a b : Val) : tQax a b = gQ8w (fun a0 a1 => if relV a0 a then tQax a0 a1 else none) a b := q2t a b
open Classical in
theorem qvm (a : Val) : ∀ b : Val, a.Fits → ∃ q, tQax a b = some q ∧ (q = true ↔ a = b) := by
 induction a using wfV.induction with
 | h a ih =>
  intro b hf
  obtain ⟨f1, f2, f3, f4, f5, f6, f7⟩ := hf.parts
  rw [qou]
  unfold gQ8w
  by_cases h1 : a.kind = b.kind
  case neg => exact ⟨false, by simp [h1], by simp; intro e; subst e; exact h1 rfl⟩
  by_cases h2 : a.num = b.num
  case neg => exact ⟨false, by simp [h1, h2], by simp; intro e; subst e; exact h2 rfl⟩
  by_cases h3 : a.str = b.str
  case neg => exact ⟨false, by simp [h1, h2, h3], by simp; intro e; subst e; exact h3 rfl⟩
  rw [decide_eq_true h1, decide_eq_true h2, decide_eq_true h3, qd0 _ _ (by have := q16 f5 (by decide); omega)]
  simp only [cond_true, Option.bind_some]
  by_cases h4 : a.keys = b.keys
  case neg => exact ⟨false, by simp [h4], by simp; intro e; subst e; exact h4 rfl⟩
  rw [decide_eq_true h4]
  simp only [cond_true, gQ8y]
  by_cases h5 : a.items.length = b.items.length
  case neg =>
   have h5' : ¬ (a.items.length : Int) = b.items.length := by omega
   exact ⟨false, by simp [h5'], by simp; intro e; subst e; exact h5 rfl⟩
  have h5' : (a.items.length : Int) = b.items.length := by omega
  have hn := q16 f4 (by decide)
  obtain ⟨q, hq1, hq2⟩ := qe1 (body := gQ8z (fun a0 a1 => if relV a0 a then tQax a0 a1 else none) a.items b.items) a.items.length (fun i => a.items[i]? = b.items[i]?) (by
   intro i hi
   have hib : i < b.items.length := by omega
   have hlt : decide ((i : Int) < a.items.length) = true := decide_eq_true (by omega)
   have hxi := List.getElem?_eq_getElem hi
   have hyi := List.getElem?_eq_getElem hib
   have hmem : a.items[i] ∈ a.items := List.getElem_mem hi
   obtain ⟨q, hq, hiff⟩ := ih _ hmem b.items[i] (f7 _ hmem)
   have hrel : relV a.items[i] a := hmem
   cases q with
   | true =>
    refine .inl ⟨by rw [hxi, hyi, hiff.1 rfl], ?_⟩
    simp only [gQ8z, hlt, cond_true, qc, hxi, hyi, Option.bind_some, if_pos hrel, hq, Bool.not_true, cond_false, qk hi (show a.items.length ≤ 9223372036854775807 by omega)]
   | false =>
    refine .inr ⟨fun he => ?_, ?_⟩
    ·rw [hxi, hyi] at he; simp at he
     have := hiff.2 he; cases this
    ·simp only [gQ8z, hlt, cond_true, qc, hxi, hyi, Option.bind_some, if_pos hrel, hq, Bool.not_false]) (by simp [gQ8z])
  refine ⟨q, by simp [h5', hq1], hq2.trans ⟨fun hall => ?_, ?_⟩⟩
  ·exact qbw h1 h2 h3 (q76 h5 hall) h4
  ·rintro rfl i _; rfl
inductive Refs : Val → Val → Prop
 | unk {a b : Val} : b.kind = 6 → Refs a b
 | node {a b : Val} : a.kind = b.kind → a.num = b.num → a.str = b.str → a.keys = b.keys → a.items.length = b.items.length → (∀ (i : Nat) (x y : Val), a.items[i]? = some x → b.items[i]? = some y → Refs x y) → Refs a b
open Classical in
theorem qtw (a b : Val) : tQb3 a b = gQ9p (fun a0 a1 => if relV a0 a then tQb3 a0 a1 else none) a b := q2t a b
open Classical in
theorem qm7 (a : Val) : ∀ b : Val, a.Fits → ∃ q, tQb3 a b = some q ∧ (q = true ↔ Refs a b) := by
 induction a using wfV.induction with
 | h a ih =>
  intro b hf
  obtain ⟨f1, f2, f3, f4, f5, f6, f7⟩ := hf.parts
  rw [qtw]
  unfold gQ9p
  by_cases h6 : b.kind = 6
  ·exact ⟨true, by simp [h6], by simp; exact .unk h6⟩
  have no : ∀ {c : Prop}, (Refs a b → c) → ¬ c → (false = true ↔ Refs a b) := fun h hc => ⟨fun h => (by cases h), fun r => absurd (h r) hc⟩
  have inv : Refs a b → a.kind = b.kind ∧ a.num = b.num ∧ a.str = b.str ∧ a.keys = b.keys ∧ a.items.length = b.items.length ∧ ∀ (i : Nat) (x y : Val), a.items[i]? = some x → b.items[i]? = some y → Refs x y := by
   intro h
   cases h with
   | unk h => exact absurd h h6
   | node e1 e2 e3 e4 e5 e6 => exact ⟨e1, e2, e3, e4, e5, e6⟩
  rw [decide_eq_false h6]
  simp only [cond_false]
  by_cases h1 : a.kind = b.kind
  case neg => exact ⟨false, by simp [h1], no (fun r => (inv r).1) h1⟩
  by_cases h2 : a.num = b.num
  case neg => exact ⟨false, by simp [h1, h2], no (fun r => (inv r).2.1) h2⟩
  by_cases h3 : a.str = b.str
  case neg => exact ⟨false, by simp [h1, h2, h3], no (fun r => (inv r).2.2.1) h3⟩
  rw [decide_eq_true h1, decide_eq_true h2, decide_eq_true h3, qd0 _ _ (by have := q16 f5 (by decide); omega)]
  simp only [cond_true, Option.bind_some]
  by_cases h4 : a.keys = b.keys
  case neg => exact ⟨false, by simp [h4], no (fun r => (inv r).2.2.2.1) h4⟩
  rw [decide_eq_true h4]
  simp only [cond_true, gQ9r]
  by_cases h5 : a.items.length = b.items.length
  case neg =>
   have h5' : ¬ (a.items.length : Int) = b.items.length := by omega
   exact ⟨false, by simp [h5'], no (fun r => (inv r).2.2.2.2.1) h5⟩
  have h5' : (a.items.length : Int) = b.items.length := by omega
  have hn := q16 f4 (by decide)
  obtain ⟨q, hq1, hq2⟩ := qe1 (body := gQ9s (fun a0 a1 => if relV a0 a then tQb3 a0 a1 else none) a.items b.items) a.items.length (fun i => ∀ x y, a.items[i]? = some x → b.items[i]? = some y → Refs x y) (by
   intro i hi
   have hib : i < b.items.length := by omega
   have hlt : decide ((i : Int) < a.items.length) = true := decide_eq_true (by omega)
   have hxi := List.getElem?_eq_getElem hi
   have hyi := List.getElem?_eq_getElem hib
   have hmem : a.items[i] ∈ a.items := List.getElem_mem hi
   obtain ⟨q, hq, hiff⟩ := ih _ hmem b.items[i] (f7 _ hmem)
   have hrel : relV a.items[i] a := hmem
   cases q with
   | true =>
    refine .inl ⟨fun x y hx hy => ?_, ?_⟩
    ·rw [hxi] at hx; rw [hyi] at hy; cases hx; cases hy; exact hiff.1 rfl
    ·simp only [gQ9s, hlt, cond_true, qc, hxi, hyi, Option.bind_some, if_pos hrel, hq, Bool.not_true, cond_false, qk hi (show a.items.length ≤ 9223372036854775807 by omega)]
   | false =>
    refine .inr ⟨fun he => ?_, ?_⟩
    ·have := hiff.2 (he _ _ hxi hyi); cases this
    ·simp only [gQ9s, hlt, cond_true, qc, hxi, hyi, Option.bind_some, if_pos hrel, hq, Bool.not_false]) (by simp [gQ9s])
  refine ⟨q, by simp [h5', hq1], hq2.trans ⟨fun hall => ?_, fun r i _ => (inv r).2.2.2.2.2 i⟩⟩
  refine .node h1 h2 h3 h4 h5 fun i x y hx hy => hall i ?_ x y hx hy
  rcases Nat.lt_or_ge i a.items.length with k | k
  ·exact k
  ·rw [List.getElem?_eq_none k] at hx; cases hx
theorem Refs.refl (a : Val) : Refs a a := by
 induction a using wfV.induction with
 | h a ih =>
  refine .node rfl rfl rfl rfl rfl fun i x y hx hy => ?_
  rw [hx] at hy; cases hy
  exact ih x (List.mem_of_getElem? hx)
end Abs
end Go.Proofs.YtkffpfapfljinaaGreatDoor
namespace Go.Proofs.YtkffpfapfljinaaGreatDoor
namespace Abs
open Go.RowKit
abbrev vZ : Val := Val.mk 0 0 eS [] []
def look : List ByteArray → List Val → ByteArray → Val
 | k :: ks, x :: xs, n => if k = n then x else look ks xs n
 | _, _, _ => vZ
theorem q4p : ∀ (keys : List ByteArray) (items : List Val) (n : ByteArray) (i : Nat) (x : Val), Rising keys → keys[i]? = some n → items[i]? = some x → look keys items n = x
 | [], _, n, i, x, _, h, _ => by simp at h
 | k :: ks, [], n, i, x, _, _, h => by simp at h
 | k :: ks, y :: ys, n, i, x, hr, h1, h2 => by
  cases i with
  | zero => simp at h1 h2; subst h1 h2; simp [look]
  | succ i =>
   have hne : k ≠ n := fun he => by
    have := q7h hr (i := 0) (j := i + 1) (a := n) (by simp [he]) h1
    omega
   simp only [look, if_neg hne]
   exact q4p ks ys n i x (fun a b hab p q hp hq => hr (a + 1) (b + 1) (by omega) p q (by simpa using hp) (by simpa using hq)) (by simpa using h1) (by simpa using h2)
theorem qb2 : ∀ (keys : List ByteArray) (items : List Val) (n : ByteArray), n ∉ keys → look keys items n = vZ
 | [], _, _, _ => by simp [look]
 | _ :: _, [], _, _ => by simp [look]
 | k :: ks, y :: ys, n, h => by
  simp only [List.mem_cons, not_or] at h
  simp only [look, if_neg (Ne.symm h.1)]
  exact qb2 ks ys n h.2
theorem q8h : ∀ (keys : List ByteArray) (items : List Val) (n : ByteArray), look keys items n ∈ items ∨ look keys items n = vZ
 | [], _, _ => by simp [look]
 | _ :: _, [], _ => by simp [look]
 | k :: ks, y :: ys, n => by
  simp only [look]
  split
  ·exact .inl (List.mem_cons_self ..)
  ·rcases q8h ks ys n with h | h
   ·exact .inl (List.mem_cons_of_mem _ h)
   ·exact .inr h
theorem qpk (v : Val) (key : ByteArray) (hf : v.Fits) (hk : v.kind = 5) (hl : v.keys.length = v.items.length) (hr : Rising v.keys) : ∃ b, gQ91 v key = some (look v.keys v.items key, b) := by
 obtain ⟨f1, f2, f3, f4, f5, f6, f7⟩ := hf.parts
 obtain ⟨q, h1, h2, h3, h4, h5⟩ := q7i v.keys key (by have := q16 f5 (by decide); omega) hr
 have hk' : decide (v.kind = 5) = true := decide_eq_true hk
 unfold gQ91
 rw [h1, Option.bind_some, hk', Bool.not_true, cond_false]
 cases hq : q.2 with
 | false =>
  rw [Bool.not_false, cond_true, qb2 _ _ _ (h5 hq)]
  exact ⟨_, rfl⟩
 | true =>
  rw [Bool.not_true, cond_false]
  have e := h4 hq
  obtain ⟨hi, _⟩ := List.getElem?_eq_some_iff.1 e
  have hi' : q.1.toNat < v.items.length := by omega
  have hd : decide (q.1 ≥ (v.items.length : Int)) = false := decide_eq_false (by omega)
  have hI : idx v.items q.1 = some v.items[q.1.toNat] := by
   have := qc v.items q.1.toNat
   rw [show ((q.1.toNat : Nat) : Int) = q.1 by omega] at this
   rw [this, List.getElem?_eq_getElem hi']
  rw [hd, cond_false, hI, Option.bind_some, q87 _ (f7 _ (List.getElem_mem hi')), Option.bind_some]
  rw [q4p _ _ _ _ _ hr e (List.getElem?_eq_getElem hi')]
  exact ⟨_, rfl⟩
inductive Conf : Val → Ty → Prop
 | any {v : Val} {t : Ty} : v.kind = 0 ∨ v.kind = 6 ∨ t.kind = 0 → Conf v t
 | prim {v : Val} {t : Ty} : t.kind = 1 ∨ t.kind = 2 ∨ t.kind = 3 → v.kind = t.kind → Conf v t
 | coll {v : Val} {t e : Ty} {r : List Ty} : t.kind = 4 ∨ t.kind = 5 → v.kind = t.kind → t.elems = e :: r → (∀ x ∈ v.items, Conf x e) → Conf v t
 | obj {v : Val} {t : Ty} : ¬ (t.kind = 0 ∨ t.kind = 1 ∨ t.kind = 2 ∨ t.kind = 3 ∨ t.kind = 4 ∨ t.kind = 5) → v.kind = 5 → v.keys = t.names → v.items.length = t.elems.length → (∀ (i : Nat) (x : Val) (e : Ty), v.items[i]? = some x → t.elems[i]? = some e → Conf x e) → Conf v t
open Classical in
theorem qp0 (v : Val) (t : Ty) : tQar v t = gQ8c (gQ8j fun a0 a1 => if relV a0 v then tQar a0 a1 else none) (fun a0 a1 => if relV a0 v then tQar a0 a1 else none) v t := q2t v t
theorem qov (rec : Val → Ty → Option Bool) (l : List Val) (ts : List Ty) (hn : l.length ≤ 140737488351232) (h : ∀ x ∈ l, ∀ e, ∃ q, rec x e = some q ∧ (q = true ↔ Conf x e)) :
  ∃ q, gQ8j rec l ts = some q ∧ (q = true ↔ ∃ e r, ts = e :: r ∧ ∀ x ∈ l, Conf x e) := by
 unfold gQ8j
 cases ts with
 | nil => exact ⟨false, rfl, by simp⟩
 | cons e r =>
  have hd : decide (((e :: r).length : Int) > 0) = true := decide_eq_true (by simp only [List.length_cons]; omega)
  rw [hd, cond_true]
  unfold gQ8k
  have hl := q13 (body := gQ8n rec l (e :: r)) (fun s => ∃ i : Nat, s = (i : Int) ∧ i ≤ l.length ∧ ∀ j x, j < i → l[j]? = some x → Conf x e) (fun s => l.length - s.toNat) (fun n => decide (n ≥ 0) = false ↔ ∀ x ∈ l, Conf x e) (by
   rintro s ⟨i, rfl, hi, hp⟩
   rcases Nat.eq_or_lt_of_le hi with h0 | h0
   ·subst h0
    refine .inr ⟨-1, by simp only [gQ8n, decide_eq_false (show ¬ (l.length : Int) < l.length by omega), cond_false], ?_⟩
    refine ⟨fun _ x hx => ?_, fun _ => by decide⟩
    obtain ⟨j, hj⟩ := List.getElem?_of_mem hx
    exact hp j x (List.getElem?_eq_some_iff.1 hj).1 hj
   ·have hx := List.getElem?_eq_getElem h0
    have hm : l[i] ∈ l := List.getElem_mem h0
    obtain ⟨q, hq, hiff⟩ := h _ hm e
    have hI : idx (e :: r) 0 = some e := by simp [idx]
    cases q with
    | true =>
     refine .inl ⟨((i + 1 : Nat) : Int), by simp only [gQ8n, gQ8p, decide_eq_true (show (i : Int) < l.length by omega), cond_true, qc, hx, Option.bind_some, hI, hq, Bool.not_true, cond_false, qk h0 (show l.length ≤ 9223372036854775807 by omega)], ⟨i + 1, rfl, h0, fun j x hj e1 => ?_⟩, by simp only [Int.toNat_natCast]; omega⟩
     rcases Nat.eq_or_lt_of_le (Nat.le_of_lt_succ hj) with rfl | hj
     ·rw [hx] at e1; cases e1; exact hiff.1 rfl
     ·exact hp j x hj e1
    | false =>
     refine .inr ⟨(i : Int), by simp only [gQ8n, gQ8p, decide_eq_true (show (i : Int) < l.length by omega), cond_true, qc, hx, Option.bind_some, hI, hq, Bool.not_false], ?_⟩
     refine ⟨fun hh => ?_, fun hall => ?_⟩
     ·simp at hh
     ·have := hiff.2 (hall _ hm); cases this) 0 ⟨0, rfl, Nat.zero_le _, fun j x hj => by omega⟩
  obtain ⟨n, h1, h2⟩ := hl
  unfold gQ8m
  rw [h1, Option.bind_some, Option.bind_some]
  refine ⟨_, rfl, ?_⟩
  rw [Bool.not_eq_true', h2]
  constructor
  ·exact fun hh => ⟨e, r, rfl, hh⟩
  ·rintro ⟨e', r', he, hh⟩; cases he; exact hh
theorem Conf.inv {v : Val} {t : Ty} (h : Conf v t) (h0 : v.kind ≠ 0) (h6 : v.kind ≠ 6) (ht : t.kind ≠ 0) :
  ((t.kind = 1 ∨ t.kind = 2 ∨ t.kind = 3) ∧ v.kind = t.kind) ∨ ((t.kind = 4 ∨ t.kind = 5) ∧ v.kind = t.kind ∧ ∃ e r, t.elems = e :: r ∧ ∀ x ∈ v.items, Conf x e) ∨
  (¬ (t.kind = 0 ∨ t.kind = 1 ∨ t.kind = 2 ∨ t.kind = 3 ∨ t.kind = 4 ∨ t.kind = 5) ∧ v.kind = 5 ∧ v.keys = t.names ∧ v.items.length = t.elems.length ∧ (∀ (i : Nat) (x : Val) (e : Ty), v.items[i]? = some x → t.elems[i]? = some e → Conf x e)) := by
 cases h with
 | any h => rcases h with h | h | h <;> contradiction
 | prim h1 h2 => exact .inl ⟨h1, h2⟩
 | coll h1 h2 h3 h4 => exact .inr (.inl ⟨h1, h2, _, _, h3, h4⟩)
 | obj h1 h2 h3 h4 h5 => exact .inr (.inr ⟨h1, h2, h3, h4, h5⟩)
open Classical in
theorem qm4 (v : Val) : ∀ t : Ty, v.Fits → ∃ q, tQar v t = some q ∧ (q = true ↔ Conf v t) := by
 induction v using wfV.induction with
 | h v ih =>
  intro t hf
  obtain ⟨f1, f2, f3, f4, f5, f6, f7⟩ := hf.parts
  have hn := q16 f4 (by decide)
  have IH : ∀ x ∈ v.items, ∀ e, ∃ q, (fun a0 a1 => if relV a0 v then tQar a0 a1 else none) x e = some q ∧ (q = true ↔ Conf x e) := by
   intro x hx e
   simp only [if_pos (show relV x v from hx)]
   exact ih x hx e (f7 x hx)
  rw [qp0]
  generalize (fun a0 a1 => if relV a0 v then tQar a0 a1 else none) = rec at IH
  unfold gQ8c
  by_cases c0 : v.kind = 0
  ·exact ⟨true, by rw [decide_eq_true c0]; rfl, by simp; exact .any (.inl c0)⟩
  by_cases c6 : v.kind = 6
  ·exact ⟨true, by rw [decide_eq_false c0, decide_eq_true c6]; rfl, by simp; exact .any (.inr (.inl c6))⟩
  by_cases t0 : t.kind = 0
  ·exact ⟨true, by rw [decide_eq_false c0, decide_eq_false c6, decide_eq_true t0]; rfl, by simp; exact .any (.inr (.inr t0))⟩
  rw [decide_eq_false c0, decide_eq_false c6, decide_eq_false t0]
  simp only [cond_false]
  by_cases t1 : t.kind = 1
  ·refine ⟨decide (v.kind = 1), by rw [decide_eq_true t1]; rfl, ?_⟩
   rw [decide_eq_true_eq]
   refine ⟨fun hh => .prim (.inl t1) (by omega), fun hh => ?_⟩
   rcases hh.inv c0 c6 t0 with h | h | h
   ·omega
   ·omega
   ·omega
  by_cases t2 : t.kind = 2
  ·refine ⟨decide (v.kind = 2), by rw [decide_eq_false t1, decide_eq_true t2]; rfl, ?_⟩
   rw [decide_eq_true_eq]
   refine ⟨fun hh => .prim (.inr (.inl t2)) (by omega), fun hh => ?_⟩
   rcases hh.inv c0 c6 t0 with h | h | h
   ·omega
   ·omega
   ·omega
  by_cases t3 : t.kind = 3
  ·refine ⟨decide (v.kind = 3), by rw [decide_eq_false t1, decide_eq_false t2, decide_eq_true t3]; rfl, ?_⟩
   rw [decide_eq_true_eq]
   refine ⟨fun hh => .prim (.inr (.inr t3)) (by omega), fun hh => ?_⟩
   rcases hh.inv c0 c6 t0 with h | h | h
   ·omega
   ·omega
   ·omega
  rw [decide_eq_false t1, decide_eq_false t2, decide_eq_false t3]
  simp only [cond_false]
  obtain ⟨q, hq1, hq2⟩ := qov rec v.items t.elems hn IH
  by_cases t4 : t.kind = 4
  ·rw [decide_eq_true t4, cond_true]
   by_cases v4 : v.kind = 4
   ·rw [decide_eq_true v4, cond_true, hq1, Option.bind_some]
    refine ⟨q, rfl, hq2.trans ⟨?_, fun hh => ?_⟩⟩
    ·rintro ⟨e, r, h1, h2⟩; exact .coll (.inl t4) (by omega) h1 h2
    ·rcases hh.inv c0 c6 t0 with h | h | h
     ·omega
     ·exact h.2.2
     ·omega
   ·rw [decide_eq_false v4, cond_false]
    refine ⟨false, rfl, ⟨fun h => (by cases h), fun hh => ?_⟩⟩
    rcases hh.inv c0 c6 t0 with h | h | h
    ·omega
    ·omega
    ·omega
  by_cases t5 : t.kind = 5
  ·rw [decide_eq_false t4, decide_eq_true t5, cond_true, cond_false]
   by_cases v5 : v.kind = 5
   ·rw [decide_eq_true v5, cond_true, hq1, Option.bind_some]
    refine ⟨q, rfl, hq2.trans ⟨?_, fun hh => ?_⟩⟩
    ·rintro ⟨e, r, h1, h2⟩; exact .coll (.inr t5) (by omega) h1 h2
    ·rcases hh.inv c0 c6 t0 with h | h | h
     ·omega
     ·exact h.2.2
     ·omega
   ·rw [decide_eq_false v5, cond_false]
    refine ⟨false, rfl, ⟨fun h => (by cases h), fun hh => ?_⟩⟩
    rcases hh.inv c0 c6 t0 with h | h | h
    ·omega
    ·omega
    ·omega
  rw [decide_eq_false t4, decide_eq_false t5]
  simp only [cond_false]
  have ht : ¬ (t.kind = 0 ∨ t.kind = 1 ∨ t.kind = 2 ∨ t.kind = 3 ∨ t.kind = 4 ∨ t.kind = 5) := by omega
  have inv : Conf v t → v.kind = 5 ∧ v.keys = t.names ∧ v.items.length = t.elems.length ∧ (∀ (i : Nat) (x : Val) (e : Ty), v.items[i]? = some x → t.elems[i]? = some e → Conf x e) := by
   intro hh
   rcases hh.inv c0 c6 t0 with h | h | h
   ·omega
   ·omega
   ·exact h.2
  by_cases v5 : v.kind = 5
  case neg =>
   rw [decide_eq_false v5, Bool.not_false, cond_true]
   exact ⟨false, rfl, ⟨fun h => (by cases h), fun hh => absurd (inv hh).1 v5⟩⟩
  rw [decide_eq_true v5, Bool.not_true, cond_false, qd0 _ _ (by have := q16 f5 (by decide); omega), Option.bind_some]
  by_cases hk : v.keys = t.names
  case neg =>
   rw [decide_eq_false hk, Bool.not_false, cond_true]
   exact ⟨false, rfl, ⟨fun h => (by cases h), fun hh => absurd (inv hh).2.1 hk⟩⟩
  rw [decide_eq_true hk, Bool.not_true, cond_false]
  by_cases hl : v.items.length = t.elems.length
  case neg =>
   rw [decide_eq_false (show ¬ (v.items.length : Int) = t.elems.length by omega), Bool.not_false, cond_true]
   exact ⟨false, rfl, ⟨fun h => (by cases h), fun hh => absurd (inv hh).2.2.1 hl⟩⟩
  rw [decide_eq_true (show (v.items.length : Int) = t.elems.length by omega), Bool.not_true, cond_false]
  obtain ⟨q, hq1, hq2⟩ := qe1 (body := gQ8d rec v t) v.items.length (fun i => ∀ x e, v.items[i]? = some x → t.elems[i]? = some e → Conf x e) (by
   intro i hi
   have hx := List.getElem?_eq_getElem hi
   have hy := List.getElem?_eq_getElem (show i < t.elems.length by omega)
   have hm : v.items[i] ∈ v.items := List.getElem_mem hi
   obtain ⟨q, hq, hiff⟩ := IH _ hm t.elems[i]
   cases q with
   | true =>
    refine .inl ⟨fun x e h1 h2 => ?_, by simp only [gQ8d, decide_eq_true (show (i : Int) < v.items.length by omega), cond_true, qc, hx, hy, Option.bind_some, hq, Bool.not_true, cond_false, qk hi (show v.items.length ≤ 9223372036854775807 by omega)]⟩
    rw [hx] at h1; rw [hy] at h2; cases h1; cases h2; exact hiff.1 rfl
   | false =>
    refine .inr ⟨fun hh => ?_, by simp only [gQ8d, decide_eq_true (show (i : Int) < v.items.length by omega), cond_true, qc, hx, hy, Option.bind_some, hq, Bool.not_false]⟩
    have := hiff.2 (hh _ _ hx hy); cases this) (by simp only [gQ8d, decide_eq_false (show ¬ (v.items.length : Int) < v.items.length by omega), cond_false])
  refine ⟨q, hq1, hq2.trans ⟨fun hh => .obj ht v5 hk hl fun i x e h1 h2 => hh i (List.getElem?_eq_some_iff.1 h1).1 x e h1 h2, fun hh i _ x e h1 h2 => (inv hh).2.2.2 i x e h1 h2⟩⟩
end Abs
end Go.Proofs.YtkffpfapfljinaaGreatDoor
namespace Go.Proofs.YtkffpfapfljinaaGreatDoor
set_option linter.unusedSimpArgs false
set_option linter.unusedVariables false
namespace Abs
open Go.RowKit
theorem q4y {p : Ty → Prop} (h : ∀ t, (∀ e ∈ t.elems, p e) → p t) (t : Ty) : p t := wfT.induction (C := p) t h
inductive Few : Ty → Prop
 | mk {t : Ty} : t.elems.length ≤ 1000 → (∀ e ∈ t.elems, Few e) → Few t
inductive Okt : Ty → Prop
 | mk {t : Ty} : 0 ≤ t.kind → t.kind ≤ 6 → (t.kind = 6 → t.elems.length = t.names.length) → (t.kind = 4 ∨ t.kind = 5 → t.elems.length = 1) → Rising t.names → (∀ e ∈ t.elems, Okt e) → Okt t
theorem tlen {n : Nat} (h : n * 56 ≤ 140737488351232) : n ≤ 140737488351232 := q16 h (by decide)
open Classical in
theorem qqm (t : Ty) (n lv : Int) : tQaf t n lv = gQ2s (fun a0 a1 a2 => if relT a0 t then tQaf a0 a1 a2 else none) t n lv := q2t t (n, lv)
theorem qbz {x : Int} (h1 : -1000000 ≤ x) (h2 : x ≤ 1000000) : IntKind.i64.wrap x = x := q51 (by omega) (by omega)
theorem qqo (t : Ty) : ∀ n lv : Int, t.Fits → 0 ≤ n → n ≤ 1000 → 0 ≤ lv → lv ≤ 1000 → ∃ r, tQaf t n lv = some r ∧ -1 ≤ r ∧ r ≤ n - 1 ∧ (0 ≤ r → Few t) := by
 induction t using q4y with
 | h t ih =>
  intro n lv hf hn hn2 hl hl2
  obtain ⟨f1, f2, f3, f4, f5⟩ := hf.parts
  rw [qqm]
  unfold gQ2s
  by_cases h1 : n < 1
  ·rw [decide_eq_true h1, cond_true]; exact ⟨-1, rfl, by omega, by omega, fun h => by omega⟩
  by_cases h2 : lv < 1
  ·rw [decide_eq_false h1, decide_eq_true h2, cond_false, cond_true]; exact ⟨-1, rfl, by omega, by omega, fun h => by omega⟩
  rw [decide_eq_false h1, decide_eq_false h2, cond_false, cond_false, qbz (by omega) (by omega)]
  have hlen := tlen f2
  refine q13 (fun s : Int × Int => ∃ i : Nat, s.2 = (i : Int) ∧ i ≤ t.elems.length ∧ -1 ≤ s.1 ∧ s.1 + i ≤ n - 1 ∧ (0 ≤ s.1 → ∀ (j : Nat) e, j < i → t.elems[j]? = some e → Few e)) (fun s => t.elems.length - s.2.toNat) (fun r => -1 ≤ r ∧ r ≤ n - 1 ∧ (0 ≤ r → Few t)) ?_ (n - 1, 0) ⟨0, rfl, Nat.zero_le _, by show -1 ≤ n - 1; omega, by show n - 1 + ((0 : Nat) : Int) ≤ n - 1; omega, fun _ j e hj => by omega⟩
  rintro ⟨m, i'⟩ ⟨i, hi', hi, hm, hmi, hp⟩
  simp only at hi' hm hmi hp
  subst hi'
  rcases Nat.eq_or_lt_of_le hi with h0 | h0
  ·subst h0
   refine .inr ⟨m, by simp only [gQ2t, decide_eq_false (show ¬ (t.elems.length : Int) < t.elems.length by omega), cond_false], hm, by omega, fun h => .mk (by omega) fun e he => ?_⟩
   obtain ⟨j, hj⟩ := List.getElem?_of_mem he
   exact hp h j e (List.getElem?_eq_some_iff.1 hj).1 hj
  ·by_cases hm0 : 0 ≤ m
   ·have hx := List.getElem?_eq_getElem h0
    have hmem : t.elems[i] ∈ t.elems := List.getElem_mem h0
    obtain ⟨r, r1, r2, r3, r4⟩ := ih _ hmem m (lv - 1) (f5 _ hmem) hm0 (by omega) (by omega) (by omega)
    refine .inl ⟨(r, ((i + 1 : Nat) : Int)), by simp only [gQ2t, decide_eq_true (show (i : Int) < t.elems.length by omega), decide_eq_true (show m ≥ 0 from hm0), cond_true, qc, hx, Option.bind_some, if_pos (show relT t.elems[i] t from hmem), qbz (show -1000000 ≤ lv - 1 by omega) (by omega), r1, qk h0 (show t.elems.length ≤ 9223372036854775807 by omega)], ⟨i + 1, rfl, h0, r2, by show r + ((i + 1 : Nat) : Int) ≤ n - 1; omega, fun hr j e hj he => ?_⟩, by simp only [Int.toNat_natCast]; omega⟩
    rcases Nat.eq_or_lt_of_le (Nat.le_of_lt_succ hj) with rfl | hj
    ·rw [hx] at he; cases he; exact r4 hr
    ·exact hp hm0 j e hj he
   ·refine .inr ⟨m, by simp only [gQ2t, decide_eq_true (show (i : Int) < t.elems.length by omega), decide_eq_false (show ¬ m ≥ 0 from hm0), cond_true, cond_false], hm, by omega, fun h => absurd h hm0⟩
open Classical in
theorem qrd (t : Ty) : tQai t = gQ2v (fun a0 => if relT a0 t then tQai a0 else none) t := q2t t ()
open Classical in
theorem qre (t : Ty) : t.Fits → ∃ r, tQai t = some r := by
 induction t using q4y with
 | h t ih =>
  intro hf
  obtain ⟨f1, f2, f3, f4, f5⟩ := hf.parts
  have hlen := tlen f2
  rw [qrd]
  unfold gQ2v
  have := q13 (body := gQ2w (fun a0 => if relT a0 t then tQai a0 else none) t) (fun s : Int × Int => ∃ i : Nat, s.2 = (i : Int) ∧ i ≤ t.elems.length) (fun s => t.elems.length - s.2.toNat) (fun _ => True) (by
   rintro ⟨m, i'⟩ ⟨i, hi', hi⟩
   simp only at hi'
   subst hi'
   rcases Nat.eq_or_lt_of_le hi with h0 | h0
   ·subst h0
    exact .inr ⟨m, by simp only [gQ2w, decide_eq_false (show ¬ (t.elems.length : Int) < t.elems.length by omega), cond_false], trivial⟩
   ·have hx := List.getElem?_eq_getElem h0
    have hmem : t.elems[i] ∈ t.elems := List.getElem_mem h0
    obtain ⟨r, r1⟩ := ih _ hmem (f5 _ hmem)
    exact .inl ⟨(IntKind.i64.wrap (m + r), ((i + 1 : Nat) : Int)), by simp only [gQ2w, decide_eq_true (show (i : Int) < t.elems.length by omega), cond_true, qc, hx, Option.bind_some, if_pos (show relT t.elems[i] t from hmem), r1, qk h0 (show t.elems.length ≤ 9223372036854775807 by omega)], ⟨i + 1, rfl, h0⟩, by simp only [Int.toNat_natCast]; omega⟩) ((t.names.length : Int), 0) ⟨0, rfl, Nat.zero_le _⟩
  obtain ⟨q, h, _⟩ := this
  exact ⟨q, h⟩
theorem qjk (c : Int) : ∃ b, gQ25 c = some b := by
 unfold gQ25
 cases decide (c ≥ 97) <;> cases decide (c ≤ 122) <;> cases decide (c ≥ 65) <;> cases decide (c ≤ 90) <;> exact ⟨_, rfl⟩
theorem q94 {s : ByteArray} {i : Nat} (h : i < s.size) : sidx s (i : Int) = some ((s[i].toNat : Nat) : Int) := by
 unfold sidx
 rw [dif_pos ⟨by omega, by omega⟩]
 simp
theorem qpp (s : ByteArray) (hs : s.size ≤ 140737488351232) : ∃ b, gQ22 s = some b := by
 unfold gQ22
 by_cases h0 : s = eS
 ·rw [decide_eq_true h0]; exact ⟨_, rfl⟩
 rw [decide_eq_false h0, cond_false]
 cases decide ((s.size : Int) > 64)
 case true => exact ⟨_, rfl⟩
 rw [cond_false]
 have hp : 0 < s.size := by
  rcases Nat.eq_zero_or_pos s.size with h | h
  ·exfalso; apply h0
   exact ByteArray.ext (Array.eq_empty_of_size_eq_zero h)
  ·exact h
 obtain ⟨b, hb⟩ := qjk ((s[0].toNat : Nat) : Int)
 have h3 := q94 hp
 rw [show sidx s 0 = sidx s ((0 : Nat) : Int) from rfl, h3, Option.bind_some, hb, Option.bind_some]
 cases b
 case false => exact ⟨_, rfl⟩
 rw [Bool.not_true, cond_false]
 have := q13 (body := gQ23 s) (fun k => ∃ i : Nat, k = (i : Int) ∧ i ≤ s.size) (fun k => s.size - k.toNat) (fun _ => True) (by
  rintro k ⟨i, rfl, hi⟩
  rcases Nat.eq_or_lt_of_le hi with h0 | h0
  ·subst h0
   exact .inr ⟨true, by simp only [gQ23, decide_eq_false (show ¬ (s.size : Int) < s.size by omega), cond_false], trivial⟩
  ·obtain ⟨b, hb⟩ := qjk ((s[i].toNat : Nat) : Int)
   have e1 : gQ23 s (i : Int) = bif (!b) then bif (decide (((s[i].toNat : Nat) : Int) < 48)) then some (.inr false) else bif (decide (((s[i].toNat : Nat) : Int) > 57)) then some (.inr false) else some (.inl ((i + 1 : Nat) : Int)) else some (.inl ((i + 1 : Nat) : Int)) := by
    simp only [gQ23, decide_eq_true (show (i : Int) < s.size by omega), cond_true, q94 h0, Option.bind_some, hb, qk h0 (show s.size ≤ 9223372036854775807 by omega)]
   have next : ∃ s' : Int, some (Sum.inl (β := Bool) ((i + 1 : Nat) : Int)) = some (.inl s') ∧ (∃ j : Nat, s' = (j : Int) ∧ j ≤ s.size) ∧ s.size - s'.toNat < s.size - (i : Int).toNat := ⟨_, rfl, ⟨i + 1, rfl, h0⟩, by simp only [Int.toNat_natCast]; omega⟩
   rw [e1]
   cases b
   ·rw [Bool.not_false, cond_true]
    cases decide (((s[i].toNat : Nat) : Int) < 48)
    ·rw [cond_false]
     cases decide (((s[i].toNat : Nat) : Int) > 57)
     ·exact .inl next
     ·exact .inr ⟨false, rfl, trivial⟩
    ·exact .inr ⟨false, rfl, trivial⟩
   ·exact .inl next) 0 ⟨0, rfl, Nat.zero_le _⟩
 obtain ⟨q, h, _⟩ := this
 exact ⟨q, h⟩
theorem qum (t : Ty) : ∃ b, gQ2y t = some b ∧ (b = true → 0 ≤ t.kind ∧ t.kind ≤ 6 ∧ (t.kind = 6 → t.elems.length = t.names.length) ∧ (t.kind = 4 ∨ t.kind = 5 → t.elems.length = 1)) := by
 unfold gQ2y
 by_cases h1 : t.kind < 0
 ·rw [decide_eq_true h1]; exact ⟨false, rfl, fun h => by cases h⟩
 by_cases h2 : t.kind > 6
 ·rw [decide_eq_false h1, decide_eq_true h2]; exact ⟨false, rfl, fun h => by cases h⟩
 rw [decide_eq_false h1, decide_eq_false h2, cond_false, cond_false]
 by_cases h6 : t.kind = 6
 ·rw [decide_eq_true h6, cond_true]
  exact ⟨_, rfl, fun h => ⟨by omega, by omega, fun _ => by have := of_decide_eq_true h; omega, fun _ => by omega⟩⟩
 rw [decide_eq_false h6, cond_false]
 by_cases h4 : t.kind = 4
 ·rw [decide_eq_true h4, cond_true]
  by_cases hl : (t.elems.length : Int) = 1
  ·rw [decide_eq_true hl, cond_true]; exact ⟨_, rfl, fun h => ⟨by omega, by omega, fun _ => by omega, fun _ => by omega⟩⟩
  ·rw [decide_eq_false hl, cond_false]; exact ⟨_, rfl, fun h => by cases h⟩
 rw [decide_eq_false h4, cond_false]
 by_cases h5 : t.kind = 5
 ·rw [decide_eq_true h5, cond_true]
  by_cases hl : (t.elems.length : Int) = 1
  ·rw [decide_eq_true hl, cond_true]; exact ⟨_, rfl, fun h => ⟨by omega, by omega, fun _ => by omega, fun _ => by omega⟩⟩
  ·rw [decide_eq_false hl, cond_false]; exact ⟨_, rfl, fun h => by cases h⟩
 rw [decide_eq_false h5, cond_false]
 by_cases hl : (t.elems.length : Int) = 0
 ·rw [decide_eq_true hl, cond_true]; exact ⟨_, rfl, fun h => ⟨by omega, by omega, fun _ => by omega, fun _ => by omega⟩⟩
 ·rw [decide_eq_false hl, cond_false]; exact ⟨_, rfl, fun h => by cases h⟩
theorem qf4 {l : List ByteArray} (h : ∀ (i : Nat) a b, l[i]? = some a → l[i + 1]? = some b → Op.bytesLess a.toList b.toList = true) : Rising l := by
 intro i j hij a b ha hb
 obtain ⟨d, rfl⟩ : ∃ d, j = i + 1 + d := ⟨j - i - 1, by omega⟩
 clear hij
 induction d generalizing b with
 | zero => exact h i a b ha hb
 | succ d ih =>
  have hlt : i + 1 + d < l.length := by have := (List.getElem?_eq_some_iff.1 hb).1; omega
  exact q3p (ih _ (List.getElem?_eq_getElem hlt)) (h _ _ _ (List.getElem?_eq_getElem hlt) hb)
open Classical in
theorem qa3 (t : Ty) (lv : Int) : tQac t lv = gQ2o (fun a0 a1 => if relT a0 t then tQac a0 a1 else none) t lv := q2t t lv
open Classical in
theorem qnr (t : Ty) : ∀ lv : Int, t.Fits → 0 ≤ lv → lv ≤ 1000 → ∃ r, tQac t lv = some r ∧ (r = 0 → Okt t) := by
 induction t using q4y with
 | h t ih =>
  intro lv hf hl hl2
  obtain ⟨f1, f2, f3, f4, f5⟩ := hf.parts
  have hlen := tlen f2
  have hnam := q16 f3 (by decide)
  rw [qa3]
  have IH : ∀ e ∈ t.elems, ∀ l2, 0 ≤ l2 → l2 ≤ 1000 → ∃ r, (fun a0 a1 => if relT a0 t then tQac a0 a1 else none) e l2 = some r ∧ (r = 0 → Okt e) := by
   intro e he l2 h1 h2
   simp only [if_pos (show relT e t from he)]
   exact ih e he l2 (f5 e he) h1 h2
  generalize (fun a0 a1 => if relT a0 t then tQac a0 a1 else none) = rec at IH
  unfold gQ2o
  by_cases h32 : lv > 32
  ·rw [decide_eq_true h32]; exact ⟨4, rfl, fun h => by cases h⟩
  rw [decide_eq_false h32, cond_false]
  obtain ⟨b, hb, hsh⟩ := qum t
  rw [hb, Option.bind_some]
  cases b
  case false => exact ⟨1, rfl, fun h => by cases h⟩
  obtain ⟨s1, s2, s3, s4⟩ := hsh rfl
  rw [Bool.not_true, cond_false]
  refine q13 (body := gQ2p rec t lv) (fun k => ∃ i : Nat, k = (i : Int) ∧ i ≤ t.names.length ∧ ∀ (j : Nat) a b, j + 1 < i → t.names[j]? = some a → t.names[j + 1]? = some b → Op.bytesLess a.toList b.toList = true) (fun k => t.names.length - k.toNat) (fun r => r = 0 → Okt t) ?_ 0 ⟨0, rfl, Nat.zero_le _, fun j a b hj => by omega⟩
  rintro k ⟨i, rfl, hi, hp⟩
  rcases Nat.eq_or_lt_of_le hi with h0 | h0
  ·subst h0
   right
   have hri : Rising t.names := qf4 fun j a b ha hb2 => hp j a b (List.getElem?_eq_some_iff.1 hb2).1 ha hb2
   have := q13 (body := gQ2q rec t lv) (fun k => ∃ i : Nat, k = (i : Int) ∧ i ≤ t.elems.length ∧ ∀ (j : Nat) e, j < i → t.elems[j]? = some e → Okt e) (fun k => t.elems.length - k.toNat) (fun r => ∃ q, r = .inr q ∧ (q = 0 → Okt t)) (by
    rintro k ⟨i, rfl, hi, hp⟩
    rcases Nat.eq_or_lt_of_le hi with h0 | h0
    ·subst h0
     refine .inr ⟨.inr 0, by simp only [gQ2q, decide_eq_false (show ¬ (t.elems.length : Int) < t.elems.length by omega), cond_false], 0, rfl, fun _ => .mk s1 s2 s3 s4 hri fun e he => ?_⟩
     obtain ⟨j, hj⟩ := List.getElem?_of_mem he
     exact hp j e (List.getElem?_eq_some_iff.1 hj).1 hj
    ·have hx := List.getElem?_eq_getElem h0
     have hmem : t.elems[i] ∈ t.elems := List.getElem_mem h0
     obtain ⟨r, r1, r2⟩ := IH _ hmem (lv + 1) (by omega) (by omega)
     by_cases hr : r = 0
     ·refine .inl ⟨((i + 1 : Nat) : Int), by simp only [gQ2q, decide_eq_true (show (i : Int) < t.elems.length by omega), cond_true, qc, hx, Option.bind_some, qbz (show -1000000 ≤ lv + 1 by omega) (by omega), r1, decide_eq_true hr, Bool.not_true, cond_false, qk h0 (show t.elems.length ≤ 9223372036854775807 by omega)], ⟨i + 1, rfl, h0, fun j e hj he => ?_⟩, by simp only [Int.toNat_natCast]; omega⟩
      rcases Nat.eq_or_lt_of_le (Nat.le_of_lt_succ hj) with rfl | hj
      ·rw [hx] at he; cases he; exact r2 hr
      ·exact hp j e hj he
     ·exact .inr ⟨.inr r, by simp only [gQ2q, decide_eq_true (show (i : Int) < t.elems.length by omega), cond_true, qc, hx, Option.bind_some, qbz (show -1000000 ≤ lv + 1 by omega) (by omega), r1, decide_eq_false hr, Bool.not_false], r, rfl, fun h => absurd h hr⟩) 0 ⟨0, rfl, Nat.zero_le _, fun j e hj => by omega⟩
   obtain ⟨r, h1, q, rfl, h3⟩ := this
   exact ⟨q, by simp only [gQ2p, decide_eq_false (show ¬ (t.names.length : Int) < t.names.length by omega), cond_false, h1], h3⟩
  ·have hx := List.getElem?_eq_getElem h0
   have hmem : t.names[i] ∈ t.names := List.getElem_mem h0
   obtain ⟨b, hb⟩ := qpp t.names[i] (f4 _ hmem)
   have hlt : decide ((i : Int) < t.names.length) = true := decide_eq_true (by omega)
   have hw := qk h0 (show t.names.length ≤ 9223372036854775807 by omega)
   cases b
   case false => exact .inr ⟨7, by simp only [gQ2p, hlt, cond_true, qc, hx, Option.bind_some, hb, Bool.not_false], fun h => by cases h⟩
   cases i with
   | zero =>
    refine .inl ⟨((0 + 1 : Nat) : Int), by simp only [gQ2p, hlt, cond_true, qc, hx, Option.bind_some, hb, Bool.not_true, cond_false, decide_eq_false (show ¬ ((0 : Nat) : Int) > 0 by decide), hw], ⟨0 + 1, rfl, h0, fun j a b hj => by omega⟩, by simp only [Int.toNat_natCast]; omega⟩
   | succ i =>
    have hpv : i < t.names.length := by omega
    have hy := List.getElem?_eq_getElem hpv
    have hwp : IntKind.i64.wrap (((i + 1 : Nat) : Int) - 1) = (i : Int) := by
     rw [show ((i + 1 : Nat) : Int) - 1 = (i : Int) by omega]; exact q51 (by omega) (by omega)
    cases hbl : Op.bytesLess t.names[i].toList t.names[i + 1].toList with
    | false => exact .inr ⟨1, by simp only [gQ2p, hlt, cond_true, qc, hx, hy, Option.bind_some, hb, Bool.not_true, cond_false, decide_eq_true (show ((i + 1 : Nat) : Int) > 0 by omega), hwp, hbl, Bool.not_false], fun h => by cases h⟩
    | true =>
     refine .inl ⟨((i + 1 + 1 : Nat) : Int), by simp only [gQ2p, hlt, cond_true, qc, hx, hy, Option.bind_some, hb, Bool.not_true, cond_false, decide_eq_true (show ((i + 1 : Nat) : Int) > 0 by omega), hwp, hbl, hw], ⟨i + 1 + 1, rfl, h0, fun j a b hj ha hb2 => ?_⟩, by simp only [Int.toNat_natCast]; omega⟩
     rcases Nat.eq_or_lt_of_le (show j ≤ i by omega) with rfl | hj
     ·rw [hy] at ha; rw [hx] at hb2; cases ha; cases hb2; exact hbl
     ·exact hp j a b (by omega) ha hb2
theorem q9d (t : Ty) (hf : t.Fits) : ∃ r, gQ2k t = some r ∧ (r = 0 → Okt t) := by
 obtain ⟨r, h1, h2⟩ := qnr t 1 hf (by decide) (by decide)
 exact ⟨r, by unfold gQ2k; rw [h1]; rfl, h2⟩
end Abs
end Go.Proofs.YtkffpfapfljinaaGreatDoor
namespace Go.Proofs.YtkffpfapfljinaaGreatDoor
namespace Abs
open Go.RowKit
theorem decDigits_len' : ∀ (k u : Nat), u < 10 ^ (k + 1) → (Lib.decDigits u).length ≤ k + 1 := by
 intro k
 induction k with
 | zero => intro u hu; rw [Lib.decDigits_one (by simpa using hu)]; simp
 | succ k ih =>
  intro u hu
  by_cases h : u < 10
  ·rw [Lib.decDigits_one h]; simp
  ·rw [Lib.decDigits, dif_neg h, List.length_append]
   have := ih (u / 10) (Nat.div_lt_of_lt_mul (by rw [Nat.pow_succ, Nat.mul_comm] at hu; exact hu))
   simp; omega
theorem itoa_len' (n : Int) (h0 : -9223372036854775808 ≤ n) (h1 : n ≤ 9223372036854775808) : (Lib.itoa n).length ≤ 20 := by
 unfold Lib.itoa
 split
 ·have := decDigits_len' 18 n.natAbs (by omega); simp; omega
 ·have := decDigits_len' 18 n.toNat (by omega); omega
theorem q3l : eS.size ≤ 140737488351232 := by decide
theorem q3t {k n : Int} {s : ByteArray} (hk : -100 ≤ k ∧ k ≤ 100) (hn : -9223372036854775808 ≤ n ∧ n ≤ 9223372036854775807) (hs : s.size ≤ 140737488351232) : (Val.mk k n s [] []).Fits :=
 .mk (by omega) hn hs (by simp) (by simp) (fun _ h => absurd h List.not_mem_nil) (fun _ h => absurd h List.not_mem_nil)
theorem q32 : vZ.Fits := q3t (by decide) (by decide) q3l
def q6l (k : Int) (f : Val → Option (Val × Int)) : Prop :=
 ∀ v : Val, v.Fits → ∃ r : Val × Int, f v = some r ∧ r.1.Fits ∧ (v.kind = k → r = (v, 0)) ∧ (r.2 = 0 → r.1.kind = k) ∧ (v.kind = 4 ∨ v.kind = 5 → r.2 ≠ 0)
theorem qfn : q6l 1 gQ0d := by
 intro v hf
 unfold gQ0d
 by_cases h1 : v.kind = 1
 ·rw [decide_eq_true h1]; exact ⟨(v, 0), rfl, hf, fun _ => rfl, fun _ => h1, fun h => by omega⟩
 rw [decide_eq_false h1, cond_false]
 have bad : ∃ r : Val × Int, some (vZ, (6 : Int)) = some r ∧ r.1.Fits ∧ (v.kind = 1 → r = (v, 0)) ∧ (r.2 = 0 → r.1.kind = 1) ∧ (v.kind = 4 ∨ v.kind = 5 → r.2 ≠ 0) :=
  ⟨_, rfl, q32, fun h => absurd h h1, (fun h => by cases h), fun _ => by decide⟩
 by_cases h3 : v.kind = 3
 case neg => rw [decide_eq_false h3]; exact bad
 rw [decide_eq_true h3, cond_true]
 cases decide (v.str = (⟨#[116, 114, 117, 101]⟩ : ByteArray))
 ·rw [cond_false]
  cases decide (v.str = (⟨#[102, 97, 108, 115, 101]⟩ : ByteArray))
  ·exact bad
  ·exact ⟨_, rfl, q3t (by decide) (by decide) q3l, fun h => absurd h h1, fun _ => rfl, fun h => by omega⟩
 ·exact ⟨_, rfl, q3t (by decide) (by decide) q3l, fun h => absurd h h1, fun _ => rfl, fun h => by omega⟩
theorem qso (s : ByteArray) : -9223372036854775808 ≤ (NumPlain.parseB s).1 ∧ (NumPlain.parseB s).1 ≤ 9223372036854775807 := by
 unfold NumPlain.parseB NumPlain.parse
 split
 ·rcases NumPlain.right_cases (NumPlain.sval s.data.toList) with ⟨h, hv⟩ | h
  ·rw [h]; have := (NumPlain.validB_iff _).1 hv; constructor <;> simp only <;> omega
  ·rw [h]; decide
 ·decide
theorem qfq : q6l 2 gQ0f := by
 intro v hf
 obtain ⟨f1, f2, f3, f4, f5, f6, f7⟩ := hf.parts
 unfold gQ0f
 by_cases h1 : v.kind = 2
 ·rw [decide_eq_true h1]; exact ⟨(v, 0), rfl, hf, fun _ => rfl, fun _ => h1, fun h => by omega⟩
 rw [decide_eq_false h1, cond_false]
 have bad : ∃ r : Val × Int, some (vZ, (6 : Int)) = some r ∧ r.1.Fits ∧ (v.kind = 2 → r = (v, 0)) ∧ (r.2 = 0 → r.1.kind = 2) ∧ (v.kind = 4 ∨ v.kind = 5 → r.2 ≠ 0) :=
  ⟨_, rfl, q32, fun h => absurd h h1, (fun h => by cases h), fun _ => by decide⟩
 by_cases h3 : v.kind = 3
 case neg => rw [decide_eq_false h3]; exact bad
 rw [decide_eq_true h3, Bool.not_true, cond_false, show q5c v.str = some (NumPlain.parseB v.str) from q2l (by omega), Option.bind_some]
 by_cases hp : (NumPlain.parseB v.str).2 = 0
 ·rw [decide_eq_true hp]
  exact ⟨_, rfl, q3t (by decide) (qso _) q3l, fun h => absurd h h1, fun _ => rfl, fun h => by omega⟩
 ·rw [decide_eq_false hp]; exact bad
theorem qfr : q6l 3 gQ0l := by
 intro v hf
 obtain ⟨f1, f2, f3, f4, f5, f6, f7⟩ := hf.parts
 unfold gQ0l
 by_cases h1 : v.kind = 3
 ·rw [decide_eq_true h1]; exact ⟨(v, 0), rfl, hf, fun _ => rfl, fun _ => h1, fun h => by omega⟩
 rw [decide_eq_false h1, cond_false]
 by_cases h2 : v.kind = 2
 ·rw [decide_eq_true h2, cond_true, show q78 v.num = some (fmtB v.num) from q2l f2, Option.bind_some]
  refine ⟨_, rfl, q3t (by decide) (by decide) ?_, fun h => absurd h h1, fun _ => rfl, fun h => by omega⟩
  have := itoa_len' v.num f2.1 (by omega)
  show (fmtB v.num).size ≤ _
  unfold fmtB
  rw [← ByteArray.size_data, List.size_toArray]
  omega
 rw [decide_eq_false h2, cond_false]
 by_cases h3 : v.kind = 1
 ·rw [decide_eq_true h3, cond_true]
  cases decide (v.num = 1)
  ·exact ⟨_, rfl, q3t (by decide) (by decide) (by decide), fun h => absurd h h1, fun _ => rfl, fun h => by omega⟩
  ·exact ⟨_, rfl, q3t (by decide) (by decide) (by decide), fun h => absurd h h1, fun _ => rfl, fun h => by omega⟩
 ·rw [decide_eq_false h3]
  exact ⟨_, rfl, q32, fun h => absurd h h1, (fun h => by cases h), fun _ => by decide⟩
def q2e (f : Val → Option (Val × Int)) (v : Val) : Val × Int := (f v).getD (vZ, 6)
theorem q6l.eq {k : Int} {f : Val → Option (Val × Int)} (h : q6l k f) {v : Val} (hf : v.Fits) :
  f v = some (q2e f v) ∧ (q2e f v).1.Fits ∧ (v.kind = k → q2e f v = (v, 0)) ∧ ((q2e f v).2 = 0 → (q2e f v).1.kind = k) ∧ (v.kind = 4 ∨ v.kind = 5 → (q2e f v).2 ≠ 0) := by
 obtain ⟨r, h1, h2⟩ := h v hf
 have : q2e f v = r := by unfold q2e; rw [h1]; rfl
 rw [this]; exact ⟨h1, h2⟩
def colR (k : Int) (keys : List ByteArray) (q : List Val × Int) : Val × Int := if q.2 = 0 then (Val.mk k 0 eS q.1 keys, 0) else (vZ, q.2)
mutual
/-- The conversion of a value to a type. -/
noncomputable def toS : Ty → Val → Val × Int
 | .mk k elems names, v =>
  if k = 0 ∨ v.kind = 0 ∨ v.kind = 6 then (v, 0)
  else if k = 1 then q2e gQ0d v
  else if k = 2 then q2e gQ0f v
  else if k = 3 then q2e gQ0l v
  else if k = 4 ∨ k = 5 then (if v.kind = k then colR v.kind v.keys (q4m elems v.items) else (vZ, 6))
  else if v.kind = 5 then (if ∀ x ∈ v.keys, hasB names x = true then colR 5 names (objS elems names v) else (vZ, 13))
  else (vZ, 6)
noncomputable def q4m : List Ty → List Val → List Val × Int
 | [], _ => ([], 6)
 | e :: _, l => qp (fun x => toS e x) l
noncomputable def objS : List Ty → List ByteArray → Val → List Val × Int
 | e :: es, n :: ns, v => if (toS e (look v.keys v.items n)).2 ≠ 0 then ([], (toS e (look v.keys v.items n)).2) else if (objS es ns v).2 ≠ 0 then ([], (objS es ns v).2) else ((toS e (look v.keys v.items n)).1 :: (objS es ns v).1, 0)
 | [], _, _ => ([], 0)
 | _ :: _, [], _ => ([], 0)
end
theorem qk7 (v : Val) : ∀ (es : List Ty) (ns : List ByteArray), objS es ns v = qp (fun p : Ty × ByteArray => toS p.1 (look v.keys v.items p.2)) (es.zip ns)
 | [], _ => by simp [objS, qp]
 | _ :: _, [] => by simp [objS, qp]
 | e :: es, n :: ns => by rw [objS, qk7 v es ns]; rfl
theorem q97 (t : Ty) (v : Val) : toS t v = if t.kind = 0 ∨ v.kind = 0 ∨ v.kind = 6 then (v, 0)
  else if t.kind = 1 then q2e gQ0d v
  else if t.kind = 2 then q2e gQ0f v
  else if t.kind = 3 then q2e gQ0l v
  else if t.kind = 4 ∨ t.kind = 5 then (if v.kind = t.kind then colR v.kind v.keys (q4m t.elems v.items) else (vZ, 6))
  else if v.kind = 5 then (if ∀ x ∈ v.keys, hasB t.names x = true then colR 5 t.names (qp (fun p : Ty × ByteArray => toS p.1 (look v.keys v.items p.2)) (t.elems.zip t.names)) else (vZ, 13))
  else (vZ, 6) := by
 obtain ⟨k, elems, names⟩ := t
 rw [toS, qk7]
 rfl
def Vok (v : Val) : Prop := v.Fits ∧ ∃ d, Good d v
theorem qfx : Good 1 vZ := .mk (by
 have e : eS.data.toList = [] := rfl
 simp [q15, vtext, q2f, qi, qt, qy, qx, qv, q1y, Val.kind, Val.num, Val.str, Val.items, Val.keys]
 decide) (fun y h => absurd h List.not_mem_nil)
theorem qbv : Vok vZ := ⟨q32, 1, qfx⟩
theorem Vok.item {v : Val} (h : Vok v) : ∀ x ∈ v.items, Vok x := by
 obtain ⟨hf, d, hg⟩ := h
 obtain ⟨e, rfl, hi⟩ := hg.item
 exact fun x hx => ⟨hf.parts.2.2.2.2.2.2 x hx, e, hi x hx⟩
theorem Vok.look {v : Val} (h : Vok v) (n : ByteArray) : Vok (look v.keys v.items n) := by
 rcases q8h v.keys v.items n with k | k
 ·exact h.item _ k
 ·rw [k]; exact qbv
theorem Vok.shape {v : Val} (h : Vok v) : 0 ≤ v.kind ∧ v.kind ≤ 6 ∧ (v.kind ≠ 1 → v.kind ≠ 2 → v.num = 0) ∧ (v.kind = 1 → v.num = 0 ∨ v.num = 1) ∧ (v.kind ≠ 3 → v.str = eS) ∧ (v.kind ≠ 4 → v.kind ≠ 5 → v.items = []) ∧ (v.kind = 5 → v.keys.length = v.items.length) ∧ (v.kind ≠ 5 → v.keys = []) := qfa (qk2 h.2.choose_spec.node).1
theorem Vok.rising {v : Val} (h : Vok v) : Rising v.keys := h.2.choose_spec.rising
open Classical in
theorem to_eq (v : Val) (t : Ty) : tQa3 v t = gQ0c (gQ0h fun a0 a1 => if relT a1 t then tQa3 a0 a1 else none) (gQ09 fun a0 a1 => if relT a1 t then tQa3 a0 a1 else none) v t := q2t t v
theorem qom (rec : Val → Ty → Option (Val × Int)) (v : Val) (e : Ty) (hf : v.Fits) (h : ∀ x ∈ v.items, rec x e = some (toS e x)) :
  gQ09 rec v e = some (colR v.kind v.keys (qp (fun x => toS e x) v.items)) := by
 obtain ⟨f1, f2, f3, f4, f5, f6, f7⟩ := hf.parts
 unfold gQ09
 rw [q5s f5, Option.bind_some]
 have hn := q16 f4 (by decide)
 rw [qe2 v.items (fun x => toS e x) (body := gQ0a rec v e v.keys) (fun acc => (Val.mk v.kind 0 eS acc v.keys, 0)) (fun er => (vZ, er)) (fun i acc x hi hx ha => ?_) (fun acc ha => ?_)]
 ·unfold colR; rfl
 ·have hm : x ∈ v.items := List.mem_of_getElem? hx
  by_cases he : (toS e x).2 = 0
  ·simp only [gQ0a, decide_eq_true (show (i : Int) < v.items.length by omega), cond_true, qc, hx, Option.bind_some, h x hm, decide_eq_true he, Bool.not_true, cond_false, qw acc _ (m := 80) (by decide) (show acc.length < v.items.length by omega) f4, qk hi (show v.items.length ≤ 9223372036854775807 by omega), if_pos he]
  ·simp only [gQ0a, decide_eq_true (show (i : Int) < v.items.length by omega), cond_true, qc, hx, Option.bind_some, h x hm, decide_eq_false he, Bool.not_false, if_neg he]
 ·simp only [gQ0a, decide_eq_false (show ¬ (v.items.length : Int) < v.items.length by omega), cond_false]
theorem qc0 {α β : Type} {a : List α} {b : List β} {i : Nat} {p : α × β} (h : (a.zip b)[i]? = some p) : a[i]? = some p.1 ∧ b[i]? = some p.2 := by
 rw [List.getElem?_zip_eq_some] at h; exact h
theorem qrm (rec : Val → Ty → Option (Val × Int)) (v : Val) (t : Ty) (hv : Vok v) (h5 : v.kind = 5) (ht : t.elems.length = t.names.length) (hl : t.elems.length ≤ 1000)
  (h : ∀ e ∈ t.elems, ∀ x, Vok x → rec x e = some (toS e x)) :
  gQ0h rec v t = some (if ∀ x ∈ v.keys, hasB t.names x = true then colR 5 t.names (qp (fun p : Ty × ByteArray => toS p.1 (look v.keys v.items p.2)) (t.elems.zip t.names)) else (vZ, 13)) := by
 obtain ⟨f1, f2, f3, f4, f5, f6, f7⟩ := hv.1.parts
 have hn := q16 f5 (by decide)
 unfold gQ0h
 have hz : (t.elems.zip t.names).length = t.names.length := by rw [List.length_zip]; omega
 have inner : qb (gQ0j rec v t t.names) (0, []) = some (.inr (colR 5 t.names (qp (fun p : Ty × ByteArray => toS p.1 (look v.keys v.items p.2)) (t.elems.zip t.names)))) := by
  rw [qe2 (t.elems.zip t.names) (fun p : Ty × ByteArray => toS p.1 (look v.keys v.items p.2)) (body := gQ0j rec v t t.names) (fun acc => .inr (Val.mk 5 0 eS acc t.names, 0)) (fun er => .inr (vZ, er)) (fun i acc p hi hp ha => ?_) (fun acc ha => ?_)]
  ·unfold colR; split <;> rfl
  ·obtain ⟨he, hnm⟩ := qc0 hp
   have hm : p.1 ∈ t.elems := List.mem_of_getElem? he
   obtain ⟨b, hg⟩ := qpk v p.2 hv.1 h5 (hv.shape.2.2.2.2.2.2.1 h5) hv.rising
   have hr := h p.1 hm _ (hv.look p.2)
   have hlt : decide ((i : Int) < t.names.length) = true := decide_eq_true (by omega)
   by_cases her : (toS p.1 (look v.keys v.items p.2)).2 = 0
   ·simp only [gQ0j, hlt, cond_true, qc, hnm, he, Option.bind_some, hg, hr, decide_eq_true her, Bool.not_true, cond_false, qw acc _ (m := 80) (n := 1000) (by decide) (show acc.length < 1000 by omega) (by decide), qk (show i < t.names.length by omega) (show t.names.length ≤ 9223372036854775807 by omega), if_pos her]
   ·simp only [gQ0j, hlt, cond_true, qc, hnm, he, Option.bind_some, hg, hr, decide_eq_false her, Bool.not_false, if_neg her]
  ·rw [hz]; simp only [gQ0j, decide_eq_false (show ¬ (t.names.length : Int) < t.names.length by omega), cond_false]
 have := q13 (body := gQ0i rec v t) (fun k => ∃ i : Nat, k = (i : Int) ∧ i ≤ v.keys.length ∧ ∀ (j : Nat) x, j < i → v.keys[j]? = some x → hasB t.names x = true) (fun k => v.keys.length - k.toNat) (fun r => r = if ∀ x ∈ v.keys, hasB t.names x = true then colR 5 t.names (qp (fun p : Ty × ByteArray => toS p.1 (look v.keys v.items p.2)) (t.elems.zip t.names)) else (vZ, 13)) (by
  rintro k ⟨i, rfl, hi, hp⟩
  rcases Nat.eq_or_lt_of_le hi with h0 | h0
  ·subst h0
   refine .inr ⟨_, by simp only [gQ0i, decide_eq_false (show ¬ (v.keys.length : Int) < v.keys.length by omega), cond_false, q5s (show t.names.length * 16 ≤ 140737488351232 by omega), Option.bind_some, inner]; rfl, ?_⟩
   rw [if_pos]
   intro x hx
   obtain ⟨j, hj⟩ := List.getElem?_of_mem hx
   exact hp j x (List.getElem?_eq_some_iff.1 hj).1 hj
  ·have hx := List.getElem?_eq_getElem h0
   have hm : v.keys[i] ∈ v.keys := List.getElem_mem h0
   have hlt : decide ((i : Int) < v.keys.length) = true := decide_eq_true (by omega)
   cases hh : hasB t.names v.keys[i] with
   | true =>
    refine .inl ⟨((i + 1 : Nat) : Int), by simp only [gQ0i, hlt, cond_true, qc, hx, Option.bind_some, qcu t.names v.keys[i] (by omega), hh, Bool.not_true, cond_false, qk h0 (show v.keys.length ≤ 9223372036854775807 by omega)], ⟨i + 1, rfl, h0, fun j x hj he => ?_⟩, by simp only [Int.toNat_natCast]; omega⟩
    rcases Nat.eq_or_lt_of_le (Nat.le_of_lt_succ hj) with rfl | hj
    ·rw [hx] at he; cases he; exact hh
    ·exact hp j x hj he
   | false =>
    refine .inr ⟨(vZ, 13), by simp only [gQ0i, hlt, cond_true, qc, hx, Option.bind_some, qcu t.names v.keys[i] (by omega), hh, Bool.not_false], ?_⟩
    rw [if_neg]
    intro hall; rw [hall _ hm] at hh; cases hh) 0 ⟨0, rfl, Nat.zero_le _, fun j x hj => by omega⟩
 obtain ⟨r, h1, rfl⟩ := this
 exact h1
def Tok (t : Ty) : Prop := t.Fits ∧ Few t ∧ Okt t
theorem Tok.elem {t : Ty} (h : Tok t) : ∀ e ∈ t.elems, Tok e := by
 obtain ⟨hf, hw, ho⟩ := h
 intro e he
 refine ⟨hf.parts.2.2.2.2 e he, ?_, ?_⟩
 ·cases hw with | mk _ h => exact h e he
 ·cases ho with | mk _ _ _ _ _ h => exact h e he
theorem Tok.facts {t : Ty} (h : Tok t) : t.elems.length ≤ 1000 ∧ 0 ≤ t.kind ∧ t.kind ≤ 6 ∧ (t.kind = 6 → t.elems.length = t.names.length) ∧ (t.kind = 4 ∨ t.kind = 5 → t.elems.length = 1) ∧ Rising t.names := by
 obtain ⟨hf, hw, ho⟩ := h
 cases hw with | mk h1 _ => cases ho with | mk a b c d e _ => exact ⟨h1, a, b, c, d, e⟩
theorem qvb (t : Ty) : ∀ v : Val, Tok t → Vok v → tQa3 v t = some (toS t v) := by
 induction t using q4y with
 | h t ih =>
  intro v ht hv
  obtain ⟨hl, k0, k6, t6, t45, hri⟩ := ht.facts
  rw [to_eq, q97]
  unfold gQ0c
  have hc : cpy v = some v := q2l hv.1
  by_cases c1 : t.kind = 0
  ·rw [decide_eq_true c1, if_pos (.inl c1), cond_true, hc]; rfl
  by_cases c2 : v.kind = 0
  ·rw [decide_eq_false c1, decide_eq_true c2, if_pos (.inr (.inl c2)), cond_true, cond_false, hc]; rfl
  by_cases c3 : v.kind = 6
  ·rw [decide_eq_false c1, decide_eq_false c2, decide_eq_true c3, if_pos (.inr (.inr c3)), cond_true, cond_false, cond_false, hc]; rfl
  rw [decide_eq_false c1, decide_eq_false c2, decide_eq_false c3, if_neg (by omega)]
  simp only [cond_false]
  by_cases t1 : t.kind = 1
  ·rw [decide_eq_true t1, if_pos t1, cond_true, (qfn.eq hv.1).1]; rfl
  rw [decide_eq_false t1, if_neg t1, cond_false]
  by_cases t2 : t.kind = 2
  ·rw [decide_eq_true t2, if_pos t2, cond_true, (qfq.eq hv.1).1]; rfl
  rw [decide_eq_false t2, if_neg t2, cond_false]
  by_cases t3 : t.kind = 3
  ·rw [decide_eq_true t3, if_pos t3, cond_true, (qfr.eq hv.1).1]; rfl
  rw [decide_eq_false t3, if_neg t3, cond_false]
  by_cases t4 : t.kind = 4 ∨ t.kind = 5
  ·rw [if_pos t4]
   obtain ⟨e, he⟩ : ∃ e, t.elems = [e] := List.length_eq_one_iff.1 (t45 t4)
   have hem : e ∈ t.elems := by rw [he]; exact List.mem_singleton.2 rfl
   have hI : idx t.elems 0 = some e := by rw [he]; simp [idx]
   have hE := qom (fun a0 a1 => open Classical in if relT a1 t then tQa3 a0 a1 else none) v e hv.1 (fun x hx => by
    simp only [if_pos (show relT e t from hem)]
    exact ih e hem x (ht.elem e hem) (hv.item x hx))
   have hH : q4m t.elems v.items = qp (fun x => toS e x) v.items := by rw [he, q4m]
   rw [hH]
   rcases t4 with t4 | t5
   ·rw [decide_eq_true t4, cond_true]
    by_cases v4 : v.kind = 4
    ·rw [decide_eq_true v4, cond_true, hI, Option.bind_some, hE, if_pos (by omega)]; rfl
    ·rw [decide_eq_false v4, cond_false, if_neg (by omega)]
   ·rw [decide_eq_false (show ¬ t.kind = 4 by omega), decide_eq_true t5, cond_true, cond_false]
    by_cases v5 : v.kind = 5
    ·rw [decide_eq_true v5, cond_true, hI, Option.bind_some, hE, if_pos (by omega)]; rfl
    ·rw [decide_eq_false v5, cond_false, if_neg (by omega)]
  ·have t6' : t.kind = 6 := by omega
   rw [if_neg t4, decide_eq_false (show ¬ t.kind = 4 by omega), decide_eq_false (show ¬ t.kind = 5 by omega), decide_eq_true t6']
   simp only [cond_false, cond_true]
   by_cases v5 : v.kind = 5
   ·rw [decide_eq_true v5, cond_true, if_pos v5, qrm _ v t hv v5 (t6 t6') hl (fun e he x hx => by
     simp only [if_pos (show relT e t from he)]
     exact ih e he x (ht.elem e he) hx)]; rfl
   ·rw [decide_eq_false v5, cond_false, if_neg v5]
end Abs
end Go.Proofs.YtkffpfapfljinaaGreatDoor
namespace Go.Proofs.YtkffpfapfljinaaGreatDoor
namespace Abs
open Go.RowKit
theorem qhs {α : Type} (f : α → Val × Int) : ∀ l : List α, (∀ x ∈ l, (f x).2 = 0) → qp f l = (l.map fun x => (f x).1, 0)
 | [], _ => rfl
 | x :: r, h => by
  have h1 := h x (List.mem_cons_self ..)
  have h2 := qhs f r fun y hy => h y (List.mem_cons_of_mem _ hy)
  rw [qp, if_neg (by simp [h1]), h2]; simp
theorem qcx {α : Type} (f : α → Val × Int) : ∀ l : List α, (qp f l).2 = 0 → ∀ x ∈ l, (f x).2 = 0
 | [], _, x, hx => absurd hx List.not_mem_nil
 | y :: r, h, x, hx => by
  rw [qp] at h
  by_cases h1 : (f y).2 = 0
  ·rw [if_neg (by simp [h1])] at h
   by_cases h2 : (qp f r).2 = 0
   ·rcases List.mem_cons.1 hx with rfl | hx
    ·exact h1
    ·exact qcx f r h2 x hx
   ·rw [if_pos h2] at h; exact absurd h h2
  ·rw [if_pos h1] at h; exact absurd h h1
theorem qa5 {α : Type} {k : Int} {keys : List ByteArray} {f : α → Val × Int} {l : List α} (h : ∀ x ∈ l, (f x).2 = 0) : colR k keys (qp f l) = (Val.mk k 0 eS (l.map fun x => (f x).1) keys, 0) := by
 rw [qhs f l h]; unfold colR; rw [if_pos rfl]
theorem qhi {k : Int} {keys : List ByteArray} {q : List Val × Int} (h : q.2 ≠ 0) : colR k keys q = (vZ, q.2) := by unfold colR; rw [if_neg h]
inductive ToC (t : Ty) (v : Val) : Prop
 | same : t.kind = 0 ∨ v.kind = 0 ∨ v.kind = 6 → toS t v = (v, 0) → ToC t v
 | prim (f : Val → Option (Val × Int)) : q6l t.kind f → t.kind ≠ 0 → v.kind ≠ 0 → v.kind ≠ 6 → t.kind = 1 ∨ t.kind = 2 ∨ t.kind = 3 → toS t v = q2e f v → ToC t v
 | coll (e : Ty) : t.elems = [e] → t.kind = 4 ∨ t.kind = 5 → v.kind = t.kind → toS t v = colR v.kind v.keys (qp (fun x => toS e x) v.items) → ToC t v
 | obj : t.kind = 6 → v.kind = 5 → (∀ x ∈ v.keys, x ∈ t.names) → toS t v = colR 5 t.names (qp (fun p : Ty × ByteArray => toS p.1 (look v.keys v.items p.2)) (t.elems.zip t.names)) → ToC t v
 | bad : t.kind = 4 ∨ t.kind = 5 ∨ t.kind = 6 → v.kind ≠ 0 → v.kind ≠ 6 → (t.kind = 6 ∧ v.kind = 5 ∧ ¬ ∀ x ∈ v.keys, x ∈ t.names) ∨ (t.kind = 6 ∧ v.kind ≠ 5) ∨ (t.kind ≠ 6 ∧ v.kind ≠ t.kind) → toS t v = (vZ, 13) ∨ toS t v = (vZ, 6) → ToC t v
theorem toC (t : Ty) (v : Val) (ht : Tok t) : ToC t v := by
 obtain ⟨hl, k0, k6, t6, t45, hri⟩ := ht.facts
 have h := q97 t v
 by_cases c1 : t.kind = 0 ∨ v.kind = 0 ∨ v.kind = 6
 ·rw [if_pos c1] at h; exact .same c1 h
 rw [if_neg c1] at h
 by_cases t1 : t.kind = 1
 ·rw [if_pos t1] at h; exact .prim _ (by rw [t1]; exact qfn) (by omega) (by omega) (by omega) (by omega) h
 rw [if_neg t1] at h
 by_cases t2 : t.kind = 2
 ·rw [if_pos t2] at h; exact .prim _ (by rw [t2]; exact qfq) (by omega) (by omega) (by omega) (by omega) h
 rw [if_neg t2] at h
 by_cases t3 : t.kind = 3
 ·rw [if_pos t3] at h; exact .prim _ (by rw [t3]; exact qfr) (by omega) (by omega) (by omega) (by omega) h
 rw [if_neg t3] at h
 by_cases t4 : t.kind = 4 ∨ t.kind = 5
 ·rw [if_pos t4] at h
  by_cases hk : v.kind = t.kind
  ·rw [if_pos hk] at h
   obtain ⟨e, he⟩ : ∃ e, t.elems = [e] := List.length_eq_one_iff.1 (t45 t4)
   rw [he, q4m] at h
   exact .coll e he t4 hk h
  ·rw [if_neg hk] at h
   exact .bad (by omega) (by omega) (by omega) (.inr (.inr ⟨by omega, hk⟩)) (.inr h)
 rw [if_neg t4] at h
 by_cases v5 : v.kind = 5
 ·rw [if_pos v5] at h
  by_cases hk : ∀ x ∈ v.keys, hasB t.names x = true
  ·rw [if_pos hk] at h; exact .obj (by omega) v5 (fun x hx => q3v.1 (hk x hx)) h
  ·rw [if_neg hk] at h
   exact .bad (by omega) (by omega) (by omega) (.inl ⟨by omega, v5, fun hh => hk fun x hx => q3v.2 (hh x hx)⟩) (.inl h)
 ·rw [if_neg v5] at h
  exact .bad (by omega) (by omega) (by omega) (.inr (.inl ⟨by omega, v5⟩)) (.inr h)
theorem qk0 {v : Val} (hv : Vok v) (h : v.kind = 4 ∨ v.kind = 5) : Val.mk v.kind 0 eS v.items v.keys = v := by
 have hs := hv.shape
 exact qbw rfl (hs.2.2.1 (by omega) (by omega)).symm (hs.2.2.2.2.1 (by omega)).symm rfl rfl
theorem qfs (t : Ty) : ∀ v : Val, Tok t → Vok v → (toS t v).1.Fits := by
 induction t using q4y with
 | h t ih =>
  intro v ht hv
  obtain ⟨f1, f2, f3, f4, f5, f6, f7⟩ := hv.1.parts
  cases toC t v ht with
  | same _ h => rw [h]; exact hv.1
  | prim f hp _ _ _ _ h => rw [h]; exact (hp.eq hv.1).2.1
  | coll e he hk hk2 h =>
   have hem : e ∈ t.elems := by rw [he]; exact List.mem_singleton.2 rfl
   rw [h]
   by_cases hz : (qp (fun x => toS e x) v.items).2 = 0
   ·rw [qa5 (qcx _ _ hz)]
    refine .mk f1 (by decide) q3l (by simpa using f4) f5 f6 fun y hy => ?_
    obtain ⟨z, hz, rfl⟩ := List.mem_map.1 hy
    exact ih e hem z (ht.elem e hem) (hv.item z hz)
   ·rw [qhi hz]; exact q32
  | obj hk hk2 hn h =>
   rw [h]
   by_cases hz : (qp (fun p : Ty × ByteArray => toS p.1 (look v.keys v.items p.2)) (t.elems.zip t.names)).2 = 0
   ·rw [qa5 (qcx _ _ hz)]
    refine .mk (by decide) (by decide) q3l ?_ ht.1.parts.2.2.1 ht.1.parts.2.2.2.1 fun y hy => ?_
    ·have := ht.facts.1
     simp only [List.length_map, List.length_zip]; omega
    ·obtain ⟨z, hz, rfl⟩ := List.mem_map.1 hy
     have hem : z.1 ∈ t.elems := (List.of_mem_zip hz).1
     exact ih z.1 hem _ (ht.elem _ hem) (hv.look z.2)
   ·rw [qhi hz]; exact q32
  | bad _ _ _ _ h => rcases h with h | h <;> rw [h] <;> exact q32
theorem qva (t : Ty) : ∀ v : Val, Tok t → Vok v → Conf v t → toS t v = (v, 0) := by
 induction t using q4y with
 | h t ih =>
  intro v ht hv hc
  cases toC t v ht with
  | same _ h => exact h
  | prim f hp t0 v0 v6 tk h =>
   rw [h]
   refine (hp.eq hv.1).2.2.1 ?_
   rcases hc.inv v0 v6 t0 with h | h | h
   ·exact h.2
   ·omega
   ·omega
  | coll e he hk hk2 h =>
   have hem : e ∈ t.elems := by rw [he]; exact List.mem_singleton.2 rfl
   have hconf : ∀ x ∈ v.items, Conf x e := by
    rcases hc.inv (by omega) (by omega) (by omega) with h | h | h
    ·omega
    ·obtain ⟨_, _, e', r, h3, h4⟩ := h
     rw [he] at h3; cases h3; exact h4
    ·omega
   have hall : ∀ x ∈ v.items, toS e x = (x, 0) := fun x hx => ih e hem x (ht.elem e hem) (hv.item x hx) (hconf x hx)
   rw [h, qa5 (f := fun x => toS e x) (fun x hx => by show (toS e x).2 = 0; rw [hall x hx])]
   have : (v.items.map fun x => (toS e x).1) = v.items := by
    rw [List.map_congr_left (g := fun x => x) (fun x hx => by show (toS e x).1 = x; rw [hall x hx])]; simp
   rw [this, qk0 hv (by omega)]
  | obj hk hk2 hn h =>
   have hconf : v.keys = t.names ∧ v.items.length = t.elems.length ∧ (∀ (i : Nat) (x : Val) (e : Ty), v.items[i]? = some x → t.elems[i]? = some e → Conf x e) := by
    rcases hc.inv (by omega) (by omega) (by omega) with h | h | h
    ·omega
    ·omega
    ·exact h.2.2
   obtain ⟨c1, c2, c3⟩ := hconf
   have hlen := ht.facts.2.2.2.1 hk
   have hpt : ∀ (i : Nat) (p : Ty × ByteArray), (t.elems.zip t.names)[i]? = some p → ∃ x, v.items[i]? = some x ∧ toS p.1 (look v.keys v.items p.2) = (x, 0) := by
    intro i p hp
    obtain ⟨he, hnm⟩ := qc0 hp
    have hi : i < v.items.length := by rw [c2]; exact (List.getElem?_eq_some_iff.1 he).1
    have hx := List.getElem?_eq_getElem hi
    have hlk : look v.keys v.items p.2 = v.items[i] := q4p _ _ _ i _ hv.rising (by rw [c1]; exact hnm) hx
    have hem : p.1 ∈ t.elems := List.mem_of_getElem? he
    exact ⟨_, hx, by rw [hlk]; exact ih p.1 hem _ (ht.elem _ hem) (hv.item _ (List.getElem_mem hi)) (c3 i _ _ hx he)⟩
   rw [h, qa5 (f := fun p : Ty × ByteArray => toS p.1 (look v.keys v.items p.2)) (fun p hp => by
    obtain ⟨i, hi⟩ := List.getElem?_of_mem hp
    obtain ⟨x, _, h2⟩ := hpt i p hi
    show (toS p.1 (look v.keys v.items p.2)).2 = 0
    rw [h2])]
   have : ((t.elems.zip t.names).map fun p => (toS p.1 (look v.keys v.items p.2)).1) = v.items := by
    refine q76 (by simp only [List.length_map, List.length_zip]; omega) fun i hi => ?_
    rw [List.getElem?_map]
    have hi' : i < (t.elems.zip t.names).length := by simpa using hi
    obtain ⟨x, h1, h2⟩ := hpt i _ (List.getElem?_eq_getElem hi')
    rw [List.getElem?_eq_getElem hi', Option.map_some, h2, h1]
   rw [this, ← c1, ← hk2, qk0 hv (by omega)]
  | bad hk v0 v6 hb h =>
   exfalso
   rcases hc.inv v0 v6 (by omega) with h | h | h
   ·omega
   ·omega
   ·rcases hb with ⟨b1, b2, b3⟩ | b | b
    ·exact b3 fun x hx => by rw [← h.2.2.1]; exact hx
    ·omega
    ·omega
end Abs
end Go.Proofs.YtkffpfapfljinaaGreatDoor
namespace Go.Proofs.YtkffpfapfljinaaGreatDoor
namespace Abs
open Go.RowKit
noncomputable def toE (v : Val) (t : Ty) : Val × Int := if (toS t v).2 = 0 then (if qz (toS t v).1 = 0 then ((toS t v).1, 0) else (vZ, qz (toS t v).1)) else (vZ, (toS t v).2)
theorem qmo (v : Val) (t : Ty) (ht : Tok t) (hv : Vok v) : gQ07 v t = some (toE v t) := by
 unfold gQ07 toE
 rw [qvb t v ht hv, Option.bind_some]
 by_cases h : (toS t v).2 = 0
 ·rw [decide_eq_true h, cond_true, if_pos h, show q28 (toS t v).1 = some (qz (toS t v).1) from q2l (qfs t v ht hv), Option.bind_some]
  by_cases h2 : qz (toS t v).1 = 0
  ·rw [decide_eq_true h2, if_pos h2]; rfl
  ·rw [decide_eq_false h2, if_neg h2]; rfl
 ·rw [decide_eq_false h, cond_false, if_neg h]
theorem q6d {k : Int} (h : 0 ≤ k ∧ k ≤ 3) : Tok (Ty.mk k [] []) :=
  ⟨.mk (by omega) (by simp) (by simp) (fun _ h => absurd h List.not_mem_nil) (fun _ h => absurd h List.not_mem_nil), .mk (by simp) (fun _ h => absurd h List.not_mem_nil),
   .mk h.1 (show k ≤ 6 by omega) (fun _ => rfl) (fun hh => by have : k = 4 ∨ k = 5 := hh; omega) (fun i j _ a b ha => by simp at ha) (fun _ h => absurd h List.not_mem_nil)⟩
theorem q6w {k n : Int} {s : ByteArray} (h : q15 (Val.mk k n s [] []) = 0) : qz (Val.mk k n s [] []) = 0 := by
 unfold qz
 rw [q85, if_neg (by decide), if_neg (by decide), if_neg (by simp [h])]
 rfl
theorem q9a {v : Val} (hf : v.Fits) (h : qz v = 0) : Vok v := ⟨hf, 32, qpl h⟩
theorem qk4 {s : ByteArray} (h : vtext s = 0) : q15 (Val.mk 3 0 s [] []) = 0 := by
 unfold q15
 rw [if_neg (show ¬ q2f (Val.mk 3 0 s [] []) = false by simp [q2f, qi, qt, qy, qx, qv, Val.kind, Val.num, Val.str, Val.items, Val.keys]), if_neg (fun h => by cases h.1), if_neg (by simpa using h)]
 rfl
theorem qk3 {n : Int} (h : NumPlain.validB n = true) : q15 (Val.mk 2 n eS [] []) = 0 := by
 have e : vtext eS = 0 := by decide
 unfold q15
 rw [if_neg (show ¬ q2f (Val.mk 2 n eS [] []) = false by simp [q2f, qi, qt, qy, qx, qv, Val.kind, Val.num, Val.str, Val.items, Val.keys]), if_neg (fun hh => by rw [show (Val.mk 2 n eS [] []).num = n from rfl, h] at hh; cases hh.2), if_neg (by simpa using e)]
 rfl
abbrev vText (s : ByteArray) : Val := Val.mk 3 0 s [] []
abbrev vNum (n : Int) : Val := Val.mk 2 n eS [] []
theorem q4z {s : ByteArray} (h : vtext s = 0) (hs : s.size ≤ 4096) : Vok (vText s) := q9a (q3t (by decide) (by decide) (by omega)) (q6w (qk4 h))
theorem qm6 {n : Int} (h : NumPlain.validB n = true) : Vok (vNum n) := q9a (q3t (by decide) (by have := (NumPlain.validB_iff n).1 h; omega) q3l) (q6w (qk3 h))
theorem qv9 (v : Val) (h : v.kind ≠ 0) (h6 : v.kind ≠ 6) : toS (Ty.mk 2 [] []) v = q2e gQ0f v := by
 rw [q97, if_neg (by simp [h, h6]), if_neg (by simp), if_pos (by simp)]
theorem qfo {v : Val} {t : Ty} (h : (toS t v).2 = 0) (h2 : qz (toS t v).1 = 0) : toE v t = ((toS t v).1, 0) := by unfold toE; rw [if_pos h, if_pos h2]
end Abs
end Go.Proofs.YtkffpfapfljinaaGreatDoor
namespace Go.Proofs.YtkffpfapfljinaaGreatDoor
namespace Abs
open Go.RowKit
end Abs
end Go.Proofs.YtkffpfapfljinaaGreatDoor
namespace Go.Proofs.YtkffpfapfljinaaGreatDoor
set_option linter.unusedSimpArgs false
set_option linter.unusedVariables false
namespace Abs
open Go.RowKit
open Classical in
theorem qu0 (a b : Val) : tQa6 a b = gQ27 (fun a0 a1 => if relV a0 a then tQa6 a0 a1 else none) a b := q2t a b
open Classical in
theorem qu1 (a : Val) : ∀ b : Val, a.Fits → ∃ q, tQa6 a b = some q ∧ (q = true ↔ a = b) := by
 induction a using wfV.induction with
 | h a ih =>
  intro b hf
  obtain ⟨f1, f2, f3, f4, f5, f6, f7⟩ := hf.parts
  rw [qu0]
  unfold gQ27
  by_cases h1 : a.kind = b.kind
  case neg => exact ⟨false, by simp [h1], by simp; intro e; subst e; exact h1 rfl⟩
  by_cases h2 : a.num = b.num
  case neg => exact ⟨false, by simp [h1, h2], by simp; intro e; subst e; exact h2 rfl⟩
  by_cases h3 : a.str = b.str
  case neg => exact ⟨false, by simp [h1, h2, h3], by simp; intro e; subst e; exact h3 rfl⟩
  by_cases h5 : a.items.length = b.items.length
  case neg =>
   have h5' : ¬ (a.items.length : Int) = b.items.length := by omega
   exact ⟨false, by simp [h1, h2, h3, h5'], by simp; intro e; subst e; exact h5 rfl⟩
  by_cases h4 : a.keys.length = b.keys.length
  case neg =>
   have h4' : ¬ (a.keys.length : Int) = b.keys.length := by omega
   exact ⟨false, by simp [h1, h2, h3, h5, h4'], by simp; intro e; subst e; exact h4 rfl⟩
  rw [decide_eq_true h1, decide_eq_true h2, decide_eq_true h3, decide_eq_true (show (a.items.length : Int) = b.items.length by omega), decide_eq_true (show (a.keys.length : Int) = b.keys.length by omega)]
  simp only [Bool.not_true, cond_false]
  have hn := q16 f4 (by decide)
  have hm := q16 f5 (by decide)
  have inner : ∃ q, qb (gQ29 (fun a0 a1 => if relV a0 a then tQa6 a0 a1 else none) a b) 0 = some (.inr q) ∧ (q = true ↔ ∀ i, i < a.items.length → a.items[i]? = b.items[i]?) := by
   have := q13 (body := gQ29 (fun a0 a1 => if relV a0 a then tQa6 a0 a1 else none) a b) (fun s => ∃ i : Nat, s = (i : Int) ∧ i ≤ a.items.length ∧ ∀ j, j < i → a.items[j]? = b.items[j]?) (fun s => a.items.length - s.toNat) (fun r => ∃ q, r = .inr q ∧ (q = true ↔ ∀ i, i < a.items.length → a.items[i]? = b.items[i]?)) (by
    rintro s ⟨i, rfl, hi, hp⟩
    rcases Nat.eq_or_lt_of_le hi with h0 | h0
    ·subst h0
     exact .inr ⟨.inr true, by simp only [gQ29, decide_eq_false (show ¬ (a.items.length : Int) < a.items.length by omega), cond_false], true, rfl, by simpa using hp⟩
    ·have hxi := List.getElem?_eq_getElem h0
     have hyi := List.getElem?_eq_getElem (show i < b.items.length by omega)
     have hmem : a.items[i] ∈ a.items := List.getElem_mem h0
     obtain ⟨q, hq, hiff⟩ := ih _ hmem b.items[i] (f7 _ hmem)
     have hrel : relV a.items[i] a := hmem
     have hlt : decide ((i : Int) < a.items.length) = true := decide_eq_true (by omega)
     cases q with
     | true =>
      refine .inl ⟨((i + 1 : Nat) : Int), by simp only [gQ29, hlt, cond_true, qc, hxi, hyi, Option.bind_some, if_pos hrel, hq, Bool.not_true, cond_false, qk h0 (show a.items.length ≤ 9223372036854775807 by omega)], ⟨i + 1, rfl, h0, fun j hj => ?_⟩, by simp only [Int.toNat_natCast]; omega⟩
      rcases Nat.eq_or_lt_of_le (Nat.le_of_lt_succ hj) with rfl | hj
      ·rw [hxi, hyi, hiff.1 rfl]
      ·exact hp j hj
     | false =>
      refine .inr ⟨.inr false, by simp only [gQ29, hlt, cond_true, qc, hxi, hyi, Option.bind_some, if_pos hrel, hq, Bool.not_false], false, rfl, ⟨fun h => (by cases h), fun hall => ?_⟩⟩
      have he := hall i h0
      rw [hxi, hyi] at he; simp at he
      have := hiff.2 he; cases this) 0 ⟨0, rfl, Nat.zero_le _, fun j hj => by omega⟩
   obtain ⟨r, h1, q, rfl, h2⟩ := this
   exact ⟨q, h1, h2⟩
  obtain ⟨q0, i1, i2⟩ := inner
  have := q13 (body := gQ28 (fun a0 a1 => if relV a0 a then tQa6 a0 a1 else none) a b) (fun s => ∃ i : Nat, s = (i : Int) ∧ i ≤ a.keys.length ∧ ∀ j, j < i → a.keys[j]? = b.keys[j]?) (fun s => a.keys.length - s.toNat) (fun q => q = true ↔ a = b) (by
   rintro s ⟨i, rfl, hi, hp⟩
   rcases Nat.eq_or_lt_of_le hi with h0 | h0
   ·subst h0
    refine .inr ⟨q0, by simp only [gQ28, decide_eq_false (show ¬ (a.keys.length : Int) < a.keys.length by omega), cond_false, i1], i2.trans ⟨fun hall => ?_, ?_⟩⟩
    ·exact qbw h1 h2 h3 (q76 h5 hall) (q76 h4 hp)
    ·intro e i _; rw [e]
   ·have hxi := List.getElem?_eq_getElem h0
    have hyi := List.getElem?_eq_getElem (show i < b.keys.length by omega)
    have hlt : decide ((i : Int) < a.keys.length) = true := decide_eq_true (by omega)
    by_cases he : a.keys[i] = b.keys[i]
    ·refine .inl ⟨((i + 1 : Nat) : Int), by simp only [gQ28, hlt, cond_true, qc, hxi, hyi, Option.bind_some, decide_eq_true he, Bool.not_true, cond_false, qk h0 (show a.keys.length ≤ 9223372036854775807 by omega)], ⟨i + 1, rfl, h0, fun j hj => ?_⟩, by simp only [Int.toNat_natCast]; omega⟩
     rcases Nat.eq_or_lt_of_le (Nat.le_of_lt_succ hj) with rfl | hj
     ·rw [hxi, hyi, he]
     ·exact hp j hj
    ·refine .inr ⟨false, by simp only [gQ28, hlt, cond_true, qc, hxi, hyi, Option.bind_some, decide_eq_false he, Bool.not_false], ⟨fun h => (by cases h), fun e => ?_⟩⟩
     subst e; exact absurd rfl he) 0 ⟨0, rfl, Nat.zero_le _, fun j hj => by omega⟩
  exact this
end Abs
end Go.Proofs.YtkffpfapfljinaaGreatDoor
namespace Go.Proofs.YtkffpfapfljinaaGreatDoor
set_option linter.unusedSimpArgs false
set_option linter.unusedVariables false
namespace Abs
open Go.RowKit
abbrev vU : Val := Val.mk 6 0 eS [] []
structure Ck (v : Val) : Prop where
 ok : Vok v
 ck : qz v = 0
theorem qfw : vU.Fits := q3t (by decide) (by decide) q3l
theorem qjq {α : Type} (l : List α) (p : α → Bool) {body : Int → Option (Int ⊕ Int)} (hl : l.length ≤ 9223372036854775807)
  (step : ∀ (i : Nat) x, i < l.length → l[i]? = some x → body (i : Int) = some (if p x then .inr (i : Int) else .inl (IntKind.i64.wrap ((i : Int) + 1)))) (stop : body (l.length : Int) = some (.inr (-1))) :
  ∃ n : Int, qb body 0 = some n ∧ decide (n ≥ 0) = l.any p := by
 refine q13 (body := body) (fun s => ∃ i : Nat, s = (i : Int) ∧ i ≤ l.length ∧ (l.drop i).any p = l.any p) (fun s => l.length - s.toNat) (fun n => decide (n ≥ 0) = l.any p) ?_ 0 ⟨0, rfl, Nat.zero_le _, by simp⟩
 rintro s ⟨i, rfl, hi, hp⟩
 rcases Nat.eq_or_lt_of_le hi with h0 | h0
 ·subst h0
  refine .inr ⟨-1, stop, ?_⟩
  rw [← hp, List.drop_length]; rfl
 ·have hx := List.getElem?_eq_getElem h0
  have hs := step i _ h0 hx
  rw [List.drop_eq_getElem_cons h0, List.any_cons] at hp
  cases hq : p l[i] with
  | true =>
   rw [hq, if_pos rfl] at hs
   refine .inr ⟨_, hs, ?_⟩
   rw [← hp, hq]; simp
  | false =>
   rw [hq, if_neg (by decide), qk h0 hl] at hs
   refine .inl ⟨_, hs, ⟨i + 1, rfl, h0, ?_⟩, by simp only [Int.toNat_natCast]; omega⟩
   rw [← hp, hq]; rfl
theorem q77 {O : Type} {body : Int → Option (Int ⊕ O)} (n : Nat) (p : Nat → Prop) (yes no : O) (hn : n ≤ 9223372036854775807)
  (step : ∀ i : Nat, i < n → (p i ∧ body (i : Int) = some (.inl (IntKind.i64.wrap ((i : Int) + 1)))) ∨ (¬ p i ∧ body (i : Int) = some (.inr no)))
  (stop : body (n : Int) = some (.inr yes)) : (qb body 0 = some yes ∧ ∀ i, i < n → p i) ∨ (qb body 0 = some no ∧ ∃ i, i < n ∧ ¬ p i) := by
 have := q13 (body := body) (fun s => ∃ i : Nat, s = (i : Int) ∧ i ≤ n ∧ ∀ j, j < i → p j) (fun s => n - s.toNat) (fun q => (q = yes ∧ ∀ i, i < n → p i) ∨ (q = no ∧ ∃ i, i < n ∧ ¬ p i)) (by
  rintro s ⟨i, rfl, hi, hp⟩
  rcases Nat.eq_or_lt_of_le hi with h0 | h0
  ·subst h0
   exact .inr ⟨yes, stop, .inl ⟨rfl, hp⟩⟩
  ·rcases step i h0 with ⟨h1, h2⟩ | ⟨h1, h2⟩
   ·rw [qk h0 hn] at h2
    refine .inl ⟨_, h2, ⟨i + 1, rfl, h0, fun j hj => ?_⟩, ?_⟩
    ·rcases Nat.eq_or_lt_of_le (Nat.le_of_lt_succ hj) with rfl | h
     ·exact h1
     ·exact hp j h
    ·simp only [Int.toNat_natCast]; omega
   ·exact .inr ⟨no, h2, .inr ⟨rfl, i, h0, h1⟩⟩) 0 ⟨0, rfl, Nat.zero_le _, fun j hj => by omega⟩
 obtain ⟨q, h1, ⟨rfl, h⟩ | ⟨rfl, h⟩⟩ := this
 ·exact .inl ⟨h1, h⟩
 ·exact .inr ⟨h1, h⟩
mutual
def q18 : Val → Bool
 | .mk k _ _ items _ => decide (k ≠ 6) && qav items
def qav : List Val → Bool
 | [] => true
 | x :: r => q18 x && qav r
end
theorem qjd : ∀ l : List Val, qav l = l.all q18
 | [] => rfl
 | x :: r => by rw [qav, qjd r, List.all_cons]
theorem qdw (v : Val) : q18 v = (decide (v.kind ≠ 6) && v.items.all q18) := by
 cases v; rw [q18, qjd]; rfl
end Abs
end Go.Proofs.YtkffpfapfljinaaGreatDoor
namespace Go.Proofs.YtkffpfapfljinaaGreatDoor
set_option linter.unusedSimpArgs false
set_option linter.unusedVariables false
namespace Abs
open Go.RowKit
theorem qdk {l : List ByteArray} {v : ByteArray} (h : v ∉ l) : hasB l v = false := by
 cases e : hasB l v with
 | false => rfl
 | true => exact absurd (q3v.1 e) h
theorem qik (v : Val) (key : ByteArray) (hf : v.Fits) (hk : v.kind = 5) (hl : v.keys.length = v.items.length) (hr : Rising v.keys) : gQ91 v key = some (look v.keys v.items key, hasB v.keys key) := by
 obtain ⟨f1, f2, f3, f4, f5, f6, f7⟩ := hf.parts
 obtain ⟨q, h1, h2, h3, h4, h5⟩ := q7i v.keys key (by have := q16 f5 (by decide); omega) hr
 have hk' : decide (v.kind = 5) = true := decide_eq_true hk
 unfold gQ91
 rw [h1, Option.bind_some, hk', Bool.not_true, cond_false]
 cases hq : q.2 with
 | false =>
  rw [Bool.not_false, cond_true, qb2 _ _ _ (h5 hq), qdk (h5 hq)]
 | true =>
  rw [Bool.not_true, cond_false]
  have e := h4 hq
  obtain ⟨hi, _⟩ := List.getElem?_eq_some_iff.1 e
  have hi' : q.1.toNat < v.items.length := by omega
  have hd : decide (q.1 ≥ (v.items.length : Int)) = false := decide_eq_false (by omega)
  have hI : idx v.items q.1 = some v.items[q.1.toNat] := by
   have := qc v.items q.1.toNat
   rw [show ((q.1.toNat : Nat) : Int) = q.1 by omega] at this
   rw [this, List.getElem?_eq_getElem hi']
  rw [hd, cond_false, hI, Option.bind_some, q87 _ (f7 _ (List.getElem_mem hi')), Option.bind_some]
  rw [q4p _ _ _ _ _ hr e (List.getElem?_eq_getElem hi'), q3v.2 (List.mem_of_getElem? e)]
theorem qcq {v : Val} (hf : v.Fits) (h : qz v = 0) : Ck v := ⟨q9a hf h, h⟩
mutual
theorem qhd : ∀ (x : Val) (lv n lv' n' : Int), lv' ≤ lv → n' ≤ n → (q14 x lv n).1 = 0 → (q14 x lv' n').1 = 0 ∧ (q14 x lv' n').2 ≤ (q14 x lv n).2
 | .mk k m s items keys, lv, n, lv', n', h1, h2, h => by
  rw [q14] at h ⊢
  rw [q14]
  by_cases c1 : 32 < lv
  ·rw [if_pos c1] at h; simp at h
  rw [if_neg c1] at h ⊢
  rw [if_neg (show ¬ 32 < lv' by omega)]
  by_cases c2 : 4096 ≤ n
  ·rw [if_pos c2] at h; simp at h
  rw [if_neg c2] at h ⊢
  rw [if_neg (show ¬ 4096 ≤ n' by omega)]
  by_cases c3 : q15 (.mk k m s items keys) ≠ 0
  ·rw [if_pos c3] at h; exact absurd h c3
  rw [if_neg c3] at h ⊢
  rw [if_neg c3]
  exact qhc items (lv + 1) (n + 1) (lv' + 1) (n' + 1) (by omega) (by omega) h
theorem qhc : ∀ (l : List Val) (lv n lv' n' : Int), lv' ≤ lv → n' ≤ n → (q1a l lv n).1 = 0 → (q1a l lv' n').1 = 0 ∧ (q1a l lv' n').2 ≤ (q1a l lv n).2
 | [], lv, n, lv', n', h1, h2, h => by simp only [q1a]; exact ⟨trivial, h2⟩
 | x :: r, lv, n, lv', n', h1, h2, h => by
  rw [q1a] at h ⊢
  rw [q1a]
  by_cases c : (q14 x lv n).1 ≠ 0
  ·rw [if_pos c] at h; exact absurd h c
  rw [if_neg c] at h ⊢
  obtain ⟨g1, g2⟩ := qhd x lv n lv' n' h1 h2 (Classical.not_not.1 c)
  rw [if_neg (by simp [g1])]
  exact qhc r lv _ lv' _ h1 g2 h
end
theorem qhb : ∀ (l : List Val) (lv n : Int), 1 ≤ lv → 0 ≤ n → n ≤ 4096 → (q1a l lv n).1 = 0 → ∀ x ∈ l, qz x = 0
 | [], _, _, _, _, _, _, x, hx => absurd hx List.not_mem_nil
 | y :: r, lv, n, h1, h2, h3, h, x, hx => by
  rw [q1a] at h
  by_cases c : (q14 y lv n).1 ≠ 0
  ·rw [if_pos c] at h; exact absurd h c
  rw [if_neg c] at h
  have c' := Classical.not_not.1 c
  rcases List.mem_cons.1 hx with rfl | hx
  ·exact (qhd x lv n 1 0 h1 h2 c').1
  ·have := qa4 y lv n h2 h3
   exact qhb r lv _ h1 (by omega) this.2 h x hx
theorem qnt {v : Val} (h : qz v = 0) : ∀ x ∈ v.items, qz x = 0 := by
 unfold qz at h
 rw [q85, if_neg (by decide), if_neg (by decide)] at h
 by_cases c : q15 v ≠ 0
 ·rw [if_pos c] at h; exact absurd h c
 rw [if_neg c] at h
 exact qhb v.items 2 1 (by decide) (by decide) (by decide) h
theorem Ck.item {v : Val} (h : Ck v) : ∀ x ∈ v.items, Ck x := fun x hx => ⟨h.ok.item x hx, qnt h.ck x hx⟩
theorem vZ_ck : Ck vZ := ⟨qbv, q6w qfx.node⟩
theorem Ck.look {v : Val} (h : Ck v) (n : ByteArray) : Ck (look v.keys v.items n) := by
 rcases q8h v.keys v.items n with e | e
 ·exact h.item _ e
 ·rw [e]; exact vZ_ck
end Abs
end Go.Proofs.YtkffpfapfljinaaGreatDoor
