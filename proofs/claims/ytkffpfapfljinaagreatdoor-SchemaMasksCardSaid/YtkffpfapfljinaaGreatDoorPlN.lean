/-
  Two loops side by side; identifiers; the check of a type is the reference's.
  Schemas: copies of types, attributes by name, the type of a schema, the check of a schema.
  The type of a schema, in the program and in the reference.
  The check of a schema is the reference's; what a valid schema is.
  value.Map of pairs with different keys, and the reference's Put: the pairs by ascending keys.
  The configuration of a schema, completed and converted: the program's is the reference's.
  Coerce: the program's is the reference's.
  Propose, Changed and Replaced: the program's are the reference's.
  The example of the chapter: what its functions return there.
  The laws of checks, finds, coercion, proposals and changes.
-/
import Derived.Test.YtkffpfapfljinaaGreatDoorPlL
namespace Go.Proofs.YtkffpfapfljinaaGreatDoor
set_option linter.unusedSimpArgs false
set_option linter.unusedVariables false
namespace Abs
open Go.RowKit
theorem qjr {S1 S2 O1 O2 : Type} {b1 : S1 → Option (S1 ⊕ O1)} {b2 : S2 → Option (S2 ⊕ O2)} (R : S1 → S2 → Prop) (μ : S1 → Nat) (Q : O1 → O2 → Prop)
  (step : ∀ s t, R s t → (∃ s' t', b1 s = some (.inl s') ∧ b2 t = some (.inl t') ∧ R s' t' ∧ μ s' < μ s) ∨ ∃ p q, b1 s = some (.inr p) ∧ b2 t = some (.inr q) ∧ Q p q) : ∀ s t, R s t → ∃ p q, qb b1 s = some p ∧ qb b2 t = some q ∧ Q p q := by
 have key : ∀ n s t, μ s < n → R s t → ∃ p q, qb b1 s = some p ∧ qb b2 t = some q ∧ Q p q := by
  intro n
  induction n with
  | zero => intro s t h; omega
  | succ n ih =>
   intro s t h hr
   rcases step s t hr with ⟨s', t', h1, h2, h3, h4⟩ | ⟨p, q, h1, h2, h3⟩
   ·rw [q3a h1, q3a h2]; exact ih s' t' (by omega) h3
   ·exact ⟨p, q, q2d h1, q2d h2, h3⟩
 exact fun s t hr => key _ s t (Nat.lt_succ_self _) hr
theorem q9v {a b : ByteArray} (h : a.toList = b.toList) : a = b := by
 rw [ByteArray.toList_eq, ByteArray.toList_eq] at h
 obtain ⟨⟨x⟩⟩ := a
 obtain ⟨⟨y⟩⟩ := b
 simp at h
 subst h; rfl
theorem qb0 (a b : List UInt8) : Op.bytesLess a b = true ∨ a = b ∨ Op.bytesLess b a = true := by
 cases h : Op.bytesLess a b with
 | true => exact .inl rfl
 | false =>
  cases k : Op.bytesLess b a with
  | true => exact .inr (.inr rfl)
  | false => exact .inr (.inl (qci h k))
theorem qdy {a b : List UInt8} (h : Op.bytesLess a b = true) : Op.bytesLess b a = false := by
 cases k : Op.bytesLess b a with
 | false => rfl
 | true => have := q3p h k; rw [q3x] at this; cases this
theorem qaz (x y : ByteArray) : (Op.bytesLess x.toList y.toList || decide (x = y)) = !Op.bytesLess y.toList x.toList := by
 rcases qb0 x.toList y.toList with h | h | h
 ·rw [h, qdy h]; rfl
 ·have := q9v h
  subst this
  simp [q3x]
 ·rw [h, qdy h]
  have : x ≠ y := fun e => by subst e; rw [q3x] at h; cases h
  simp [this]
def letB (n : Nat) : Bool := decide (97 ≤ n ∧ n ≤ 122) || (decide (65 ≤ n ∧ n ≤ 90) || decide (n = 95))
def digB (n : Nat) : Bool := decide (48 ≤ n ∧ n ≤ 57)
theorem qjj (n : Nat) : gQ25 (n : Int) = some (letB n) := by
 unfold gQ25 letB
 by_cases h1 : 97 ≤ n <;> by_cases h2 : n ≤ 122 <;> by_cases h3 : 65 ≤ n <;> by_cases h4 : n ≤ 90 <;>
  simp [h1, h2, h3, h4, show ((n : Int) ≥ 97) = (97 ≤ n) by apply propext; omega, show ((n : Int) ≤ 122) = (n ≤ 122) by apply propext; omega, show ((n : Int) ≥ 65) = (65 ≤ n) by apply propext; omega, show ((n : Int) ≤ 90) = (n ≤ 90) by apply propext; omega, show ((n : Int) = 95) = (n = 95) by apply propext; omega]
def up (n : Nat) : Int := IntKind.u8.wrap ((BitVec.ofInt IntKind.u8.bits (n : Int) ||| BitVec.ofInt IntKind.u8.bits 32).toNat : Int)
theorem up_let : ∀ n : Nat, n < 256 → ((97 ≤ up n ∧ up n ≤ 122) ↔ (97 ≤ n ∧ n ≤ 122 ∨ 65 ≤ n ∧ n ≤ 90)) := by decide +kernel
def q2q (s : ByteArray) : Bool := decide (0 < s.size ∧ s.size ≤ 64 ∧ letB (s.data.getD 0 0).toNat = true ∧ ∀ i, i < s.size → letB (s.data.getD i 0).toNat = true ∨ digB (s.data.getD i 0).toNat = true)
theorem qa0 {s : ByteArray} {i : Nat} (h : i < s.size) : s[i] = s.data.getD i 0 := by
 have : i < s.data.size := h
 simp [Array.getD]
 rw [dif_pos h]; rfl
theorem qfb {s : ByteArray} (h : s ≠ eS) : 0 < s.size := by
 rcases Nat.eq_zero_or_pos s.size with k | k
 ·exact absurd (ByteArray.ext (Array.eq_empty_of_size_eq_zero k)) h
 ·exact k
theorem q72 (s : ByteArray) (hs : s.size ≤ 140737488351232) : gQ22 s = some (q2q s) := by
 unfold gQ22
 by_cases h0 : s = eS
 ·rw [decide_eq_true h0, cond_true]; subst h0; rfl
 have hp := qfb h0
 rw [decide_eq_false h0, cond_false]
 by_cases h64 : (s.size : Int) > 64
 ·rw [decide_eq_true h64, cond_true]; unfold q2q; rw [decide_eq_false (fun h => by omega)]
 rw [decide_eq_false h64, cond_false, show sidx s 0 = sidx s ((0 : Nat) : Int) from rfl, q94 hp, Option.bind_some, qjj, Option.bind_some]
 by_cases hl : letB (s.data.getD 0 0).toNat = true
 rotate_left
 ·rw [qa0 hp, Bool.eq_false_iff.2 hl, Bool.not_false, cond_true]; unfold q2q; rw [decide_eq_false (fun h => hl h.2.2.1)]
 rw [qa0 hp, hl, Bool.not_true, cond_false]
 have step : ∀ i : Nat, i < s.size → ((letB (s.data.getD i 0).toNat = true ∨ digB (s.data.getD i 0).toNat = true) ∧ gQ23 s (i : Int) = some (.inl (IntKind.i64.wrap ((i : Int) + 1)))) ∨ (¬ (letB (s.data.getD i 0).toNat = true ∨ digB (s.data.getD i 0).toNat = true) ∧ gQ23 s (i : Int) = some (.inr false)) := by
  intro i hi
  unfold gQ23
  rw [decide_eq_true (show (i : Int) < s.size by omega), cond_true]
  simp only [q94 hi, Option.bind_some, qjj, qa0 hi]
  generalize (s.data.getD i 0).toNat = n
  cases h : letB n with
  | true => left; simp
  | false =>
   by_cases h1 : (n : Int) < 48
   ·right; unfold digB; simp [h1]; omega
   by_cases h2 : (n : Int) > 57
   ·right; unfold digB; simp [h1, h2]; omega
   ·left; unfold digB; simp [h1, h2]; omega
 rcases q77 s.size _ true false (by omega) step (by unfold gQ23; rw [decide_eq_false (by omega), cond_false]) with ⟨h1, h2⟩ | ⟨h1, i, h2, h3⟩
 ·rw [h1]; unfold q2q; rw [decide_eq_true ⟨hp, by omega, hl, h2⟩]
 ·rw [h1]; unfold q2q; rw [decide_eq_false fun h => h3 (h.2.2.2 i h2)]
theorem qdn (s : ByteArray) (hs : s.size ≤ 140737488351232) : gQ00 s = some (q2q s) := by
 unfold gQ00
 have step : ∀ i : Nat, i < s.size → ((letB (s.data.getD i 0).toNat = true ∨ i ≠ 0 ∧ digB (s.data.getD i 0).toNat = true) ∧ gQ01 s (i : Int) = some (.inl (IntKind.i64.wrap ((i : Int) + 1)))) ∨ (¬ (letB (s.data.getD i 0).toNat = true ∨ i ≠ 0 ∧ digB (s.data.getD i 0).toNat = true) ∧ gQ01 s (i : Int) = some (.inr false)) := by
  intro i hi
  unfold gQ01
  rw [decide_eq_true (show (i : Int) < s.size by omega), cond_true]
  simp only [q94 hi, Option.bind_some, qa0 hi]
  have hb : (s.data.getD i 0).toNat < 256 := UInt8.toNat_lt _
  generalize (s.data.getD i 0).toNat = n at hb ⊢
  have hu := up_let n hb
  have e : (IntKind.u8.wrap ((BitVec.ofInt IntKind.u8.bits (n : Int) ||| BitVec.ofInt IntKind.u8.bits 32).toNat : Int)) = up n := rfl
  rw [e]
  unfold letB digB
  generalize up n = u at hu ⊢
  clear e
  by_cases h95 : n = 95
  ·left; subst h95; simp
  have h95' : ¬ (n : Int) = 95 := by omega
  by_cases hL : 97 ≤ n ∧ n ≤ 122 ∨ 65 ≤ n ∧ n ≤ 90
  ·obtain ⟨u1, u2⟩ := hu.2 hL
   left
   simp only [decide_eq_false h95', Bool.not_false, cond_true, decide_eq_false (show ¬ u < 97 by omega), cond_false, decide_eq_false (show ¬ u > 122 by omega)]
   refine ⟨.inl ?_, trivial⟩
   rcases hL with k | k <;> simp [k]
  ·have nl : ¬ ((decide (97 ≤ n ∧ n ≤ 122) || (decide (65 ≤ n ∧ n ≤ 90) || decide (n = 95))) = true) := by
    simp only [Bool.or_eq_true, decide_eq_true_eq]; omega
   have rest : ∀ x : Option (Int ⊕ Bool), x = some (.inr false) ∨ True := fun _ => .inr trivial
   have tl : (bif decide ((i : Int) = 0) then some (Sum.inr false) else bif decide ((n : Int) < 48) then some (Sum.inr false) else bif decide ((n : Int) > 57) then some (Sum.inr false) else some (Sum.inl (IntKind.i64.wrap ((i : Int) + 1)))) = if i ≠ 0 ∧ (48 ≤ n ∧ n ≤ 57) then some (Sum.inl (IntKind.i64.wrap ((i : Int) + 1))) else (some (Sum.inr false) : Option (Int ⊕ Bool)) := by
    by_cases k0 : i = 0
    ·subst k0; simp
    by_cases k1 : (n : Int) < 48
    ·rw [if_neg (by omega)]; simp [k1]
    by_cases k2 : (n : Int) > 57
    ·rw [if_neg (by omega)]; simp [k1, k2]
    ·rw [if_pos (by omega)]; simp [k0, k1, k2]
   have both : (bif !decide ((n : Int) = 95) then bif decide (u < 97) then (bif decide ((i : Int) = 0) then some (Sum.inr false) else bif decide ((n : Int) < 48) then some (Sum.inr false) else bif decide ((n : Int) > 57) then some (Sum.inr false) else some (Sum.inl (IntKind.i64.wrap ((i : Int) + 1)))) else bif decide (u > 122) then (bif decide ((i : Int) = 0) then some (Sum.inr false) else bif decide ((n : Int) < 48) then some (Sum.inr false) else bif decide ((n : Int) > 57) then some (Sum.inr false) else some (Sum.inl (IntKind.i64.wrap ((i : Int) + 1)))) else some (Sum.inl (IntKind.i64.wrap ((i : Int) + 1))) else some (Sum.inl (IntKind.i64.wrap ((i : Int) + 1)))) = if i ≠ 0 ∧ (48 ≤ n ∧ n ≤ 57) then some (Sum.inl (IntKind.i64.wrap ((i : Int) + 1))) else (some (Sum.inr false) : Option (Int ⊕ Bool)) := by
    rw [decide_eq_false h95', Bool.not_false, cond_true]
    by_cases k1 : u < 97
    ·rw [decide_eq_true k1, cond_true, tl]
    by_cases k2 : u > 122
    ·rw [decide_eq_false k1, decide_eq_true k2, cond_false, cond_true, tl]
    ·exact absurd (hu.1 ⟨by omega, by omega⟩) hL
   rw [both]
   by_cases hd : i ≠ 0 ∧ (48 ≤ n ∧ n ≤ 57)
   ·rw [if_pos hd]; exact .inl ⟨.inr ⟨hd.1, decide_eq_true hd.2⟩, rfl⟩
   ·rw [if_neg hd]; exact .inr ⟨fun h => h.elim nl fun h => hd ⟨h.1, of_decide_eq_true h.2⟩, rfl⟩
 rcases q77 s.size _ (decide (0 < s.size) && decide (s.size ≤ 64)) false (by omega) step (by
  unfold gQ01
  rw [decide_eq_false (show ¬ (s.size : Int) < s.size by omega), cond_false]
  by_cases h0 : s = eS
  ·rw [decide_eq_true h0]; subst h0; rfl
  ·rw [decide_eq_false h0, Bool.not_false, cond_true, decide_eq_true (qfb h0), Bool.true_and]
   congr 2; exact decide_eq_decide.2 (by omega)) with ⟨h1, h2⟩ | ⟨h1, i, h2, h3⟩
 ·rw [h1]
  unfold q2q
  rw [← Bool.decide_and]
  congr 1
  refine decide_eq_decide.2 ⟨fun ⟨k1, k2⟩ => ⟨k1, k2, ?_, fun i hi => (h2 i hi).imp id fun h => h.2⟩, fun h => ⟨h.1, h.2.1⟩⟩
  rcases h2 0 k1 with k | k
  ·exact k
  ·exact absurd rfl k.1
 ·rw [h1]
  unfold q2q
  rw [decide_eq_false]
  rintro ⟨k1, k2, k3, k4⟩
  refine h3 ?_
  rcases Nat.eq_zero_or_pos i with rfl | k
  ·exact .inl k3
  ·exact (k4 i h2).imp id fun h => ⟨by omega, h⟩
theorem qsr (t : Ty) (hf : t.Fits) : gQ8s t = gQ2y t := by
 obtain ⟨f1, f2, f3, f4, f5⟩ := hf.parts
 have hw : IntKind.i64.wrap ((t.elems.length : Int) + (t.names.length : Int)) = (t.elems.length : Int) + (t.names.length : Int) := q51 (by omega) (by omega)
 unfold gQ8s gQ2y
 rw [hw]
 by_cases h4 : t.kind = 4
 ·simp [h4]
 by_cases h5 : t.kind = 5
 ·simp [h4, h5]
 by_cases h6 : t.kind = 6
 ·simp [h4, h5, h6]
 by_cases h0 : t.kind < 0
 ·simp [h4, h5, h6, h0, show ¬ t.kind ≥ 0 by omega]
 by_cases h7 : t.kind > 6
 ·simp [h4, h5, h6, h0, h7, show t.kind ≥ 0 by omega, show ¬ t.kind ≤ 3 by omega]
 have e : decide ((t.elems.length : Int) + (t.names.length : Int) = 0) = (bif decide ((t.elems.length : Int) = 0) then decide ((t.names.length : Int) = 0) else false) := by
  by_cases k : (t.elems.length : Int) = 0
  ·rw [decide_eq_true k, cond_true]; exact decide_eq_decide.2 (by omega)
  ·rw [decide_eq_false k, cond_false, decide_eq_false (by omega)]
 rw [decide_eq_false h4, decide_eq_false h5, decide_eq_false h6, decide_eq_false h0, decide_eq_false h7, decide_eq_true (show t.kind ≥ 0 by omega), decide_eq_true (show t.kind ≤ 3 by omega), e]
 simp only [cond_false, cond_true]
 cases decide ((t.elems.length : Int) = 0) <;> rfl
open Classical in
theorem qsu (t : Ty) (lv : Int) : tQau t lv = gQ8f (fun a0 a1 => if relT a0 t then tQau a0 a1 else none) t lv := q2t t lv
theorem qis {α : Type} {l : List α} {i : Int} {x : α} (h : idx l i = some x) : x ∈ l := by
 unfold idx at h
 split at h
 ·exact List.mem_of_getElem? h
 ·cases h
open Classical in
theorem qnx (t : Ty) : ∀ lv : Int, t.Fits → tQau t lv = tQac t lv := by
 induction t using q4y with
 | h t ih =>
  intro lv hf
  obtain ⟨f1, f2, f3, f4, f5⟩ := hf.parts
  rw [qa3, qsu]
  have IH : ∀ e ∈ t.elems, ∀ l2, (fun a0 a1 => if relT a0 t then tQau a0 a1 else none) e l2 = (fun a0 a1 => if relT a0 t then tQac a0 a1 else none) e l2 := by
   intro e he l2
   simp only [if_pos (show relT e t from he)]
   exact ih e he l2 (f5 e he)
  generalize (fun a0 a1 => if relT a0 t then tQau a0 a1 else none) = r1 at IH
  generalize (fun a0 a1 => if relT a0 t then tQac a0 a1 else none) = r2 at IH
  have e2 : gQ8h r1 t lv = gQ2q r2 t lv := by
   funext s
   unfold gQ8h gQ2q
   cases decide (s < (t.elems.length : Int)) with
   | false => rfl
   | true =>
    rw [cond_true, cond_true]
    cases hx : idx t.elems s with
    | none => rfl
    | some x => rw [Option.bind_some, Option.bind_some, IH x (qis hx)]
  have e1 : gQ8g r1 t lv = gQ2p r2 t lv := by
   funext s
   unfold gQ8g gQ2p
   rw [e2]
   cases decide (s < (t.names.length : Int)) with
   | false => rfl
   | true =>
    rw [cond_true, cond_true]
    cases hx : idx t.names s with
    | none => rfl
    | some x =>
     have hs := f4 x (qis hx)
     simp only [Option.bind_some, q72 x hs, qdn x hs, qaz]
  unfold gQ8f gQ2o
  rw [qsr t hf, e1]
theorem qg2 (t : Ty) (hf : t.Fits) : gQ8a t = gQ2k t := by
 unfold gQ8a gQ2k
 rw [qnx t 1 hf]
end Abs
end Go.Proofs.YtkffpfapfljinaaGreatDoor
namespace Go.Proofs.YtkffpfapfljinaaGreatDoor
set_option linter.unusedSimpArgs false
set_option linter.unusedVariables false
namespace Abs
open Go.RowKit
def q6j (x : AttrG) : Prop := x.name.size ≤ 140737488351232 ∧ x.type_.Fits ∧ (-9223372036854775808 ≤ x.mode ∧ x.mode ≤ 9223372036854775807) ∧ True ∧ True ∧ True
def qc5 (x : NestedG) : Prop := x.name.size ≤ 140737488351232 ∧ (-9223372036854775808 ≤ x.min ∧ x.min ≤ 9223372036854775807) ∧ (-9223372036854775808 ≤ x.max ∧ x.max ≤ 9223372036854775807) ∧ (x.attrs.length * 88 ≤ 140737488351232 ∧ ∀ y ∈ x.attrs, q6j y) ∧ True
def q2a (x : SchemaG) : Prop := (x.attrs.length * 88 ≤ 140737488351232 ∧ ∀ y ∈ x.attrs, q6j y) ∧ (x.nested.length * 64 ≤ 140737488351232 ∧ ∀ y ∈ x.nested, qc5 y)
theorem qm2 (t : Ty) : Ty.mk t.kind t.elems t.names = t := by cases t; rfl
theorem qvf {α : Type} {l : List α} {i : Nat} {x : α} (h : l[i]? = some x) : upd l (i : Int) x = l := by
 unfold upd
 rw [Int.toNat_natCast]
 obtain ⟨hi, rfl⟩ := List.getElem?_eq_some_iff.1 h
 exact List.set_getElem_self hi
open Classical in
theorem qvc (t : Ty) : tQao t = gQ7t (fun a0 => if relT a0 t then tQao a0 else none) t := q2t t ()
open Classical in
theorem qfv (t : Ty) : t.Fits → tQao t = some t := by
 induction t using q4y with
 | h t ih =>
  intro hf
  obtain ⟨f1, f2, f3, f4, f5⟩ := hf.parts
  have hlen := tlen f2
  rw [qvc]
  have IH : ∀ e ∈ t.elems, (fun a0 => if relT a0 t then tQao a0 else none) e = some e := by
   intro e he
   simp only [if_pos (show relT e t from he)]
   exact ih e he (f5 e he)
  generalize (fun a0 => if relT a0 t then tQao a0 else none) = rec at IH
  unfold gQ7t
  rw [q5s f3, Option.bind_some]
  by_cases h0 : (t.elems.length : Int) = 0
  ·rw [decide_eq_true h0, cond_true]
   have he : t.elems = [] := List.length_eq_zero_iff.1 (by omega)
   refine q2d ?_
   show some (Sum.inr (Ty.mk t.kind [] t.names)) = _
   rw [← he, qm2]
  ·rw [decide_eq_false h0, cond_false, q5s f2, Option.bind_some]
   have := q13 (body := gQ7v rec t t.names t.elems) (fun s => ∃ i : Nat, s = ((i : Int), t.elems) ∧ i ≤ t.elems.length) (fun s => t.elems.length - s.1.toNat) (fun q => q = t) (by
    rintro s ⟨i, rfl, hi⟩
    rcases Nat.eq_or_lt_of_le hi with h1 | h1
    ·subst h1
     exact .inr ⟨t, by simp only [gQ7v, decide_eq_false (show ¬ (t.elems.length : Int) < t.elems.length by omega), cond_false, qm2], rfl⟩
    ·have hx := List.getElem?_eq_getElem h1
     refine .inl ⟨(((i + 1 : Nat) : Int), t.elems), ?_, ⟨i + 1, rfl, h1⟩, by simp only [Int.toNat_natCast]; omega⟩
     simp only [gQ7v, decide_eq_true (show (i : Int) < t.elems.length by omega), cond_true, qc, hx, Option.bind_some, IH _ (List.getElem_mem h1), qk h1 (show t.elems.length ≤ 9223372036854775807 by omega), qvf hx]) (0, t.elems) ⟨0, rfl, Nat.zero_le _⟩
   obtain ⟨q, h, rfl⟩ := this
   exact h
def aZ : AttrG := AttrG.mk eS (Ty.mk 0 [] []) 0 false false false
def nZ : NestedG := NestedG.mk eS 0 0 [] false
def qf (n : ByteArray) : List AttrG → AttrG × Bool
 | [] => (aZ, false)
 | a :: r => if a.name = n then (a, true) else qf n r
def q11 (n : ByteArray) : List NestedG → NestedG × Bool
 | [] => (nZ, false)
 | a :: r => if a.name = n then (a, true) else q11 n r
theorem qac {n : ByteArray} : ∀ {l : List AttrG}, (qf n l).2 = true → (qf n l).1 ∈ l ∧ (qf n l).1.name = n
 | [], h => by cases h
 | a :: r, h => by
  unfold qf at h ⊢
  by_cases e : a.name = n
  ·rw [if_pos e]; exact ⟨List.mem_cons_self, e⟩
  ·rw [if_neg e] at h ⊢
   have := qac (l := r) h
   exact ⟨List.mem_cons_of_mem _ this.1, this.2⟩
theorem qd9 {n : ByteArray} : ∀ {l : List AttrG}, (qf n l).2 = false → qf n l = (aZ, false) ∧ ∀ a ∈ l, a.name ≠ n
 | [], h => ⟨rfl, fun a ha => absurd ha List.not_mem_nil⟩
 | a :: r, h => by
  unfold qf at h ⊢
  by_cases e : a.name = n
  ·rw [if_pos e] at h; cases h
  ·rw [if_neg e] at h ⊢
   have := qd9 (l := r) h
   exact ⟨this.1, fun b hb => by
    rcases List.mem_cons.1 hb with rfl | hb
    ·exact e
    ·exact this.2 b hb⟩
theorem qd8 {n : ByteArray} {l : List AttrG} : (qf n l).2 = true ↔ ∃ a ∈ l, a.name = n := by
 cases h : (qf n l).2 with
 | true => exact ⟨fun _ => ⟨_, qac h⟩, fun _ => rfl⟩
 | false => exact ⟨fun k => (by cases k), fun ⟨a, h1, h2⟩ => absurd h2 ((qd9 h).2 a h1)⟩
theorem qdc {n : ByteArray} : ∀ {l : List NestedG}, (q11 n l).2 = true → (q11 n l).1 ∈ l ∧ (q11 n l).1.name = n
 | [], h => by cases h
 | a :: r, h => by
  unfold q11 at h ⊢
  by_cases e : a.name = n
  ·rw [if_pos e]; exact ⟨List.mem_cons_self, e⟩
  ·rw [if_neg e] at h ⊢
   have := qdc (l := r) h
   exact ⟨List.mem_cons_of_mem _ this.1, this.2⟩
theorem qi3 {n : ByteArray} : ∀ {l : List NestedG}, (q11 n l).2 = false → q11 n l = (nZ, false) ∧ ∀ a ∈ l, a.name ≠ n
 | [], h => ⟨rfl, fun a ha => absurd ha List.not_mem_nil⟩
 | a :: r, h => by
  unfold q11 at h ⊢
  by_cases e : a.name = n
  ·rw [if_pos e] at h; cases h
  ·rw [if_neg e] at h ⊢
   have := qi3 (l := r) h
   exact ⟨this.1, fun b hb => by
    rcases List.mem_cons.1 hb with rfl | hb
    ·exact e
    ·exact this.2 b hb⟩
theorem qi2 {n : ByteArray} {l : List NestedG} : (q11 n l).2 = true ↔ ∃ a ∈ l, a.name = n := by
 cases h : (q11 n l).2 with
 | true => exact ⟨fun _ => ⟨_, qdc h⟩, fun _ => rfl⟩
 | false => exact ⟨fun k => (by cases k), fun ⟨a, h1, h2⟩ => absurd h2 ((qi3 h).2 a h1)⟩
theorem q7u (s : SchemaG) (n : ByteArray) (hl : s.attrs.length ≤ 9223372036854775807) (hf : ∀ a ∈ s.attrs, a.type_.Fits) : gQ5o s n = some (qf n s.attrs) := by
 refine q59 s.attrs (fun i (_ : Unit) => (i : Int)) (fun _ l => qf n l) (fun _ _ => True) (a := ()) rfl trivial (fun _ _ => ?_) (fun i x r _ hi hx _ _ => ?_)
 ·simp only [gQ5p, decide_eq_false (show ¬ (s.attrs.length : Int) < s.attrs.length by omega), cond_false]; rfl
 ·have e1 : gQ5p s n (i : Int) = bif (decide (x.name = n)) then some (.inr (x, true)) else some (.inl ((i + 1 : Nat) : Int)) := by
   simp only [gQ5p, decide_eq_true (show (i : Int) < s.attrs.length by omega), cond_true, qc, hx, Option.bind_some, qfv _ (hf x (List.mem_of_getElem? hx)), qk hi hl]
  by_cases e : x.name = n
  ·right; rw [e1, decide_eq_true e, cond_true]; unfold qf; rw [if_pos e]
  ·left; exact ⟨(), trivial, by rw [e1, decide_eq_false e, cond_false], by rw [qf, if_neg e]⟩
theorem q4d (l : List AttrG) (n : ByteArray) (hl : l.length ≤ 9223372036854775807) : gQ3i l n = some (qf n l) := by
 refine q59 l (fun i (_ : Unit) => (i : Int)) (fun _ l => qf n l) (fun _ _ => True) (a := ()) rfl trivial (fun _ _ => ?_) (fun i x r _ hi hx _ _ => ?_)
 ·simp only [gQ3j, decide_eq_false (show ¬ (l.length : Int) < l.length by omega), cond_false]; rfl
 ·have e1 : gQ3j l n (i : Int) = bif (decide (x.name = n)) then some (.inr (x, true)) else some (.inl ((i + 1 : Nat) : Int)) := by
   simp only [gQ3j, decide_eq_true (show (i : Int) < l.length by omega), cond_true, qc, hx, Option.bind_some, qk hi hl]
  by_cases e : x.name = n
  ·right; rw [e1, decide_eq_true e, cond_true]; unfold qf; rw [if_pos e]
  ·left; exact ⟨(), trivial, by rw [e1, decide_eq_false e, cond_false], by rw [qf, if_neg e]⟩
theorem qq7 (s : SchemaG) (n : ByteArray) (hl : s.nested.length ≤ 9223372036854775807) : gQ7j s n = some (q11 n s.nested) := by
 refine q59 s.nested (fun i (_ : Unit) => (i : Int)) (fun _ l => q11 n l) (fun _ _ => True) (a := ()) rfl trivial (fun _ _ => ?_) (fun i x r _ hi hx _ _ => ?_)
 ·simp only [gQ7k, decide_eq_false (show ¬ (s.nested.length : Int) < s.nested.length by omega), cond_false]; rfl
 ·have e1 : gQ7k s n (i : Int) = bif (decide (x.name = n)) then some (.inr (x, true)) else some (.inl ((i + 1 : Nat) : Int)) := by
   simp only [gQ7k, decide_eq_true (show (i : Int) < s.nested.length by omega), cond_true, qc, hx, Option.bind_some, qk hi hl]
  by_cases e : x.name = n
  ·right; rw [e1, decide_eq_true e, cond_true]; unfold q11; rw [if_pos e]
  ·left; exact ⟨(), trivial, by rw [e1, decide_eq_false e, cond_false], by rw [q11, if_neg e]⟩
theorem qc6 (s : SchemaG) (n : ByteArray) (hl : s.nested.length ≤ 9223372036854775807) : gQ42 s n = some (q11 n s.nested) := by
 refine q59 s.nested (fun i (_ : Unit) => (i : Int)) (fun _ l => q11 n l) (fun _ _ => True) (a := ()) rfl trivial (fun _ _ => ?_) (fun i x r _ hi hx _ _ => ?_)
 ·simp only [gQ43, decide_eq_false (show ¬ (s.nested.length : Int) < s.nested.length by omega), cond_false]; rfl
 ·have e1 : gQ43 s n (i : Int) = bif (decide (x.name = n)) then some (.inr (x, true)) else some (.inl ((i + 1 : Nat) : Int)) := by
   simp only [gQ43, decide_eq_true (show (i : Int) < s.nested.length by omega), cond_true, qc, hx, Option.bind_some, qk hi hl]
  by_cases e : x.name = n
  ·right; rw [e1, decide_eq_true e, cond_true]; unfold q11; rw [if_pos e]
  ·left; exact ⟨(), trivial, by rw [e1, decide_eq_false e, cond_false], by rw [q11, if_neg e]⟩
def objT (l : List AttrG) : Ty := Ty.mk 6 (l.map (·.type_)) (l.map (·.name))
theorem qe5 {O : Type} (l : List AttrG) {body : Int × List Ty × List ByteArray → Option ((Int × List Ty × List ByteArray) ⊕ O)} (R : List Ty → List ByteArray → O)
  (step : ∀ (i : Nat) (ts : List Ty) (ns : List ByteArray) (x : AttrG), i < l.length → l[i]? = some x → ts.length = i → ns.length = i → body ((i : Int), ts, ns) = some (.inl (((i + 1 : Nat) : Int), ts ++ [x.type_], ns ++ [x.name])))
  (stop : ∀ ts ns, body ((l.length : Int), ts, ns) = some (.inr (R ts ns))) : qb body (0, [], []) = some (R (l.map (·.type_)) (l.map (·.name))) := by
 have := q13 (body := body) (fun s => ∃ i : Nat, s = ((i : Int), (l.take i).map (·.type_), (l.take i).map (·.name)) ∧ i ≤ l.length) (fun s => l.length - s.1.toNat) (fun q => q = R (l.map (·.type_)) (l.map (·.name))) (by
  rintro s ⟨i, rfl, hi⟩
  rcases Nat.eq_or_lt_of_le hi with h0 | h0
  ·subst h0
   exact .inr ⟨_, stop _ _, by rw [List.take_length]⟩
  ·refine .inl ⟨_, step i _ _ _ h0 (List.getElem?_eq_getElem h0) (by simp; omega) (by simp; omega), ⟨i + 1, ?_, h0⟩, by simp only [Int.toNat_natCast]; omega⟩
   rw [List.take_succ_eq_append_getElem h0, List.map_append, List.map_append]; rfl) (0, [], []) ⟨0, by simp, Nat.zero_le _⟩
 obtain ⟨q, h, rfl⟩ := this
 exact h
theorem qrn (l : List AttrG) (hl : l.length ≤ 1000) (hf : ∀ a ∈ l, a.type_.Fits) : gQ7q l = some (objT l) := by
 refine qe5 l (fun ts ns => Ty.mk 6 ts ns) (fun i ts ns x hi hx h1 h2 => ?_) (fun ts ns => ?_)
 ·simp only [gQ7r, decide_eq_true (show (i : Int) < l.length by omega), cond_true, qc, hx, Option.bind_some, qfv _ (hf x (List.mem_of_getElem? hx)), qw ns x.name (m := 16) (n := 1001) (by decide) (by omega) (by decide), qw ts x.type_ (m := 56) (n := 1001) (by decide) (by omega) (by decide), qk hi (show l.length ≤ 9223372036854775807 by omega)]
 ·simp only [gQ7r, decide_eq_false (show ¬ (l.length : Int) < l.length by omega), cond_false]
theorem qle (l : List AttrG) (hl : l.length ≤ 1000) : gQ51 l = some (objT l) := by
 refine qe5 l (fun ts ns => Ty.mk 6 ts ns) (fun i ts ns x hi hx h1 h2 => ?_) (fun ts ns => ?_)
 ·simp only [gQ52, decide_eq_true (show (i : Int) < l.length by omega), cond_true, qc, hx, Option.bind_some, qw ns x.name (m := 16) (n := 1001) (by decide) (by omega) (by decide), qw ts x.type_ (m := 56) (n := 1001) (by decide) (by omega) (by decide), qk hi (show l.length ≤ 9223372036854775807 by omega)]
 ·simp only [gQ52, decide_eq_false (show ¬ (l.length : Int) < l.length by omega), cond_false]
theorem qoz (s : SchemaG) (hl : s.attrs.length ≤ 1000) (hf : ∀ a ∈ s.attrs, a.type_.Fits) : gQ6b s = some (s.attrs.map (·.type_), s.attrs.map (·.name)) := by
 refine qe5 s.attrs (fun ts ns => (ts, ns)) (fun i ts ns x hi hx h1 h2 => ?_) (fun ts ns => ?_)
 ·simp only [gQ6c, decide_eq_true (show (i : Int) < s.attrs.length by omega), cond_true, qc, hx, Option.bind_some, qfv _ (hf x (List.mem_of_getElem? hx)), qw ns x.name (m := 16) (n := 1001) (by decide) (by omega) (by decide), qw ts x.type_ (m := 56) (n := 1001) (by decide) (by omega) (by decide), qk hi (show s.attrs.length ≤ 9223372036854775807 by omega)]
 ·simp only [gQ6c, decide_eq_false (show ¬ (s.attrs.length : Int) < s.attrs.length by omega), cond_false]
section
variable {α : Type}
def SP (l : List (ByteArray × α)) : Prop := l.Pairwise fun p q => Op.bytesLess p.1.toList q.1.toList = true
theorem qbp : ∀ {l m : List (ByteArray × α)}, SP l → SP m → (∀ p, p ∈ l ↔ p ∈ m) → l = m
 | [], [], _, _, _ => rfl
 | [], q :: m, _, _, h => absurd ((h q).2 List.mem_cons_self) List.not_mem_nil
 | p :: l, [], _, _, h => absurd ((h p).1 List.mem_cons_self) List.not_mem_nil
 | p :: l, q :: m, hl, hm, h => by
  obtain ⟨l1, l2⟩ := List.pairwise_cons.1 hl
  obtain ⟨m1, m2⟩ := List.pairwise_cons.1 hm
  have e : p = q := by
   rcases List.mem_cons.1 ((h p).1 List.mem_cons_self) with e | e
   ·exact e
   rcases List.mem_cons.1 ((h q).2 List.mem_cons_self) with k | k
   ·exact k.symm
   ·have := qdy (m1 p e); rw [l1 q k] at this; cases this
  subst e
  have np : ∀ {l : List (ByteArray × α)}, (∀ q ∈ l, Op.bytesLess p.1.toList q.1.toList = true) → p ∉ l := fun h k => by
   have := h p k; rw [q3x] at this; cases this
  rw [qbp l2 m2 fun x => ⟨fun hx => ?_, fun hx => ?_⟩]
  ·rcases List.mem_cons.1 ((h x).1 (List.mem_cons_of_mem _ hx)) with rfl | k
   ·exact absurd hx (np l1)
   ·exact k
  ·rcases List.mem_cons.1 ((h x).2 (List.mem_cons_of_mem _ hx)) with rfl | k
   ·exact absurd hx (np m1)
   ·exact k
def insP (p : ByteArray × α) : List (ByteArray × α) → List (ByteArray × α)
 | [] => [p]
 | q :: r => if Op.bytesLess q.1.toList p.1.toList = true then q :: insP p r else p :: q :: r
theorem q62 {p x : ByteArray × α} : ∀ {l : List (ByteArray × α)}, x ∈ insP p l ↔ x = p ∨ x ∈ l
 | [] => by simp [insP]
 | q :: r => by
  unfold insP
  split
  ·rw [List.mem_cons, q62 (l := r), List.mem_cons]
   exact ⟨fun h => h.elim (fun h => .inr (.inl h)) fun h => h.elim .inl fun h => .inr (.inr h), fun h => h.elim (fun h => .inr (.inl h)) fun h => h.elim .inl fun h => .inr (.inr h)⟩
  ·rw [List.mem_cons]
theorem qbo {p : ByteArray × α} : ∀ {l : List (ByteArray × α)}, SP l → (∀ q ∈ l, q.1 ≠ p.1) → SP (insP p l)
 | [], _, _ => List.pairwise_singleton _ _
 | q :: r, h, hn => by
  obtain ⟨h1, h2⟩ := List.pairwise_cons.1 h
  unfold insP
  split
  ·rename_i hc
   refine List.pairwise_cons.2 ⟨fun x hx => ?_, qbo h2 fun q hq => hn q (List.mem_cons_of_mem _ hq)⟩
   rcases q62.1 hx with rfl | k
   ·exact hc
   ·exact h1 x k
  ·rename_i hc
   have hpq : Op.bytesLess p.1.toList q.1.toList = true := by
    rcases qb0 q.1.toList p.1.toList with k | k | k
    ·exact absurd k hc
    ·exact absurd (q9v k) (hn q List.mem_cons_self)
    ·exact k
   refine List.pairwise_cons.2 ⟨fun x hx => ?_, h⟩
   rcases List.mem_cons.1 hx with rfl | k
   ·exact hpq
   ·exact q3p hpq (h1 x k)
theorem qaq {p : ByteArray × α} : ∀ {l : List (ByteArray × α)}, (insP p l).length = l.length + 1
 | [] => rfl
 | q :: r => by unfold insP; split <;> simp [qaq (l := r)]
theorem qiv {p : ByteArray × α} : ∀ {l : List (ByteArray × α)} {k : Nat}, k ≤ l.length → (∀ (j : Nat) q, j < k → l[j]? = some q → Op.bytesLess q.1.toList p.1.toList = true) → (∀ q, l[k]? = some q → Op.bytesLess q.1.toList p.1.toList = false) → insP p l = insL l k p
  | [], k, hk, _, _ => by obtain rfl : k = 0 := by simpa using hk
                          rfl
  | q :: r, 0, _, _, h2 => by
    unfold insP
    rw [if_neg (by rw [h2 q rfl]; decide)]; rfl
  | q :: r, k + 1, hk, h1, h2 => by
    unfold insP
    rw [if_pos (h1 0 q (Nat.succ_pos _) rfl), qiv (l := r) (k := k) (by simpa using hk) (fun j x hj hx => h1 (j + 1) x (by omega) hx) (fun x hx => h2 x hx)]
    rfl
theorem qiu {β : Type} (f : α → β) (l : List α) (k : Nat) (x : α) : (insL l k x).map f = insL (l.map f) k (f x) := by
 unfold insL
 simp [List.map_take, List.map_drop]
theorem qlc {l : List (ByteArray × α)} (h : SP l) : Rising (l.map (·.1)) := q6b (List.pairwise_map.2 h)
end
theorem qes {l : List ByteArray} (h : Rising l) : l.Pairwise fun a b => Op.bytesLess a.toList b.toList = true :=
 List.pairwise_iff_getElem.2 fun i j hi hj hij => h i j hij _ _ (List.getElem?_eq_getElem hi) (List.getElem?_eq_getElem hj)
end Abs
end Go.Proofs.YtkffpfapfljinaaGreatDoor
namespace Go.Proofs.YtkffpfapfljinaaGreatDoor
set_option linter.unusedSimpArgs false
set_option linter.unusedVariables false
namespace Abs
open Go.RowKit
theorem qul (l : List ByteArray) (v : ByteArray) (hl : l.length * 2 ≤ 9223372036854775807) (hr : Rising l) :
  ∃ q : Int × Bool, gQ7x l v = some q ∧ ∃ k : Nat, q.1 = (k : Int) ∧ k ≤ l.length ∧ (∀ j a, j < k → l[j]? = some a → Op.bytesLess a.toList v.toList = true) ∧ (∀ j a, k ≤ j → l[j]? = some a → Op.bytesLess a.toList v.toList = false) := by
 refine q13 (body := gQ7y l v) (fun s => ∃ i j : Nat, s = ((i : Int), (j : Int)) ∧ i ≤ j ∧ j ≤ l.length ∧ (∀ k a, k < i → l[k]? = some a → Op.bytesLess a.toList v.toList = true) ∧ (∀ k a, j ≤ k → l[k]? = some a → Op.bytesLess a.toList v.toList = false)) (fun s => (s.2 - s.1).toNat)
  (fun q => ∃ k : Nat, q.1 = (k : Int) ∧ k ≤ l.length ∧ (∀ j a, j < k → l[j]? = some a → Op.bytesLess a.toList v.toList = true) ∧ (∀ j a, k ≤ j → l[j]? = some a → Op.bytesLess a.toList v.toList = false)) ?_ (0, (l.length : Int)) ⟨0, l.length, rfl, Nat.zero_le _, Nat.le_refl _, fun k a hk => by omega, fun k a hk e => by rw [List.getElem?_eq_none hk] at e; cases e⟩
 rintro s ⟨i, j, rfl, hij, hj, h1, h2⟩
 by_cases hlt : i < j
 ·left
  have hm : (i + j) / 2 < l.length := by omega
  have hI : idx l (((i + j) / 2 : Nat) : Int) = some l[(i + j) / 2] := by rw [qc]; exact List.getElem?_eq_getElem hm
  have hmid := qjz (i := i) (j := j) (by omega)
  have hdec : decide (((i : Int), (j : Int)).1 < ((i : Int), (j : Int)).2) = true := by simp [hlt]
  unfold gQ7y
  rw [hdec]
  simp only [cond_true, hmid, hI, Option.bind_some, qji]
  cases hc : Op.bytesLess l[(i + j) / 2].toList v.toList with
  | true =>
   refine ⟨((((i + j) / 2 + 1 : Nat) : Int), (j : Int)), by simp only [cond_true, qk (i := (i + j) / 2) (n := l.length) hm (by omega)], ⟨_, j, rfl, by omega, hj, fun k a hk e => ?_, h2⟩, by simp; omega⟩
   rcases Nat.eq_or_lt_of_le (show k ≤ (i + j) / 2 by omega) with rfl | hk'
   ·rw [List.getElem?_eq_getElem hm] at e; simp at e; subst e; exact hc
   ·exact q3p (hr k _ hk' a _ e (List.getElem?_eq_getElem hm)) hc
  | false =>
   refine ⟨((i : Int), (((i + j) / 2 : Nat) : Int)), by simp only [cond_false], ⟨i, _, rfl, by omega, by omega, h1, fun k a hk e => ?_⟩, by simp; omega⟩
   rcases Nat.eq_or_lt_of_le hk with rfl | hk'
   ·rw [List.getElem?_eq_getElem hm] at e; simp at e; subst e; exact hc
   ·cases hb : Op.bytesLess a.toList v.toList with
    | false => rfl
    | true => rw [q3p (hr _ k hk' _ a (List.getElem?_eq_getElem hm) e) hb] at hc; cases hc
 ·right
  obtain rfl : i = j := by omega
  have hdec : decide (((i : Int), (i : Int)).1 < ((i : Int), (i : Int)).2) = false := by simp
  unfold gQ7y
  rw [hdec]
  simp only [cond_false]
  by_cases hil : i < l.length
  ·have hI : idx l (i : Int) = some l[i] := by rw [qc]; exact List.getElem?_eq_getElem hil
   have hd2 : decide ((i : Int) < (l.length : Int)) = true := by simp [hil]
   rw [hd2]
   simp only [cond_true, hI, Option.bind_some, gQ88]
   by_cases he : l[i] = v
   ·exact ⟨((i : Int), true), by simp [he], i, rfl, hj, h1, h2⟩
   ·exact ⟨((i : Int), false), by simp [he], i, rfl, hj, h1, h2⟩
  ·have hd2 : decide ((i : Int) < (l.length : Int)) = false := by simp; omega
   rw [hd2]
   exact ⟨((i : Int), false), by simp, i, rfl, hj, h1, h2⟩
def nt (n : NestedG) : Ty := Ty.mk 4 [objT n.attrs] []
def ap (a : AttrG) : ByteArray × Ty := (a.name, a.type_)
def np (n : NestedG) : ByteArray × Ty := (n.name, nt n)
def addN (L : List (ByteArray × Ty)) (ns : List NestedG) : List (ByteArray × Ty) := ns.foldl (fun L n => insP (np n) L) L
def typL (s : SchemaG) : List (ByteArray × Ty) := addN (s.attrs.map ap) s.nested
def tyOf (L : List (ByteArray × Ty)) : Ty := Ty.mk 6 (L.map (·.2)) (L.map (·.1))
structure NamesOk (s : SchemaG) : Prop where
 la : s.attrs.length ≤ 70
 ln : s.nested.length ≤ 70
 ra : s.attrs.Pairwise fun a b => Op.bytesLess a.name.toList b.name.toList = true
 rn : s.nested.Pairwise fun a b => Op.bytesLess a.name.toList b.name.toList = true
 dj : ∀ a ∈ s.attrs, ∀ n ∈ s.nested, a.name ≠ n.name
 lk : ∀ n ∈ s.nested, n.attrs.length ≤ 70
theorem qgb : ∀ (ns : List NestedG) (L : List (ByteArray × Ty)), SP L → (∀ n ∈ ns, ∀ q ∈ L, q.1 ≠ n.name) → (ns.Pairwise fun a b => Op.bytesLess a.name.toList b.name.toList = true) →
  SP (addN L ns) ∧ (∀ p, p ∈ addN L ns ↔ p ∈ L ∨ ∃ n ∈ ns, p = np n) ∧ (addN L ns).length = L.length + ns.length
 | [], L, h, _, _ => ⟨h, fun p => by simp [addN], rfl⟩
 | n :: r, L, h, hn, hp => by
  obtain ⟨p1, p2⟩ := List.pairwise_cons.1 hp
  have h1 := qbo (p := np n) h fun q hq => hn n List.mem_cons_self q hq
  obtain ⟨a, b, c⟩ := qgb r (insP (np n) L) h1 (fun m hm q hq e => by
   rcases q62.1 hq with rfl | k
   ·have := p1 m hm
    rw [show n.name = m.name from e, q3x] at this; cases this
   ·exact hn m (List.mem_cons_of_mem _ hm) q k e) p2
  refine ⟨a, fun p => (b p).trans ?_, by show (addN (insP (np n) L) r).length = _; rw [c, qaq, List.length_cons]; omega⟩
  rw [q62]
  constructor
  ·rintro ((k | k) | ⟨m, hm, k⟩)
   ·exact .inr ⟨n, List.mem_cons_self, k⟩
   ·exact .inl k
   ·exact .inr ⟨m, List.mem_cons_of_mem _ hm, k⟩
  ·rintro (k | ⟨m, hm, k⟩)
   ·exact .inl (.inr k)
   ·rcases List.mem_cons.1 hm with rfl | hm
    ·exact .inl (.inl k)
    ·exact .inr ⟨m, hm, k⟩
theorem q7q {s : SchemaG} (h : NamesOk s) : SP (typL s) ∧ (∀ p, p ∈ typL s ↔ (∃ a ∈ s.attrs, p = ap a) ∨ ∃ n ∈ s.nested, p = np n) ∧ (typL s).length = s.attrs.length + s.nested.length := by
 obtain ⟨a, b, c⟩ := qgb s.nested (s.attrs.map ap) (List.pairwise_map.2 h.ra) (fun n hn q hq => by
  obtain ⟨a, ha, rfl⟩ := List.mem_map.1 hq
  exact h.dj a ha n hn) h.rn
 refine ⟨a, fun p => (b p).trans ?_, by rw [← List.length_map (f := ap)]; exact c⟩
 rw [List.mem_map]
 exact ⟨fun k => k.imp (fun ⟨x, h1, h2⟩ => ⟨x, h1, h2.symm⟩) id, fun k => k.imp (fun ⟨x, h1, h2⟩ => ⟨x, h1, h2.symm⟩) id⟩
theorem qju {α : Type} {b : Nat} {xs : List α} {k : Nat} {x : α} (h : k ≤ xs.length) (hl : xs.length ≤ 1000) (hb : b ≤ 100) : q5b b xs (k : Int) x = some (insL xs k x) := by
 unfold q5b
 have : (xs.length + 1) * b ≤ 1001 * 100 := Nat.mul_le_mul (by omega) hb
 rw [if_pos ⟨by omega, by omega, by omega⟩, Int.toNat_natCast]
theorem q7w (s : SchemaG) (h : NamesOk s) (hf : q2a s) : gQ69 s = some (tyOf (typL s)) := by
 unfold gQ69
 have h1 := h.la
 have h2 := h.ln
 rw [qoz s (by omega) fun a ha => (hf.1.2 a ha).2.1, Option.bind_some]
 have := q59 (body := gQ6a s) s.nested (fun i L => ((i : Int), L.map (·.2), L.map (·.1))) (fun L ns => tyOf (addN L ns)) (fun L ns => SP L ∧ (∀ n ∈ ns, ∀ q ∈ L, q.1 ≠ n.name) ∧ (ns.Pairwise fun a b => Op.bytesLess a.name.toList b.name.toList = true) ∧ L.length + ns.length ≤ 140) (s0 := (0, s.attrs.map (·.type_), s.attrs.map (·.name))) (a := s.attrs.map ap) (by
   simp only [List.map_map]; rfl) ⟨List.pairwise_map.2 h.ra, fun n hn q hq => by
    obtain ⟨a, ha, rfl⟩ := List.mem_map.1 hq
    exact h.dj a ha n hn, h.rn, by rw [List.length_map]; omega⟩ (fun L _ => ?_) (fun i x r L hi hx hd ⟨q1, q2, q3, q4⟩ => ?_)
 ·exact this
 ·simp only [gQ6a, decide_eq_false (show ¬ (s.nested.length : Int) < s.nested.length by omega), cond_false]; rfl
 ·left
  rw [List.length_cons] at q4
  have hmem := List.mem_of_getElem? hx
  obtain ⟨p1, p2⟩ := List.pairwise_cons.1 q3
  obtain ⟨q, e1, k, e2, e3, e4, e5⟩ := qul (L.map (·.1)) x.name (by rw [List.length_map]; omega) (qlc q1)
  have e3' : k ≤ L.length := by simpa using e3
  have hat : insP (np x) L = insL L k (np x) := qiv e3' (fun j z hj hz => e4 j z.1 hj (by rw [List.getElem?_map, hz]; rfl)) fun z hz => e5 k z.1 (Nat.le_refl _) (by rw [List.getElem?_map, hz]; rfl)
  refine ⟨insP (np x) L, ⟨qbo q1 (q2 x List.mem_cons_self), fun m hm z hz e => ?_, p2, by rw [qaq]; omega⟩, ?_, rfl⟩
  ·rcases q62.1 hz with rfl | k
   ·have := p1 m hm
    rw [show x.name = m.name from e, q3x] at this; cases this
   ·exact q2 m (List.mem_cons_of_mem _ hm) z k e
  ·have n1 : (L.map (·.1)).length ≤ 1000 := by rw [List.length_map]; omega
   have n2 : (L.map (·.2)).length ≤ 1000 := by rw [List.length_map]; omega
   have n3 : k ≤ (L.map (·.2)).length := by rw [List.length_map]; exact e3'
   have hlk := h.lk x hmem
   simp only [gQ6a, decide_eq_true (show (i : Int) < s.nested.length by omega), cond_true, qc, hx, Option.bind_some, e1, e2, qju e3 n1 (show 16 ≤ 100 by decide), qrn x.attrs (by omega) fun a ha => ((hf.2.2 x hmem).2.2.2.1.2 a ha).2.1, qju n3 n2 (show 56 ≤ 100 by decide), qk hi (show s.nested.length ≤ 9223372036854775807 by omega)]
   rw [hat, qiu, qiu]; rfl
theorem q7n {α : Type} {l : List α} {i : Nat} {x y : α} (h : l[i]? = some x) : y ∈ l.take (i + 1) ↔ y ∈ l.take i ∨ y = x := by
 obtain ⟨hi, rfl⟩ := List.getElem?_eq_some_iff.1 h
 rw [List.take_succ_eq_append_getElem hi, List.mem_append, List.mem_singleton]
theorem qkz (s : SchemaG) (h : NamesOk s) : gQ4e s = some (tyOf (typL s)) := by
 have h1 := h.la
 have h2 := h.ln
 obtain ⟨t1, t2, t3⟩ := q7q h
 unfold gQ4e
 have := q13 (body := gQ4f s) (fun st => ∃ (i k : Nat) (L : List (ByteArray × Ty)), st = ((i : Int), (k : Int), L.map (·.2), L.map (·.1)) ∧ i ≤ s.attrs.length ∧ k ≤ s.nested.length ∧ L.length = i + k ∧ SP L ∧ (∀ p, p ∈ L ↔ (∃ a ∈ s.attrs.take i, p = ap a) ∨ ∃ n ∈ s.nested.take k, p = np n) ∧
   (∀ p ∈ L, ∀ a ∈ s.attrs.drop i, Op.bytesLess p.1.toList a.name.toList = true) ∧ (∀ p ∈ L, ∀ n ∈ s.nested.drop k, Op.bytesLess p.1.toList n.name.toList = true)) (fun st => (s.attrs.length - st.1.toNat) + (s.nested.length - st.2.1.toNat)) (fun q => q = tyOf (typL s)) ?_ (0, 0, [], []) ⟨0, 0, [], rfl, Nat.zero_le _, Nat.zero_le _, rfl, List.Pairwise.nil, fun p => by simp, fun p hp => absurd hp List.not_mem_nil, fun p hp => absurd hp List.not_mem_nil⟩
 ·obtain ⟨q, e, rfl⟩ := this; exact e
 rintro st ⟨i, k, L, rfl, hi, hk, hlen, hsp, hm, hA, hN⟩
 have n1 : (L.map (·.1)).length ≤ 140 := by rw [List.length_map]; omega
 have n2 : (L.map (·.2)).length ≤ 140 := by rw [List.length_map]; omega
 have a1 : ∀ x : ByteArray, app 16 (L.map (·.1)) [x] = some (L.map (·.1) ++ [x]) := fun x => qw _ x (m := 16) (n := 1001) (by decide) (by omega) (by decide)
 have a2 : ∀ x : Ty, app 56 (L.map (·.2)) [x] = some (L.map (·.2) ++ [x]) := fun x => qw _ x (m := 56) (n := 1001) (by decide) (by omega) (by decide)
 -- the next attribute
 have stepA : ∀ x : AttrG, (hi' : i < s.attrs.length) → s.attrs[i]? = some x → (∀ n ∈ s.nested.drop k, Op.bytesLess x.name.toList n.name.toList = true) →
   gQ4f s ((i : Int), (k : Int), L.map (·.2), L.map (·.1)) = some (.inl (((i + 1 : Nat) : Int), (k : Int), L.map (·.2) ++ [x.type_], L.map (·.1) ++ [x.name])) →
   (∃ s', gQ4f s ((i : Int), (k : Int), L.map (·.2), L.map (·.1)) = some (.inl s') ∧ (∃ (i k : Nat) (L : List (ByteArray × Ty)), s' = ((i : Int), (k : Int), L.map (·.2), L.map (·.1)) ∧ i ≤ s.attrs.length ∧ k ≤ s.nested.length ∧ L.length = i + k ∧ SP L ∧ (∀ p, p ∈ L ↔ (∃ a ∈ s.attrs.take i, p = ap a) ∨ ∃ n ∈ s.nested.take k, p = np n) ∧
   (∀ p ∈ L, ∀ a ∈ s.attrs.drop i, Op.bytesLess p.1.toList a.name.toList = true) ∧ (∀ p ∈ L, ∀ n ∈ s.nested.drop k, Op.bytesLess p.1.toList n.name.toList = true)) ∧ (s.attrs.length - s'.1.toNat) + (s.nested.length - s'.2.1.toNat) < (s.attrs.length - (i : Int).toNat) + (s.nested.length - (k : Int).toNat)) := by
  intro x hi' hx hlt e
  obtain ⟨_, rfl⟩ := List.getElem?_eq_some_iff.1 hx
  have hdr : s.attrs.drop i = s.attrs[i] :: s.attrs.drop (i + 1) := List.drop_eq_getElem_cons hi'
  have hpw : ∀ a ∈ s.attrs.drop (i + 1), Op.bytesLess s.attrs[i].name.toList a.name.toList = true := by
   have := h.ra.drop (i := i)
   rw [hdr] at this
   exact (List.pairwise_cons.1 this).1
  refine ⟨_, e, ⟨i + 1, k, L ++ [ap s.attrs[i]], by simp [ap], hi', hk, by simp [hlen]; omega, ?_, fun p => ?_, fun p hp a ha => ?_, fun p hp n hn => ?_⟩, by simp only [Int.toNat_natCast]; omega⟩
  ·refine List.pairwise_append.2 ⟨hsp, List.pairwise_singleton _ _, fun p hp q hq => ?_⟩
   obtain rfl := List.mem_singleton.1 hq
   exact hA p hp _ (by rw [hdr]; exact List.mem_cons_self)
  ·rw [List.mem_append, hm, List.mem_singleton]
   constructor
   ·rintro ((⟨a, h1, h2⟩ | h) | h)
    ·exact .inl ⟨a, (q7n hx).2 (.inl h1), h2⟩
    ·exact .inr h
    ·exact .inl ⟨_, (q7n hx).2 (.inr rfl), h⟩
   ·rintro (⟨a, h1, h2⟩ | h)
    ·rcases (q7n hx).1 h1 with k | rfl
     ·exact .inl (.inl ⟨a, k, h2⟩)
     ·exact .inr h2
    ·exact .inl (.inr h)
  ·rcases List.mem_append.1 hp with hp | hp
   ·exact hA p hp a (by rw [hdr]; exact List.mem_cons_of_mem _ ha)
   ·obtain rfl := List.mem_singleton.1 hp
    exact hpw a ha
  ·rcases List.mem_append.1 hp with hp | hp
   ·exact hN p hp n hn
   ·obtain rfl := List.mem_singleton.1 hp
    exact hlt n hn
 have stepN : ∀ x : NestedG, (hk' : k < s.nested.length) → s.nested[k]? = some x → (∀ a ∈ s.attrs.drop i, Op.bytesLess x.name.toList a.name.toList = true) →
   gQ4f s ((i : Int), (k : Int), L.map (·.2), L.map (·.1)) = some (.inl ((i : Int), ((k + 1 : Nat) : Int), L.map (·.2) ++ [nt x], L.map (·.1) ++ [x.name])) →
   (∃ s', gQ4f s ((i : Int), (k : Int), L.map (·.2), L.map (·.1)) = some (.inl s') ∧ (∃ (i k : Nat) (L : List (ByteArray × Ty)), s' = ((i : Int), (k : Int), L.map (·.2), L.map (·.1)) ∧ i ≤ s.attrs.length ∧ k ≤ s.nested.length ∧ L.length = i + k ∧ SP L ∧ (∀ p, p ∈ L ↔ (∃ a ∈ s.attrs.take i, p = ap a) ∨ ∃ n ∈ s.nested.take k, p = np n) ∧
   (∀ p ∈ L, ∀ a ∈ s.attrs.drop i, Op.bytesLess p.1.toList a.name.toList = true) ∧ (∀ p ∈ L, ∀ n ∈ s.nested.drop k, Op.bytesLess p.1.toList n.name.toList = true)) ∧ (s.attrs.length - s'.1.toNat) + (s.nested.length - s'.2.1.toNat) < (s.attrs.length - (i : Int).toNat) + (s.nested.length - (k : Int).toNat)) := by
  intro x hk' hx hlt e
  obtain ⟨_, rfl⟩ := List.getElem?_eq_some_iff.1 hx
  have hdr : s.nested.drop k = s.nested[k] :: s.nested.drop (k + 1) := List.drop_eq_getElem_cons hk'
  have hpw : ∀ a ∈ s.nested.drop (k + 1), Op.bytesLess s.nested[k].name.toList a.name.toList = true := by
   have := h.rn.drop (i := k)
   rw [hdr] at this
   exact (List.pairwise_cons.1 this).1
  refine ⟨_, e, ⟨i, k + 1, L ++ [np s.nested[k]], by simp [np], hi, hk', by simp [hlen]; omega, ?_, fun p => ?_, fun p hp a ha => ?_, fun p hp n hn => ?_⟩, by simp only [Int.toNat_natCast]; omega⟩
  ·refine List.pairwise_append.2 ⟨hsp, List.pairwise_singleton _ _, fun p hp q hq => ?_⟩
   obtain rfl := List.mem_singleton.1 hq
   exact hN p hp _ (by rw [hdr]; exact List.mem_cons_self)
  ·rw [List.mem_append, hm, List.mem_singleton]
   constructor
   ·rintro ((h | ⟨a, h1, h2⟩) | h)
    ·exact .inl h
    ·exact .inr ⟨a, (q7n hx).2 (.inl h1), h2⟩
    ·exact .inr ⟨_, (q7n hx).2 (.inr rfl), h⟩
   ·rintro (h | ⟨a, h1, h2⟩)
    ·exact .inl (.inl h)
    ·rcases (q7n hx).1 h1 with k | rfl
     ·exact .inl (.inr ⟨a, k, h2⟩)
     ·exact .inr h2
  ·rcases List.mem_append.1 hp with hp | hp
   ·exact hA p hp a ha
   ·obtain rfl := List.mem_singleton.1 hp
    exact hlt a ha
  ·rcases List.mem_append.1 hp with hp | hp
   ·exact hN p hp n (by rw [hdr]; exact List.mem_cons_of_mem _ hn)
   ·obtain rfl := List.mem_singleton.1 hp
    exact hpw n hn
 by_cases hi' : i < s.attrs.length
 ·have hx := List.getElem?_eq_getElem hi'
  have w := qk hi' (show s.attrs.length ≤ 9223372036854775807 by omega)
  by_cases hk' : k < s.nested.length
  ·have hy := List.getElem?_eq_getElem hk'
   have wk := qk hk' (show s.nested.length ≤ 9223372036854775807 by omega)
   have ho := qle s.nested[k].attrs (by have := h.lk _ (List.getElem_mem hk'); omega)
   cases hb : Op.bytesLess s.attrs[i].name.toList s.nested[k].name.toList with
   | true =>
    refine .inl (stepA _ hi' hx (fun n hn => ?_) ?_)
    ·rw [List.drop_eq_getElem_cons hk'] at hn
     rcases List.mem_cons.1 hn with rfl | hn
     ·exact hb
     ·have := h.rn.drop (i := k)
      rw [List.drop_eq_getElem_cons hk'] at this
      exact q3p hb ((List.pairwise_cons.1 this).1 n hn)
    ·simp only [gQ4f, decide_eq_true (show (i : Int) < s.attrs.length by omega), cond_true, decide_eq_false (show ¬ (k : Int) = s.nested.length by omega), cond_false, qc, hx, hy, Option.bind_some, hb, a1, a2, w]
   | false =>
    have hlt : Op.bytesLess s.nested[k].name.toList s.attrs[i].name.toList = true := by
     rcases qb0 s.nested[k].name.toList s.attrs[i].name.toList with q | q | q
     ·exact q
     ·exact absurd (q9v q).symm (h.dj _ (List.getElem_mem hi') _ (List.getElem_mem hk'))
     ·rw [q] at hb; cases hb
    refine .inl (stepN _ hk' hy (fun a ha => ?_) ?_)
    ·rw [List.drop_eq_getElem_cons hi'] at ha
     rcases List.mem_cons.1 ha with rfl | ha
     ·exact hlt
     ·have := h.ra.drop (i := i)
      rw [List.drop_eq_getElem_cons hi'] at this
      exact q3p hlt ((List.pairwise_cons.1 this).1 a ha)
    ·simp only [gQ4f, decide_eq_true (show (i : Int) < s.attrs.length by omega), cond_true, decide_eq_false (show ¬ (k : Int) = s.nested.length by omega), cond_false, qc, hx, hy, Option.bind_some, hb, ho, a1, a2, wk]; rfl
  ·obtain rfl : k = s.nested.length := by omega
   refine .inl (stepA _ hi' hx (fun n hn => by rw [List.drop_length] at hn; exact absurd hn List.not_mem_nil) ?_)
   simp only [gQ4f, decide_eq_true (show (i : Int) < s.attrs.length by omega), cond_true, decide_true, qc, hx, Option.bind_some, a1, a2, w]
 ·obtain rfl : i = s.attrs.length := by omega
  by_cases hk' : k < s.nested.length
  ·have hy := List.getElem?_eq_getElem hk'
   have wk := qk hk' (show s.nested.length ≤ 9223372036854775807 by omega)
   have ho := qle s.nested[k].attrs (by have := h.lk _ (List.getElem_mem hk'); omega)
   refine .inl (stepN _ hk' hy (fun n hn => by rw [List.drop_length] at hn; exact absurd hn List.not_mem_nil) ?_)
   simp only [gQ4f, decide_eq_false (show ¬ (s.attrs.length : Int) < s.attrs.length by omega), cond_true, decide_eq_true (show (k : Int) < s.nested.length by omega), decide_eq_false (show ¬ (k : Int) = s.nested.length by omega), cond_false, qc, hy, Option.bind_some, ho, a1, a2, wk]; rfl
  ·obtain rfl : k = s.nested.length := by omega
   refine .inr ⟨_, ?_, rfl⟩
   simp only [gQ4f, decide_eq_false (show ¬ (s.attrs.length : Int) < s.attrs.length by omega), decide_eq_false (show ¬ (s.nested.length : Int) < s.nested.length by omega), cond_false]
   rw [List.take_length, List.take_length] at hm
   rw [← qbp hsp t1 fun p => (hm p).trans (t2 p).symm]; rfl
end Abs
end Go.Proofs.YtkffpfapfljinaaGreatDoor
namespace Go.Proofs.YtkffpfapfljinaaGreatDoor
set_option linter.unusedSimpArgs false
set_option linter.unusedVariables false
namespace Abs
open Go.RowKit
def q7s (a : AttrG) : Prop := q2q a.name = true ∧ gQ2k a.type_ = some 0 ∧ 1 ≤ a.mode ∧ a.mode ≤ 4 ∧ (a.volatile = true → 3 ≤ a.mode)
theorem qrb (m : Int) (v : Bool) : (bif (decide (m < 1)) then some 1 else bif (decide (m > 4)) then some 1 else bif v then bif (decide (m < 3)) then some 1 else some 0 else some 0) = some (if 1 ≤ m ∧ m ≤ 4 ∧ (v = true → 3 ≤ m) then 0 else (1 : Int)) := by
 by_cases h1 : m < 1
 ·rw [decide_eq_true h1, cond_true, if_neg (by omega)]
 by_cases h2 : m > 4
 ·rw [decide_eq_false h1, decide_eq_true h2, cond_false, cond_true, if_neg (by omega)]
 rw [decide_eq_false h1, decide_eq_false h2, cond_false, cond_false]
 cases v
 ·rw [cond_false, if_pos ⟨by omega, by omega, fun h => by cases h⟩]
 ·rw [cond_true]
  by_cases h3 : m < 3
  ·rw [decide_eq_true h3, cond_true, if_neg (fun h => by have := h.2.2 rfl; omega)]
  ·rw [decide_eq_false h3, cond_false, if_pos ⟨by omega, by omega, fun _ => by omega⟩]
theorem qrc (m : Int) (v : Bool) : (bif (decide (m < 1)) then some 1 else bif (decide (m > 4)) then some 1 else bif v then bif (decide (m = 1)) then some 1 else bif (decide (m = 2)) then some 1 else some 0 else some 0) = some (if 1 ≤ m ∧ m ≤ 4 ∧ (v = true → 3 ≤ m) then 0 else (1 : Int)) := by
 by_cases h1 : m < 1
 ·rw [decide_eq_true h1, cond_true, if_neg (by omega)]
 by_cases h2 : m > 4
 ·rw [decide_eq_false h1, decide_eq_true h2, cond_false, cond_true, if_neg (by omega)]
 rw [decide_eq_false h1, decide_eq_false h2, cond_false, cond_false]
 cases v
 ·rw [cond_false, if_pos ⟨by omega, by omega, fun h => by cases h⟩]
 ·rw [cond_true]
  by_cases h3 : m = 1
  ·rw [decide_eq_true h3, cond_true, if_neg (fun h => by have := h.2.2 rfl; omega)]
  by_cases h4 : m = 2
  ·rw [decide_eq_false h3, decide_eq_true h4, cond_false, cond_true, if_neg (fun h => by have := h.2.2 rfl; omega)]
  ·rw [decide_eq_false h3, decide_eq_false h4, cond_false, cond_false, if_pos ⟨by omega, by omega, fun _ => by omega⟩]
theorem qn4 (a : AttrG) (last : ByteArray) (first : Bool) (hf : q6j a) :
  ∃ r, gQ6f a last first = some r ∧ gQ4h a last first = some r ∧ (r = 0 ↔ (first = false → Op.bytesLess last.toList a.name.toList = true) ∧ q7s a) := by
 obtain ⟨e, he, _⟩ := q9d a.type_ hf.2.1
 have he2 := (qg2 a.type_ hf.2.1).trans he
 unfold gQ6f gQ4h
 rw [qdn _ hf.1, q72 _ hf.1, Option.bind_some, Option.bind_some]
 cases hi : q2q a.name with
 | false => exact ⟨7, rfl, rfl, fun h => by omega, fun h => by have := h.2.1; rw [hi] at this; cases this⟩
 | true =>
  rw [Bool.not_true, cond_false, cond_false]
  have tail : ∃ r, ((gQ8a a.type_).bind fun y5 => bif (!decide (y5 = 0)) then some (y5) else bif (decide (a.mode < 1)) then some (1) else bif (decide (a.mode > 4)) then some (1) else bif a.volatile then bif (decide (a.mode < 3)) then some (1) else some (0) else some (0)) = some r ∧
    ((gQ2k a.type_).bind fun y5 => bif (!decide (y5 = 0)) then some (y5) else bif (decide (a.mode < 1)) then some (1) else bif (decide (a.mode > 4)) then some (1) else bif a.volatile then bif (decide (a.mode = 1)) then some (1) else bif (decide (a.mode = 2)) then some (1) else some (0) else some (0)) = some r ∧ (r = 0 ↔ q7s a) := by
   rw [he, he2, Option.bind_some, Option.bind_some, qrb, qrc]
   by_cases h0 : e = 0
   ·rw [decide_eq_true h0, Bool.not_true, cond_false]
    refine ⟨_, rfl, rfl, ?_⟩
    unfold q7s
    rw [he]
    by_cases hm : 1 ≤ a.mode ∧ a.mode ≤ 4 ∧ (a.volatile = true → 3 ≤ a.mode)
    ·rw [if_pos hm]; exact ⟨fun _ => ⟨hi, by rw [h0], hm⟩, fun _ => rfl⟩
    ·rw [if_neg hm]; exact ⟨fun h => by omega, fun h => absurd h.2.2 hm⟩
   ·rw [decide_eq_false h0, Bool.not_false, cond_true]
    refine ⟨e, rfl, rfl, fun h => absurd h h0, fun h => ?_⟩
    have := h.2.1
    rw [he] at this
    exact Option.some.inj this
  obtain ⟨r, t1, t2, t3⟩ := tail
  cases first with
  | true =>
   rw [Bool.not_true, cond_false, cond_false]
   exact ⟨r, t1, t2, t3.trans ⟨fun h => ⟨(fun k => by cases k), h⟩, fun h => h.2⟩⟩
  | false =>
   rw [Bool.not_false, cond_true, cond_true, qaz]
   cases hl : Op.bytesLess last.toList a.name.toList with
   | false => exact ⟨1, rfl, rfl, fun h => by omega, fun h => by have := h.1 rfl; cases this⟩
   | true =>
    rw [Bool.not_true, cond_false, cond_false]
    exact ⟨r, t1, t2, t3.trans ⟨fun h => ⟨fun _ => rfl, h⟩, fun h => h.2⟩⟩
def q5k (l : List AttrG) (cfg : Bool) : Prop := (∀ a ∈ l, q7s a ∧ (cfg = true → a.mode ≤ 2)) ∧ l.Pairwise fun a b => Op.bytesLess a.name.toList b.name.toList = true
theorem qsk {l : List AttrG} (h : ∀ (i : Nat) a b, l[i]? = some a → l[i + 1]? = some b → Op.bytesLess a.name.toList b.name.toList = true) : l.Pairwise fun a b => Op.bytesLess a.name.toList b.name.toList = true := by
 have := qes (qf4 (l := l.map (·.name)) fun i a b ha hb => by
  rw [List.getElem?_map, Option.map_eq_some_iff] at ha hb
  obtain ⟨x, hx, rfl⟩ := ha
  obtain ⟨y, hy, rfl⟩ := hb
  exact h i x y hx hy)
 exact List.pairwise_map.1 this
theorem qsl {l : List NestedG} (h : ∀ (i : Nat) a b, l[i]? = some a → l[i + 1]? = some b → Op.bytesLess a.name.toList b.name.toList = true) : l.Pairwise fun a b => Op.bytesLess a.name.toList b.name.toList = true := by
 have := qes (qf4 (l := l.map (·.name)) fun i a b ha hb => by
  rw [List.getElem?_map, Option.map_eq_some_iff] at ha hb
  obtain ⟨x, hx, rfl⟩ := ha
  obtain ⟨y, hy, rfl⟩ := hb
  exact h i x y hx hy)
 exact List.pairwise_map.1 this
theorem qch (l : List AttrG) (cfg : Bool) (hl : l.length ≤ 1000) (hf : ∀ a ∈ l, q6j a) :
  ∃ r, gQ6h l cfg = some r ∧ gQ4j l cfg = some r ∧ (r = 0 ↔ q5k l cfg) := by
 unfold gQ6h gQ4j
 have := qjr (b1 := gQ6i l) (b2 := gQ4k l) (fun s t => ∃ (i : Nat) (last : ByteArray), s = (cfg, (i : Int), last) ∧ t = (cfg, last, (i : Int)) ∧ i ≤ l.length ∧ (∀ a, 0 < i → l[i - 1]? = some a → a.name = last) ∧ (∀ (j : Nat) a, j < i → l[j]? = some a → q7s a ∧ (cfg = true → a.mode ≤ 2)) ∧ ∀ (j : Nat) a b, j + 1 < i → l[j]? = some a → l[j + 1]? = some b → Op.bytesLess a.name.toList b.name.toList = true)
  (fun s => l.length - s.2.1.toNat) (fun p q => p = q ∧ (p = 0 ↔ q5k l cfg)) ?_ (cfg, 0, eS) (cfg, eS, 0) ⟨0, eS, rfl, rfl, Nat.zero_le _, fun a h => by omega, fun j a h => by omega, fun j a b h => by omega⟩
 ·obtain ⟨p, q, h1, h2, rfl, h3⟩ := this
  exact ⟨p, h1, h2, h3⟩
 rintro s t ⟨i, last, rfl, rfl, hi, hla, hok, hadj⟩
 rcases Nat.eq_or_lt_of_le hi with h0 | h0
 ·subst h0
  refine .inr ⟨0, 0, by simp only [gQ6i, decide_eq_false (show ¬ (l.length : Int) < l.length by omega), cond_false], by simp only [gQ4k, decide_eq_false (show ¬ (l.length : Int) < l.length by omega), cond_false], rfl, fun _ => ⟨fun a ha => ?_, qsk fun j a b ha hb => hadj j a b (List.getElem?_eq_some_iff.1 hb).1 ha hb⟩, fun _ => rfl⟩
  obtain ⟨j, hj⟩ := List.getElem?_of_mem ha
  exact hok j a (List.getElem?_eq_some_iff.1 hj).1 hj
 ·have hx := List.getElem?_eq_getElem h0
  have hmem := List.getElem_mem h0
  have w := qk h0 (show l.length ≤ 9223372036854775807 by omega)
  obtain ⟨r, r1, r2, r3⟩ := qn4 l[i] last (decide ((i : Int) = 0)) (hf _ hmem)
  have hlt : decide ((i : Int) < (l.length : Int)) = true := decide_eq_true (by omega)
  -- all is right so far: the name is above the last
  have above : q5k l cfg → decide ((i : Int) = 0) = false → Op.bytesLess last.toList l[i].name.toList = true := by
   rintro ⟨_, k2⟩ hd
   have hi0 : 0 < i := by
    rcases Nat.eq_zero_or_pos i with rfl | k
    ·simp at hd
    ·exact k
   have hp : i - 1 < l.length := by omega
   have := hla _ hi0 (List.getElem?_eq_getElem hp)
   rw [← this]
   exact List.pairwise_iff_getElem.1 k2 (i - 1) i hp h0 (by omega)
  by_cases hr : r = 0
  ·obtain ⟨k1, k2⟩ := r3.1 hr
   have next : cfg = true → l[i].mode ≤ 2 → True := fun _ _ => trivial
   by_cases hm : cfg = true ∧ l[i].mode > 2
   ·refine .inr ⟨1, 1, ?_, ?_, rfl, fun h => by omega, fun h => ?_⟩
    ·simp only [gQ6i, hlt, cond_true, qc, hx, Option.bind_some, r1, decide_eq_true hr, Bool.not_true, cond_false, hm.1, decide_eq_true hm.2]
    ·simp only [gQ4k, hlt, cond_true, qc, hx, Option.bind_some, r2, decide_eq_true hr, Bool.not_true, cond_false, hm.1, decide_eq_false (show ¬ l[i].mode = 1 by have := hm.2; omega), decide_eq_false (show ¬ l[i].mode = 2 by have := hm.2; omega), Bool.not_false]
    ·have := (h.1 _ hmem).2 hm.1
     have := hm.2
     omega
   ·have hmo : cfg = true → l[i].mode ≤ 2 := fun h => Int.not_lt.1 fun k => hm ⟨h, k⟩
    refine .inl ⟨(cfg, ((i + 1 : Nat) : Int), l[i].name), (cfg, l[i].name, ((i + 1 : Nat) : Int)), ?_, ?_, ⟨i + 1, l[i].name, rfl, rfl, h0, fun a _ ha => ?_, fun j a hj ha => ?_, fun j a b hj ha hb => ?_⟩, by simp only [Int.toNat_natCast]; omega⟩
    ·simp only [gQ6i, hlt, cond_true, qc, hx, Option.bind_some, r1, decide_eq_true hr, Bool.not_true, cond_false, w]
     cases cfg with
     | false => rfl
     | true => rw [cond_true, decide_eq_false (show ¬ l[i].mode > 2 by have := hmo rfl; omega), cond_false]
    ·simp only [gQ4k, hlt, cond_true, qc, hx, Option.bind_some, r2, decide_eq_true hr, Bool.not_true, cond_false, w]
     cases cfg with
     | false => rfl
     | true =>
      rw [cond_true]
      by_cases m1 : l[i].mode = 1
      ·rw [decide_eq_true m1, Bool.not_true, cond_false]
      ·have m2 : l[i].mode = 2 := by have := hmo rfl; have := k2.2.2.1; omega
       rw [decide_eq_false m1, decide_eq_true m2, Bool.not_false, cond_true, Bool.not_true, cond_false]
    ·rw [Nat.add_sub_cancel, hx] at ha; cases ha; rfl
    ·rcases Nat.eq_or_lt_of_le (Nat.le_of_lt_succ hj) with rfl | hj
     ·rw [hx] at ha; cases ha; exact ⟨k2, hmo⟩
     ·exact hok j a hj ha
    ·rcases Nat.eq_or_lt_of_le (show j + 1 ≤ i by omega) with e | hj
     ·subst e
      rw [hx] at hb; cases hb
      have := hla a (by omega) (by rw [Nat.add_sub_cancel]; exact ha)
      rw [this]
      exact k1 (decide_eq_false (by omega))
     ·exact hadj j a b hj ha hb
  ·refine .inr ⟨r, r, ?_, ?_, rfl, fun h => absurd h hr, fun h => absurd (r3.2 ⟨above h, (h.1 _ hmem).1⟩) hr⟩
   ·simp only [gQ6i, hlt, cond_true, qc, hx, Option.bind_some, r1, decide_eq_false hr, Bool.not_false]
   ·simp only [gQ4k, hlt, cond_true, qc, hx, Option.bind_some, r2, decide_eq_false hr, Bool.not_false]
structure KindOk (s : SchemaG) (i : Nat) (n : NestedG) : Prop where
 id : q2q n.name = true
 up : ∀ m, 0 < i → s.nested[i - 1]? = some m → Op.bytesLess m.name.toList n.name.toList = true
 new : (qf n.name s.attrs).2 = false
 mn : 0 ≤ n.min
 mm : n.min ≤ n.max
 mx : n.max ≤ 256
 few : n.attrs.length ≤ 64
 attrs : q5k n.attrs true
theorem qq8 (s : SchemaG) (i : Nat) (n : NestedG) (hi : s.nested[i]? = some n) (hn : qc5 n) (hs : s.attrs.length ≤ 1000) (hsf : ∀ a ∈ s.attrs, a.type_.Fits) (hl : s.nested.length ≤ 1000) :
  ∃ r, gQ7o s (i : Int) = some r ∧ gQ4v s (i : Int) = some r ∧ (r = 0 ↔ KindOk s i n) := by
 obtain ⟨hil, _⟩ := List.getElem?_eq_some_iff.1 hi
 have hx : idx s.nested (i : Int) = some n := by rw [qc]; exact hi
 unfold gQ7o gQ4v
 rw [hx, Option.bind_some, Option.bind_some, qdn _ hn.1, q72 _ hn.1, Option.bind_some, Option.bind_some]
 cases hid : q2q n.name with
 | false => exact ⟨7, rfl, rfl, fun h => by omega, fun h => by have := h.id; rw [hid] at this; cases this⟩
 | true =>
  rw [Bool.not_true, cond_false, cond_false, q7u s n.name (by omega) hsf, q4d s.attrs n.name (by omega)]
  simp only [Option.bind_some]
  have tail : ∃ r, (bif (qf n.name s.attrs).2 then some (8 : Int) else bif (decide (n.min < 0)) then some (1) else bif (decide (n.max < n.min)) then some (1) else bif (decide (n.max > 256)) then some (1) else bif (decide ((n.attrs.length : Int) > 64)) then some (14) else (gQ6h n.attrs true).bind fun y20 => some (y20)) = some r ∧
    (bif (qf n.name s.attrs).2 then some (8 : Int) else bif (decide (n.min < 0)) then some (1) else bif (decide (n.max < n.min)) then some (1) else bif (decide (n.max > 256)) then some (1) else bif (decide ((n.attrs.length : Int) > 64)) then some (14) else (gQ4j n.attrs true).bind fun y20 => some (y20)) = some r ∧
    (r = 0 ↔ (qf n.name s.attrs).2 = false ∧ 0 ≤ n.min ∧ n.min ≤ n.max ∧ n.max ≤ 256 ∧ n.attrs.length ≤ 64 ∧ q5k n.attrs true) := by
   cases hfa : (qf n.name s.attrs).2 with
   | true => exact ⟨8, rfl, rfl, fun h => by omega, fun h => by cases h.1⟩
   | false =>
    rw [cond_false, cond_false]
    by_cases h1 : n.min < 0
    ·rw [decide_eq_true h1]; exact ⟨1, rfl, rfl, fun h => by omega, fun h => by omega⟩
    by_cases h2 : n.max < n.min
    ·rw [decide_eq_false h1, decide_eq_true h2]; exact ⟨1, rfl, rfl, fun h => by omega, fun h => by omega⟩
    by_cases h3 : n.max > 256
    ·rw [decide_eq_false h1, decide_eq_false h2, decide_eq_true h3]; exact ⟨1, rfl, rfl, fun h => by omega, fun h => by omega⟩
    by_cases h4 : (n.attrs.length : Int) > 64
    ·rw [decide_eq_false h1, decide_eq_false h2, decide_eq_false h3, decide_eq_true h4]; exact ⟨14, rfl, rfl, fun h => by omega, fun h => by omega⟩
    obtain ⟨r, r1, r2, r3⟩ := qch n.attrs true (by omega) hn.2.2.2.1.2
    rw [decide_eq_false h1, decide_eq_false h2, decide_eq_false h3, decide_eq_false h4, r1, r2]
    exact ⟨r, rfl, rfl, r3.trans ⟨fun h => ⟨rfl, by omega, by omega, by omega, by omega, h⟩, fun h => h.2.2.2.2.2⟩⟩
  obtain ⟨r, t1, t2, t3⟩ := tail
  by_cases h0 : (i : Int) > 0
  ·have hp : i - 1 < s.nested.length := by omega
   have hw : IntKind.i64.wrap ((i : Int) - 1) = ((i - 1 : Nat) : Int) := by
    rw [show (i : Int) - 1 = ((i - 1 : Nat) : Int) by omega]; exact q51 (by omega) (by omega)
   have hy := List.getElem?_eq_getElem hp
   rw [decide_eq_true h0, cond_true, cond_true, hw, qc, hy, Option.bind_some, Option.bind_some, qaz]
   cases hl : Op.bytesLess s.nested[i - 1].name.toList n.name.toList with
   | false => exact ⟨1, rfl, rfl, fun h => by omega, fun h => by have := h.up _ (by omega) hy; rw [hl] at this; cases this⟩
   | true =>
    rw [Bool.not_true, cond_false, cond_false]
    exact ⟨r, t1, t2, t3.trans ⟨fun ⟨a, b, c, d, e, f⟩ => ⟨hid, fun m _ hm => by rw [hy] at hm; cases hm; exact hl, a, b, c, d, e, f⟩, fun h => ⟨h.new, h.mn, h.mm, h.mx, h.few, h.attrs⟩⟩⟩
  ·rw [decide_eq_false h0, cond_false, cond_false]
   exact ⟨r, t1, t2, t3.trans ⟨fun ⟨a, b, c, d, e, f⟩ => ⟨hid, fun m hm _ => by omega, a, b, c, d, e, f⟩, fun h => ⟨h.new, h.mn, h.mm, h.mx, h.few, h.attrs⟩⟩⟩
def sId : ByteArray := ⟨#[105, 100]⟩
structure SchemaOk (s : SchemaG) : Prop where
 la : s.attrs.length ≤ 64
 ln : s.nested.length ≤ 64
 attrs : q5k s.attrs false
 kinds : ∀ (i : Nat) n, s.nested[i]? = some n → KindOk s i n
 has : (qf sId s.attrs).2 = true
 mode : (qf sId s.attrs).1.mode = 3
 kind : (qf sId s.attrs).1.type_.kind = 3
 vol : (qf sId s.attrs).1.volatile = false
 type : gQ2k (tyOf (typL s)) = some 0
theorem qk1 {s : SchemaG} (h1 : s.attrs.length ≤ 70) (h2 : s.nested.length ≤ 70) (h3 : q5k s.attrs false) (h4 : ∀ (i : Nat) n, s.nested[i]? = some n → KindOk s i n) : NamesOk s where
 la := h1
 ln := h2
 ra := h3.2
 rn := qsl fun i a b ha hb => (h4 (i + 1) b hb).up a (Nat.succ_pos _) (by rw [Nat.add_sub_cancel]; exact ha)
 dj := fun a ha n hn => by
  obtain ⟨i, hi⟩ := List.getElem?_of_mem hn
  exact (qd9 (h4 i n hi).new).2 a ha
 lk := fun n hn => by
  obtain ⟨i, hi⟩ := List.getElem?_of_mem hn
  have := (h4 i n hi).few
  omega
theorem qrl {l : List AttrG} (hl : l.length ≤ 1000) (hf : ∀ a ∈ l, q6j a) : (objT l).Fits :=
 .mk (by decide) (by rw [List.length_map]; omega) (by rw [List.length_map]; omega) (fun t ht => by
  obtain ⟨a, ha, rfl⟩ := List.mem_map.1 ht
  exact (hf a ha).1) fun x hx => by
  obtain ⟨a, ha, rfl⟩ := List.mem_map.1 hx
  exact (hf a ha).2.1
theorem qrj {n : NestedG} (hl : n.attrs.length ≤ 1000) (hf : qc5 n) : (nt n).Fits :=
 .mk (by decide) (by simp) (by simp) (fun t ht => absurd ht List.not_mem_nil) fun x hx => by
  obtain rfl := List.mem_singleton.1 hx
  exact qrl hl hf.2.2.2.1.2
theorem qm3 {s : SchemaG} (h : NamesOk s) (hf : q2a s) : (tyOf (typL s)).Fits := by
 obtain ⟨t1, t2, t3⟩ := q7q h
 have h1 := h.la
 have h2 := h.ln
 refine .mk (by decide) (by rw [List.length_map]; omega) (by rw [List.length_map]; omega) (fun t ht => ?_) fun x hx => ?_
 ·obtain ⟨p, hp, rfl⟩ := List.mem_map.1 ht
  rcases (t2 p).1 hp with ⟨a, ha, rfl⟩ | ⟨n, hn, rfl⟩
  ·exact (hf.1.2 a ha).1
  ·exact (hf.2.2 n hn).1
 ·obtain ⟨p, hp, rfl⟩ := List.mem_map.1 hx
  rcases (t2 p).1 hp with ⟨a, ha, rfl⟩ | ⟨n, hn, rfl⟩
  ·exact (hf.1.2 a ha).2.1
  ·exact qrj (by have := h.lk n hn; omega) (hf.2.2 n hn)
theorem qg3 (s : SchemaG) (hf : q2a s) (h1 : s.attrs.length ≤ 70) (h2 : s.nested.length ≤ 70) : ∃ r, gQ5h s = some r ∧ gQ3o s = some r ∧ (r = 0 ↔ SchemaOk s) := by
 unfold gQ5h gQ3o
 have hmax : decide ((if (s.nested.length : Int) > (s.attrs.length : Int) then (s.nested.length : Int) else (s.attrs.length : Int)) > 64) = (decide ((s.attrs.length : Int) > 64) || decide ((s.nested.length : Int) > 64)) := by
  rw [← Bool.decide_or]
  refine decide_eq_decide.2 ?_
  split <;> omega
 rw [hmax]
 by_cases l1 : (s.attrs.length : Int) > 64
 ·rw [decide_eq_true l1]; exact ⟨14, rfl, rfl, fun h => by omega, fun h => by have := h.la; omega⟩
 by_cases l2 : (s.nested.length : Int) > 64
 ·rw [decide_eq_false l1, decide_eq_true l2]; exact ⟨14, rfl, rfl, fun h => by omega, fun h => by have := h.ln; omega⟩
 rw [decide_eq_false l1, decide_eq_false l2, Bool.or_false, cond_false, cond_false, cond_false]
 obtain ⟨r, r1, r2, r3⟩ := qch s.attrs false (by omega) hf.1.2
 rw [r1, r2, Option.bind_some, Option.bind_some]
 by_cases hr : r = 0
 rotate_left
 ·rw [decide_eq_false hr]; exact ⟨r, rfl, rfl, fun h => absurd h hr, fun h => absurd (r3.2 h.attrs) hr⟩
 rw [decide_eq_true hr, Bool.not_true, cond_false, cond_false]
 have hA := r3.1 hr
 have hft : ∀ a ∈ s.attrs, a.type_.Fits := fun a ha => (hf.1.2 a ha).2.1
 have := qjr (b1 := gQ5i s) (b2 := gQ3p s) (fun x y => ∃ i : Nat, x = (i : Int) ∧ y = (i : Int) ∧ i ≤ s.nested.length ∧ ∀ (j : Nat) n, j < i → s.nested[j]? = some n → KindOk s j n)
  (fun x => s.nested.length - x.toNat) (fun p q => p = q ∧ (p = 0 ↔ SchemaOk s)) ?_ 0 0 ⟨0, rfl, rfl, Nat.zero_le _, fun j n h => by omega⟩
 ·obtain ⟨p, q, e1, e2, rfl, e3⟩ := this
  exact ⟨p, e1, e2, e3⟩
 rintro x y ⟨i, rfl, rfl, hi, hk⟩
 rcases Nat.eq_or_lt_of_le hi with h0 | h0
 ·subst h0
  right
  have hK : ∀ (j : Nat) n, s.nested[j]? = some n → KindOk s j n := fun j n hj => hk j n (List.getElem?_eq_some_iff.1 hj).1 hj
  have hN := qk1 h1 h2 hA hK
  obtain ⟨e, he, _⟩ := q9d _ (qm3 hN hf)
  simp only [gQ5i, gQ3p, decide_eq_false (show ¬ (s.nested.length : Int) < s.nested.length by omega), cond_false, q7u s _ (show s.attrs.length ≤ 9223372036854775807 by omega) hft, q4d s.attrs _ (show s.attrs.length ≤ 9223372036854775807 by omega), Option.bind_some, q7w s hN hf, qkz s hN, qg2 _ (qm3 hN hf), he]
  show ∃ p q, (bif (!(qf sId s.attrs).2) then some (Sum.inr (12 : Int)) else bif (!decide ((qf sId s.attrs).1.mode = 3)) then some (.inr (1)) else bif (!decide ((qf sId s.attrs).1.type_.kind = 3)) then some (.inr (1)) else bif (qf sId s.attrs).1.volatile then some (.inr (1)) else some (.inr e)) = some (.inr p) ∧ (bif (!(qf sId s.attrs).2) then some (Sum.inr (12 : Int)) else bif (!decide ((qf sId s.attrs).1.mode = 3)) then some (.inr (1)) else bif (!decide ((qf sId s.attrs).1.type_.kind = 3)) then some (.inr (1)) else bif (qf sId s.attrs).1.volatile then some (.inr (1)) else some (.inr e)) = some (.inr q) ∧ p = q ∧ (p = 0 ↔ SchemaOk s)
  cases g1 : (qf sId s.attrs).2 with
  | false => exact ⟨12, 12, rfl, rfl, rfl, fun h => by omega, fun h => by have := h.has; rw [g1] at this; cases this⟩
  | true =>
   by_cases g2 : (qf sId s.attrs).1.mode = 3
   rotate_left
   ·rw [decide_eq_false g2]; exact ⟨1, 1, rfl, rfl, rfl, fun h => by omega, fun h => absurd h.mode g2⟩
   by_cases g3 : (qf sId s.attrs).1.type_.kind = 3
   rotate_left
   ·rw [decide_eq_true g2, decide_eq_false g3]; exact ⟨1, 1, rfl, rfl, rfl, fun h => by omega, fun h => absurd h.kind g3⟩
   rw [decide_eq_true g2, decide_eq_true g3]
   cases g4 : (qf sId s.attrs).1.volatile with
   | true => exact ⟨1, 1, rfl, rfl, rfl, fun h => by omega, fun h => by have := h.vol; rw [g4] at this; cases this⟩
   | false =>
    refine ⟨e, e, rfl, rfl, rfl, fun h => ⟨by omega, by omega, hA, hK, g1, g2, g3, g4, by rw [he, h]⟩, fun h => ?_⟩
    have := h.type
    rw [he] at this
    exact Option.some.inj this
 ·have hx := List.getElem?_eq_getElem h0
  have hmem := List.getElem_mem h0
  have w := qk h0 (show s.nested.length ≤ 9223372036854775807 by omega)
  obtain ⟨e, e1, e2, e3⟩ := qq8 s i _ hx (hf.2.2 _ hmem) (by omega) hft (by omega)
  by_cases he : e = 0
  ·refine .inl ⟨((i + 1 : Nat) : Int), ((i + 1 : Nat) : Int), ?_, ?_, ⟨i + 1, rfl, rfl, h0, fun j n hj hn => ?_⟩, by simp only [Int.toNat_natCast]; omega⟩
   ·simp only [gQ5i, decide_eq_true (show (i : Int) < s.nested.length by omega), cond_true, e1, Option.bind_some, decide_eq_true he, Bool.not_true, cond_false, w]
   ·simp only [gQ3p, decide_eq_true (show (i : Int) < s.nested.length by omega), cond_true, e2, Option.bind_some, decide_eq_true he, Bool.not_true, cond_false, w]
   ·rcases Nat.eq_or_lt_of_le (Nat.le_of_lt_succ hj) with rfl | hj
    ·rw [hx] at hn; cases hn; exact e3.1 he
    ·exact hk j n hj hn
  ·refine .inr ⟨e, e, ?_, ?_, rfl, fun h => absurd h he, fun h => absurd (e3.2 (h.kinds i _ hx)) he⟩
   ·simp only [gQ5i, decide_eq_true (show (i : Int) < s.nested.length by omega), cond_true, e1, Option.bind_some, decide_eq_false he, Bool.not_false]
   ·simp only [gQ3p, decide_eq_true (show (i : Int) < s.nested.length by omega), cond_true, e2, Option.bind_some, decide_eq_false he, Bool.not_false]
structure FewOk (s : SchemaG) : Prop where
 la : s.attrs.length ≤ 70
 fa : ∀ a ∈ s.attrs, a.name.size ≤ 200 ∧ Few a.type_
 ln : s.nested.length ≤ 70
 fn : ∀ n ∈ s.nested, n.name.size ≤ 200 ∧ n.attrs.length ≤ 70 ∧ ∀ a ∈ n.attrs, a.name.size ≤ 200 ∧ Few a.type_
theorem small40 (t : Ty) (hf : t.Fits) : ∃ b, gQ2m t 40 = some b ∧ (b = true → Few t) := by
 obtain ⟨r, h1, h2, h3, h4⟩ := qqo t 40 40 hf (by decide) (by decide) (by decide) (by decide)
 obtain ⟨m, hm⟩ := qre t hf
 unfold gQ2m
 rw [h1, Option.bind_some]
 by_cases h0 : r ≥ 0
 ·rw [decide_eq_true h0, cond_true, hm, Option.bind_some]; exact ⟨_, rfl, fun _ => h4 h0⟩
 ·rw [decide_eq_false h0, cond_false]; exact ⟨false, rfl, fun h => by cases h⟩
theorem qgr (l : List AttrG) (hf : ∀ a ∈ l, q6j a) : ∃ b, gQ1b l = some b ∧ (b = true → l.length ≤ 70 ∧ ∀ a ∈ l, a.name.size ≤ 200 ∧ Few a.type_) := by
 unfold gQ1b
 by_cases h0 : (l.length : Int) > 70
 ·rw [decide_eq_true h0]; exact ⟨false, rfl, fun h => by cases h⟩
 rw [decide_eq_false h0, cond_false]
 obtain ⟨q, h1, h2⟩ := q13 (body := gQ1c l) (fun s => ∃ i : Nat, s = (i : Int) ∧ i ≤ l.length ∧ ∀ (j : Nat) a, j < i → l[j]? = some a → a.name.size ≤ 200 ∧ Few a.type_) (fun s => l.length - s.toNat) (fun b => b = true → l.length ≤ 70 ∧ ∀ a ∈ l, a.name.size ≤ 200 ∧ Few a.type_) (by
  rintro s ⟨i, rfl, hi, hp⟩
  rcases Nat.eq_or_lt_of_le hi with h0 | h0
  ·subst h0
   refine .inr ⟨true, by simp only [gQ1c, decide_eq_false (show ¬ (l.length : Int) < l.length by omega), cond_false], fun _ => ⟨by omega, fun a ha => ?_⟩⟩
   obtain ⟨j, hj⟩ := List.getElem?_of_mem ha
   exact hp j a (List.getElem?_eq_some_iff.1 hj).1 hj
  ·have hx := List.getElem?_eq_getElem h0
   have w := qk h0 (show l.length ≤ 9223372036854775807 by omega)
   by_cases hn : (l[i].name.size : Int) > 200
   ·exact .inr ⟨false, by simp only [gQ1c, decide_eq_true (show (i : Int) < l.length by omega), cond_true, qc, hx, Option.bind_some, decide_eq_true hn], fun h => by cases h⟩
   obtain ⟨b, b1, b2⟩ := small40 l[i].type_ (hf _ (List.getElem_mem h0)).2.1
   cases b with
   | false => exact .inr ⟨false, by simp only [gQ1c, decide_eq_true (show (i : Int) < l.length by omega), cond_true, qc, hx, Option.bind_some, decide_eq_false hn, cond_false, b1, Bool.not_false], fun h => by cases h⟩
   | true =>
    refine .inl ⟨((i + 1 : Nat) : Int), by simp only [gQ1c, decide_eq_true (show (i : Int) < l.length by omega), cond_true, qc, hx, Option.bind_some, decide_eq_false hn, cond_false, b1, Bool.not_true, w], ⟨i + 1, rfl, h0, fun j a hj ha => ?_⟩, by simp only [Int.toNat_natCast]; omega⟩
    rcases Nat.eq_or_lt_of_le (Nat.le_of_lt_succ hj) with rfl | hj
    ·rw [hx] at ha; cases ha; exact ⟨by omega, b2 rfl⟩
    ·exact hp j a hj ha) 0 ⟨0, rfl, Nat.zero_le _, fun j a hj => by omega⟩
 exact ⟨q, h1, h2⟩
theorem qow (s : SchemaG) (hf : q2a s) : ∃ b, gQ1j s = some b ∧ (b = true → FewOk s) := by
 unfold gQ1j
 obtain ⟨b, b1, b2⟩ := qgr s.attrs hf.1.2
 rw [b1, Option.bind_some]
 cases b with
 | false => exact ⟨false, rfl, fun h => by cases h⟩
 | true =>
  rw [Bool.not_true, cond_false]
  by_cases h0 : (s.nested.length : Int) > 70
  ·rw [decide_eq_true h0]; exact ⟨false, rfl, fun h => by cases h⟩
  rw [decide_eq_false h0, cond_false]
  obtain ⟨c1, c2⟩ := b2 rfl
  obtain ⟨q, h1, h2⟩ := q13 (body := gQ1k s) (fun x => ∃ i : Nat, x = (i : Int) ∧ i ≤ s.nested.length ∧ ∀ (j : Nat) n, j < i → s.nested[j]? = some n → n.name.size ≤ 200 ∧ n.attrs.length ≤ 70 ∧ ∀ a ∈ n.attrs, a.name.size ≤ 200 ∧ Few a.type_) (fun x => s.nested.length - x.toNat) (fun b => b = true → FewOk s) (by
   rintro x ⟨i, rfl, hi, hp⟩
   rcases Nat.eq_or_lt_of_le hi with h0 | h0
   ·subst h0
    refine .inr ⟨true, by simp only [gQ1k, decide_eq_false (show ¬ (s.nested.length : Int) < s.nested.length by omega), cond_false], fun _ => ⟨c1, c2, by omega, fun n hn => ?_⟩⟩
    obtain ⟨j, hj⟩ := List.getElem?_of_mem hn
    exact hp j n (List.getElem?_eq_some_iff.1 hj).1 hj
   ·have hx := List.getElem?_eq_getElem h0
    have w := qk h0 (show s.nested.length ≤ 9223372036854775807 by omega)
    obtain ⟨b, b1, b2⟩ := qgr s.nested[i].attrs (hf.2.2 _ (List.getElem_mem h0)).2.2.2.1.2
    cases b with
    | false => exact .inr ⟨false, by simp only [gQ1k, decide_eq_true (show (i : Int) < s.nested.length by omega), cond_true, qc, hx, Option.bind_some, b1, Bool.not_false], fun h => by cases h⟩
    | true =>
     by_cases hn : (s.nested[i].name.size : Int) > 200
     ·exact .inr ⟨false, by simp only [gQ1k, decide_eq_true (show (i : Int) < s.nested.length by omega), cond_true, qc, hx, Option.bind_some, b1, Bool.not_true, cond_false, decide_eq_true hn], fun h => by cases h⟩
     ·refine .inl ⟨((i + 1 : Nat) : Int), by simp only [gQ1k, decide_eq_true (show (i : Int) < s.nested.length by omega), cond_true, qc, hx, Option.bind_some, b1, Bool.not_true, cond_false, decide_eq_false hn, w], ⟨i + 1, rfl, h0, fun j n hj hn2 => ?_⟩, by simp only [Int.toNat_natCast]; omega⟩
      rcases Nat.eq_or_lt_of_le (Nat.le_of_lt_succ hj) with rfl | hj
      ·rw [hx] at hn2; cases hn2; exact ⟨by omega, b2 rfl⟩
      ·exact hp j n hj hn2) 0 ⟨0, rfl, Nat.zero_le _, fun j a hj => by omega⟩
  exact ⟨q, h1, h2⟩
structure SVal (s : SchemaG) : Prop where
 fits : q2a s
 few : FewOk s
 ok : SchemaOk s
theorem SVal.names {s : SchemaG} (h : SVal s) : NamesOk s := qk1 h.few.la h.few.ln h.ok.attrs h.ok.kinds
theorem q99 (s : SchemaG) (hf : q2a s) : ∃ b, gQ1y s = some b ∧ (b = true → SVal s) := by
 unfold gQ1y
 obtain ⟨b, b1, b2⟩ := qow s hf
 rw [b1, Option.bind_some]
 cases b with
 | false => exact ⟨false, rfl, fun h => by cases h⟩
 | true =>
  have hw := b2 rfl
  obtain ⟨r, _, r2, r3⟩ := qg3 s hf hw.la hw.ln
  rw [cond_true, r2, Option.bind_some]
  exact ⟨_, rfl, fun h => ⟨hf, hw, r3.1 (of_decide_eq_true h)⟩⟩
end Abs
end Go.Proofs.YtkffpfapfljinaaGreatDoor
namespace Go.Proofs.YtkffpfapfljinaaGreatDoor
set_option linter.unusedSimpArgs false
set_option linter.unusedVariables false
namespace Abs
open Go.RowKit
def iota (n : Nat) : List Int := (List.range n).map fun (i : Nat) => (i : Int)
theorem qar (n : Nat) : (iota n).length = n := by simp [iota]
theorem qse (keys : List ByteArray) (hl : keys.length ≤ 140737488351232) :
  ∃ o, q5d keys (iota keys.length) = some o ∧ o.Perm (iota keys.length) ∧ ∀ (i j : Nat) (x y : Int) (a b : ByteArray), i < j → o[i]? = some x → o[j]? = some y → keys[x.toNat]? = some a → keys[y.toNat]? = some b → Op.bytesLess b.toList a.toList = false := by
 have hr : ∀ x ∈ iota keys.length, 0 ≤ x ∧ x < keys.length := fun x hx => by
  simp only [iota, List.mem_map, List.mem_range] at hx
  obtain ⟨i, hi, rfl⟩ := hx
  omega
 unfold q5d
 by_cases h0 : iota keys.length = []
 ·rw [if_pos h0]
  exact ⟨[], rfl, by rw [h0], fun i j x y a b _ e => by simp at e⟩
 ·rw [if_neg h0]
  have hpos : 0 < keys.length := Nat.pos_of_ne_zero fun e => h0 (by rw [e]; rfl)
  have hc : 0 < keys.length ∧ (iota keys.length).length < 4611686018427387904 ∧ ∀ x ∈ iota keys.length, 0 ≤ x ∧ x < keys.length := ⟨hpos, by rw [qar]; omega, hr⟩
  rw [dif_pos hc]
  letI : Inhabited (Plc keys) := ⟨⟨0, hpos⟩⟩
  obtain ⟨q1, q2⟩ := q7l (swoP keys) (plcs keys (iota keys.length) hc.2.2)
  refine ⟨_, rfl, ?_, fun i j x y a b hij e1 e2 k1 k2 => ?_⟩
  ·have := q1.map (fun a : Plc keys => (a.1 : Int))
   rwa [qkn] at this
  ·simp only [List.getElem?_map, Option.map_eq_some_iff] at e1 e2
   obtain ⟨p, e1, rfl⟩ := e1
   obtain ⟨q, e2, rfl⟩ := e2
   obtain ⟨hi, e1⟩ := List.getElem?_eq_some_iff.1 e1
   obtain ⟨hj, e2⟩ := List.getElem?_eq_some_iff.1 e2
   have h := List.pairwise_iff_getElem.1 q2 i j hi hj hij
   rw [e1, e2] at h
   have h' : ltOf cmpS (keys[q.1]'q.2) (keys[p.1]'p.2) = false := h
   rw [ltS] at h'
   rw [Int.toNat_natCast, List.getElem?_eq_getElem p.2] at k1
   rw [Int.toNat_natCast, List.getElem?_eq_getElem q.2] at k2
   obtain rfl := Option.some.inj k1
   obtain rfl := Option.some.inj k2
   exact h'
theorem qr3 (keys : List ByteArray) (items : List Val) (hk : keys.length = items.length) (hl : keys.length * 8 ≤ 140737488351232) {o : List Int} (ho : q5d keys (iota keys.length) = some o) (r : Val × Int)
  (h : qb (gQ9e keys items o) (0, [], []) = some (.inr r)) : gQ9c keys items = some r := by
 unfold gQ9c
 have hm : mkl 8 (keys.length : Int) (0 : Int) = some (List.replicate keys.length 0) := by
  unfold mkl
  rw [if_pos (by omega)]
  simp
 rw [decide_eq_true (show (keys.length : Int) = items.length by omega), Bool.not_true, cond_false, hm, Option.bind_some]
 have := q13 (body := gQ9d keys items (List.replicate keys.length 0)) (fun s => ∃ i : Nat, i ≤ keys.length ∧ s.1 = (i : Int) ∧ s.2.length = keys.length ∧ ∀ j : Nat, j < i → s.2[j]? = some (j : Int)) (fun s => keys.length - s.1.toNat) (fun q => q = r) ?_ (0, List.replicate keys.length 0) ⟨0, Nat.zero_le _, rfl, by simp, fun j hj => by omega⟩
 ·obtain ⟨q, h', e⟩ := this
  rw [e] at h'; exact h'
 rintro ⟨s, l⟩ ⟨i, hi, rfl, hlen, hv⟩
 simp only at hlen hv ⊢
 unfold gQ9d
 simp only [List.length_replicate]
 by_cases hlt : i < keys.length
 ·left
  refine ⟨(((i + 1 : Nat) : Int), upd l (i : Int) (i : Int)), ?_, ⟨i + 1, hlt, rfl, by simp only [q4c]; exact hlen, fun j hj => ?_⟩, by simp only [Int.toNat_natCast]; omega⟩
  ·rw [decide_eq_true (show (i : Int) < (keys.length : Int) by omega), cond_true, qc, List.getElem?_eq_getElem (show i < l.length by omega), Option.bind_some, qk hlt (by omega)]
  ·unfold upd
   simp only [Int.toNat_natCast]
   rcases Nat.eq_or_lt_of_le (Nat.le_of_lt_succ hj) with rfl | hj'
   ·rw [List.getElem?_set_self (by omega)]
   ·rw [List.getElem?_set_ne (by omega)]; exact hv j hj'
 ·right
  obtain rfl : i = keys.length := by omega
  have hlo : l = iota keys.length := by
   apply List.ext_getElem?
   intro j
   rcases Nat.lt_or_ge j keys.length with hj | hj
   ·rw [hv j hj]; simp [iota, hj]
   ·rw [List.getElem?_eq_none (by omega), List.getElem?_eq_none (by rw [qar]; exact hj)]
  refine ⟨r, ?_, rfl⟩
  rw [decide_eq_false (show ¬ (keys.length : Int) < (keys.length : Int) by omega), cond_false, hlo, ho, Option.bind_some, h]
theorem qdq {n i : Nat} {x : Int} (h : (iota n)[i]? = some x) : x = (i : Int) ∧ i < n := by
 have hi : i < n := by have := (List.getElem?_eq_some_iff.1 h).1; rwa [qar] at this
 simp [iota, hi] at h
 exact ⟨h.symm, hi⟩
def q2h (L : List (ByteArray × Val)) : Val := Val.mk 5 0 eS (L.map (·.2)) (L.map (·.1))
def q1i {α : Type} (L : List (ByteArray × α)) (ps : List (ByteArray × α)) : List (ByteArray × α) := ps.foldl (fun L p => insP p L) L
theorem qde {α : Type} : ∀ (ps L : List (ByteArray × α)), SP L → (ps.map (·.1)).Nodup → (∀ p ∈ ps, ∀ q ∈ L, q.1 ≠ p.1) →
  SP (q1i L ps) ∧ (∀ p, p ∈ q1i L ps ↔ p ∈ L ∨ p ∈ ps) ∧ (q1i L ps).length = L.length + ps.length
 | [], L, h, _, _ => ⟨h, fun p => by simp [q1i], rfl⟩
 | p :: r, L, h, hn, hd => by
  rw [List.map_cons, List.nodup_cons] at hn
  obtain ⟨a, b, c⟩ := qde r (insP p L) (qbo h fun q hq => hd p List.mem_cons_self q hq) hn.2 (fun m hm q hq e => by
   rcases q62.1 hq with rfl | k
   ·exact hn.1 (e ▸ List.mem_map.2 ⟨m, hm, rfl⟩)
   ·exact hd m (List.mem_cons_of_mem _ hm) q k e)
  refine ⟨a, fun q => (b q).trans ?_, by show (q1i (insP p L) r).length = _; rw [c, qaq, List.length_cons]; omega⟩
  rw [q62, List.mem_cons]
  constructor
  ·rintro ((k | k) | k)
   ·exact .inr (.inl k)
   ·exact .inl k
   ·exact .inr (.inr k)
  ·rintro (k | k | k)
   ·exact .inl (.inr k)
   ·exact .inl (.inl k)
   ·exact .inr k
def kvAt (keys : List ByteArray) (items : List Val) (x : Int) : ByteArray × Val := (keys.getD x.toNat eS, items.getD x.toNat vZ)
theorem qr4 (keys : List ByteArray) (items : List Val) (hk : keys.length = items.length) (hl : keys.length ≤ 1000) (hn : keys.Nodup) (hf : ∀ x ∈ items, x.Fits) :
  gQ9c keys items = some (q2h (q1i [] (keys.zip items)), 0) := by
 obtain ⟨o, o1, o2, o3⟩ := qse keys (by omega)
 have olen : o.length = keys.length := by rw [o2.length_eq, qar]
 have orng : ∀ (i : Nat) x, o[i]? = some x → ∃ j : Nat, x = (j : Int) ∧ j < keys.length := fun i x h => by
  obtain ⟨j, hj⟩ := List.getElem?_of_mem (o2.mem_iff.1 (List.mem_of_getElem? h))
  exact ⟨j, qdq hj⟩
 have onod : o.Nodup := o2.nodup_iff.2 (by
  rw [List.nodup_iff_pairwise_ne, List.pairwise_iff_getElem]
  intro i j hi hj hij e
  have h1 := (qdq (List.getElem?_eq_getElem hi)).1
  have h2 := (qdq (List.getElem?_eq_getElem hj)).1
  omega)
 have kat : ∀ j : Nat, (hj : j < keys.length) → kvAt keys items (j : Int) = (keys[j], items[j]'(hk ▸ hj)) := fun j hj => by
  unfold kvAt
  rw [Int.toNat_natCast, List.getD_eq_getElem?_getD, List.getD_eq_getElem?_getD, List.getElem?_eq_getElem hj, List.getElem?_eq_getElem (hk ▸ hj)]; rfl
 have hsp : SP (o.map (kvAt keys items)) := by
  refine List.pairwise_map.2 (List.pairwise_iff_getElem.2 fun i j hi hj hij => ?_)
  obtain ⟨p, e1, hp⟩ := orng i _ (List.getElem?_eq_getElem hi)
  obtain ⟨q, e2, hq⟩ := orng j _ (List.getElem?_eq_getElem hj)
  have := o3 i j _ _ keys[p] keys[q] hij (List.getElem?_eq_getElem hi) (List.getElem?_eq_getElem hj) (by rw [e1, Int.toNat_natCast]; exact List.getElem?_eq_getElem hp) (by rw [e2, Int.toNat_natCast]; exact List.getElem?_eq_getElem hq)
  rw [e1, e2, kat p hp, kat q hq]
  rcases qb0 keys[p].toList keys[q].toList with k | k | k
  ·exact k
  ·exfalso
   have hpq : p = q := (List.getElem_inj hn).1 (q9v k)
   have := (List.getElem_inj onod).1 (show o[i] = o[j] by rw [e1, e2, hpq])
   omega
  ·rw [this] at k; cases k
 have hz := qde (keys.zip items) ([] : List (ByteArray × Val)) List.Pairwise.nil (by rw [List.map_fst_zip (by omega)]; exact hn) (fun _ _ q hq => absurd hq List.not_mem_nil)
 have hM : o.map (kvAt keys items) = q1i [] (keys.zip items) := qbp hsp hz.1 fun p => by
  rw [hz.2.1, List.mem_map]
  constructor
  ·rintro ⟨x, hx, rfl⟩
   obtain ⟨i, hi⟩ := List.getElem?_of_mem hx
   obtain ⟨j, rfl, hj⟩ := orng i x hi
   right
   rw [kat j hj]
   exact List.mem_of_getElem? (i := j) (by rw [List.getElem?_zip_eq_some]; exact ⟨List.getElem?_eq_getElem hj, List.getElem?_eq_getElem (hk ▸ hj)⟩)
  ·rintro (h | h)
   ·exact absurd h List.not_mem_nil
   ·obtain ⟨j, hj⟩ := List.getElem?_of_mem h
    obtain ⟨h1, h2⟩ := qc0 hj
    have hjk := (List.getElem?_eq_some_iff.1 h1).1
    refine ⟨(j : Int), o2.mem_iff.2 ?_, ?_⟩
    ·exact List.mem_map.2 ⟨j, List.mem_range.2 hjk, rfl⟩
    ·rw [kat j hjk]
     rw [List.getElem?_eq_getElem hjk] at h1
     rw [List.getElem?_eq_getElem (hk ▸ hjk)] at h2
     exact Prod.ext (Option.some.inj h1) (Option.some.inj h2)
 rw [← hM]
 refine qr3 keys items hk (by omega) o1 _ ?_
 have := q13 (body := gQ9e keys items o) (fun s => ∃ i : Nat, i ≤ o.length ∧ s = ((i : Int), ((o.map (kvAt keys items)).take i).map (·.2), ((o.map (kvAt keys items)).take i).map (·.1))) (fun s => o.length - s.1.toNat) (fun q => q = .inr (q2h (o.map (kvAt keys items)), 0)) ?_ (0, [], []) ⟨0, Nat.zero_le _, rfl⟩
 ·obtain ⟨q, h', e⟩ := this
  rw [e] at h'; exact h'
 rintro s ⟨i, hi, rfl⟩
 unfold gQ9e
 by_cases hlt : i < o.length
 ·left
  have hx := List.getElem?_eq_getElem hlt
  obtain ⟨p, e1, hp⟩ := orng i _ hx
  have hp2 : p < items.length := hk ▸ hp
  have e0 : idx o (i : Int) = some (p : Int) := by rw [qc, hx, e1]
  have e2 : idx keys (p : Int) = some keys[p] := by rw [qc, List.getElem?_eq_getElem hp]
  have e3 : idx items (p : Int) = some items[p] := by rw [qc, List.getElem?_eq_getElem hp2]
  have e4 : tQb6 items[p] = some items[p] := q87 _ (hf _ (List.getElem_mem hp2))
  have tk : (o.map (kvAt keys items)).take (i + 1) = (o.map (kvAt keys items)).take i ++ [(keys[p], items[p])] := by
   rw [List.take_add_one, List.getElem?_map, hx, e1]
   show _ ++ [kvAt keys items (p : Int)] = _
   rw [kat p hp]
  have n1 : (((o.map (kvAt keys items)).take i).map (·.1)).length = i := by simp; omega
  have n2 : (((o.map (kvAt keys items)).take i).map (·.2)).length = i := by simp; omega
  have a1 := qw (((o.map (kvAt keys items)).take i).map (·.1)) keys[p] (m := 16) (n := 1001) (by decide) (by omega) (by decide)
  have a2 := qw (((o.map (kvAt keys items)).take i).map (·.2)) items[p] (m := 80) (n := 1001) (by decide) (by omega) (by decide)
  refine ⟨_, ?_, ⟨i + 1, hlt, rfl⟩, by simp only [Int.toNat_natCast]; omega⟩
  rw [tk]
  simp only [decide_eq_true (show (i : Int) < (o.length : Int) by omega), cond_true, e0, Option.bind_some, e2, e3, e4, a1, a2, qk hlt (show o.length ≤ 9223372036854775807 by omega), List.map_append, List.map_cons, List.map_nil]
  cases i with
  | zero => rw [decide_eq_false (show ¬ (((0 : Nat) : Int) > 0) by omega), cond_false]
  | succ j =>
   have hj : j < o.length := by omega
   have w : IntKind.i64.wrap (((j + 1 : Nat) : Int) - 1) = (j : Int) := by
    rw [show (((j + 1 : Nat) : Int) - 1) = (j : Int) by omega]; exact q51 (by omega) (by omega)
   obtain ⟨q, e5, hq⟩ := orng j _ (List.getElem?_eq_getElem hj)
   have e6 : idx (((o.map (kvAt keys items)).take (j + 1)).map (·.1)) (j : Int) = some keys[q] := by
    rw [qc, List.getElem?_map, List.getElem?_take, if_pos (by omega), List.getElem?_map, List.getElem?_eq_getElem hj, e5]
    show some (kvAt keys items (q : Int)).1 = _
    rw [kat q hq]
   rw [decide_eq_true (show (((j + 1 : Nat) : Int) > 0) by omega), cond_true, w, e6, Option.bind_some]
   rw [decide_eq_false (fun e => ?_), cond_false]
   have hpq : p = q := (List.getElem_inj hn).1 e
   have := (List.getElem_inj onod).1 (show o[j + 1] = o[j] by rw [e1, e5, hpq])
   omega
 ·right
  obtain rfl : i = o.length := by omega
  refine ⟨_, ?_, rfl⟩
  rw [decide_eq_false (show ¬ (o.length : Int) < (o.length : Int) by omega), cond_false]
  rw [show (o.map (kvAt keys items)).take o.length = o.map (kvAt keys items) from List.take_of_length_le (by simp)]; rfl
end Abs
end Go.Proofs.YtkffpfapfljinaaGreatDoor
namespace Go.Proofs.YtkffpfapfljinaaGreatDoor
set_option linter.unusedSimpArgs false
set_option linter.unusedVariables false
namespace Abs
open Go.RowKit
structure Mok (v : Val) : Prop where
 fits : v.Fits
 len : v.kind = 5 → v.keys.length = v.items.length
 ris : Rising v.keys
theorem Vok.mok {v : Val} (h : Vok v) : Mok v := ⟨h.1, h.shape.2.2.2.2.2.2.1, h.rising⟩
def getS (v : Val) (n : ByteArray) : Val := if v.kind = 5 then look v.keys v.items n else vZ
theorem q4l {v : Val} (h : Vok v) (n : ByteArray) : Vok (getS v n) := by
 unfold getS
 split
 ·exact h.look n
 ·exact qbv
theorem q5w {v : Val} (h : Mok v) (n : ByteArray) : gQ7e v n = some (getS v n) := by
 unfold gQ7e getS
 by_cases hk : v.kind = 5
 ·rw [qik v n h.fits hk (h.len hk) h.ris, if_pos hk]; rfl
 ·obtain ⟨f1, f2, f3, f4, f5, f6, f7⟩ := h.fits.parts
  obtain ⟨q, h1, _⟩ := q7i v.keys n (by have := q16 f5 (by decide); omega) h.ris
  unfold gQ91
  rw [h1, Option.bind_some, decide_eq_false hk, if_neg hk]; rfl
noncomputable def oneX (a : AttrG) (x : Val) : Val ⊕ Int :=
 if a.mode = 1 ∧ x.kind = 0 then .inr 12 else if a.mode = 3 ∧ x.kind ≠ 0 then .inr 13 else if (toE x a.type_).2 = 0 then .inl (toE x a.type_).1 else .inr (toE x a.type_).2
def enc : Val ⊕ Int → Val × Int
 | .inl y => (y, 0)
 | .inr e => (vZ, e)
theorem qbb {a : AttrG} {x : Val} {e : Int} (h : oneX a x = .inr e) : e ≠ 0 := by
 unfold oneX at h
 split at h
 ·cases h; decide
 split at h
 ·cases h; decide
 split at h
 ·cases h
 ·rename_i k; cases h; exact k
theorem qv5 (x : Val) (t : Ty) (h : (toE x t).2 ≠ 0) : toE x t = (vZ, (toE x t).2) := by
 unfold toE at h ⊢
 split
 ·split
  ·rename_i h1 h2; rw [if_pos h1, if_pos h2] at h; exact absurd rfl h
  ·rfl
 ·rfl
theorem qrq {a : AttrG} {x y : Val} (h : oneX a x = .inl y) : (a.mode = 1 → x.kind ≠ 0) ∧ (a.mode = 3 → x.kind = 0) ∧ toE x a.type_ = (y, 0) := by
 unfold oneX at h
 split at h
 ·cases h
 rename_i h1
 split at h
 ·cases h
 rename_i h2
 split at h
 ·rename_i h3
  cases h
  exact ⟨fun k e => h1 ⟨k, e⟩, fun k => Classical.byContradiction fun e => h2 ⟨k, e⟩, Prod.ext rfl h3⟩
 ·cases h
theorem qv6 {v : Val} {t : Ty} (ht : Tok t) (hv : Vok v) : (toE v t).1.Fits := by
 unfold toE
 split
 ·split
  ·exact qfs t v ht hv
  ·exact q32
 ·exact q32
theorem qrr (a : AttrG) (x : Val) (ht : Tok a.type_) (hx : Vok x) :
  (bif (decide (a.mode = 1)) then bif (decide (x.kind = 0)) then some (vZ, (12 : Int)) else bif (decide (a.mode = 3)) then some (vZ, 13) else some (toE x a.type_) else bif (decide (a.mode = 3)) then bif (!decide (x.kind = 0)) then some (vZ, 13) else some (toE x a.type_) else some (toE x a.type_)) = some (enc (oneX a x)) := by
 have tl : some (toE x a.type_) = some (enc (if (toE x a.type_).2 = 0 then .inl (toE x a.type_).1 else .inr (toE x a.type_).2)) := by
  by_cases h : (toE x a.type_).2 = 0
  ·rw [if_pos h]; congr 1; exact Prod.ext rfl h
  ·rw [if_neg h]; congr 1; exact qv5 _ _ h
 unfold oneX
 by_cases h1 : a.mode = 1
 ·have h3 : ¬ a.mode = 3 := by omega
  rw [decide_eq_true h1, cond_true, decide_eq_false h3, cond_false]
  by_cases h0 : x.kind = 0
  ·rw [decide_eq_true h0, cond_true, if_pos ⟨h1, h0⟩]; rfl
  ·rw [decide_eq_false h0, cond_false, if_neg (fun h => h0 h.2), if_neg (fun h => h3 h.1)]; exact tl
 ·rw [decide_eq_false h1, cond_false, if_neg (fun h => h1 h.1)]
  by_cases h3 : a.mode = 3
  ·rw [decide_eq_true h3, cond_true]
   by_cases h0 : x.kind = 0
   ·rw [decide_eq_true h0, Bool.not_true, cond_false, if_neg (fun h => h.2 h0)]; exact tl
   ·rw [decide_eq_false h0, Bool.not_false, cond_true, if_pos ⟨h3, h0⟩]; rfl
  ·rw [decide_eq_false h3, cond_false, if_neg (fun h => h3 h.1)]; exact tl
theorem qhk (a : AttrG) {v : Val} (hm : Mok v) (ht : Tok a.type_) (hx : Vok (getS v a.name)) : gQ6k a v = some (enc (oneX a (getS v a.name))) := by
 rw [← qrr a _ ht hx]
 unfold gQ6k
 rw [q5w hm, Option.bind_some, qmo _ _ ht hx]
 rfl
section
variable {α δ : Type}
def q12 (f : α → Val ⊕ δ) : List α → List Val ⊕ δ
 | [] => .inl []
 | x :: r => match f x with
  | .inr e => .inr e
  | .inl y => match q12 f r with
   | .inr e => .inr e
   | .inl ys => .inl (y :: ys)
theorem q4i {f : α → Val ⊕ δ} : ∀ {l : List α} {ys : List Val}, q12 f l = .inl ys → ys.length = l.length ∧ ∀ (i : Nat) x y, l[i]? = some x → ys[i]? = some y → f x = .inl y
 | [], ys, h => by
  cases h; exact ⟨rfl, fun i x y h => by simp at h⟩
 | x :: r, ys, h => by
  unfold q12 at h
  split at h
  ·cases h
  rename_i y hy
  split at h
  ·cases h
  rename_i zs hz
  cases h
  obtain ⟨h1, h2⟩ := q4i hz
  refine ⟨by simp [h1], fun i a b ha hb => ?_⟩
  cases i with
  | zero => simp at ha hb; subst ha hb; exact hy
  | succ i => exact h2 i a b (by simpa using ha) (by simpa using hb)
theorem q8b {f : α → Val ⊕ δ} : ∀ {l : List α} {e : δ}, q12 f l = .inr e → ∃ x ∈ l, f x = .inr e
 | [], e, h => by cases h
 | x :: r, e, h => by
  unfold q12 at h
  split at h
  ·rename_i e' he; cases h; exact ⟨x, List.mem_cons_self, he⟩
  split at h
  ·rename_i e' he
   cases h
   obtain ⟨z, hz, k⟩ := q8b he
   exact ⟨z, List.mem_cons_of_mem _ hz, k⟩
  ·cases h
theorem q4q {O St : Type} (l : List α) (f : α → Val ⊕ δ) (nm : α → ByteArray) (F : Nat → List Val → List ByteArray → St) {body : St → Option (St ⊕ O)} (vs0 : List Val) (ks0 : List ByteArray) (R : List Val → O) (E : δ → O)
  (step : ∀ (i : Nat) (x : α) (ys : List Val), i < l.length → l[i]? = some x → ys.length = i → (∀ y, f x = .inl y → body (F i (vs0 ++ ys) (ks0 ++ (l.take i).map nm)) = some (.inl (F (i + 1) (vs0 ++ ys ++ [y]) (ks0 ++ (l.take i).map nm ++ [nm x])))) ∧ (∀ e, f x = .inr e → body (F i (vs0 ++ ys) (ks0 ++ (l.take i).map nm)) = some (.inr (E e))))
  (stop : ∀ ys, q12 f l = .inl ys → body (F l.length (vs0 ++ ys) (ks0 ++ l.map nm)) = some (.inr (R ys))) :
  qb body (F 0 vs0 ks0) = some (match q12 f l with | .inl ys => R ys | .inr e => E e) := by
 have key : ∀ (r : List α) (i : Nat) (ys : List Val), i ≤ l.length → l.drop i = r → ys.length = i → (q12 f l = match q12 f r with | .inl zs => .inl (ys ++ zs) | .inr e => .inr e) →
   qb body (F i (vs0 ++ ys) (ks0 ++ (l.take i).map nm)) = some (match q12 f l with | .inl ys => R ys | .inr e => E e) := by
  intro r
  induction r with
  | nil =>
   intro i ys hi hd hl he
   have : i = l.length := by
    have := congrArg List.length hd
    rw [List.length_drop, List.length_nil] at this
    omega
   subst this
   have he' : q12 f l = .inl ys := by rw [he]; simp [q12]
   rw [List.take_length, he']
   exact q2d (stop ys he')
  | cons x r ih =>
   intro i ys hi hd hl he
   obtain ⟨h1, h2, h3⟩ := qok hd
   obtain ⟨s1, s2⟩ := step i x ys h1 h2 hl
   cases hx : f x with
   | inr e =>
    rw [he]
    simp only [q12, hx]
    exact q2d (s2 e hx)
   | inl y =>
    rw [q3a (s1 y hx)]
    have tk : ks0 ++ (l.take i).map nm ++ [nm x] = ks0 ++ (l.take (i + 1)).map nm := by
     rw [List.take_add_one, h2, List.map_append, List.append_assoc]; rfl
    rw [tk, List.append_assoc]
    refine ih (i + 1) (ys ++ [y]) h1 h3 (by simp [hl]) ?_
    rw [he]
    simp only [q12, hx]
    cases q12 f r with
    | inl zs => simp
    | inr e => rfl
 have := key l 0 [] (Nat.zero_le _) rfl rfl (by cases q12 f l <;> rfl)
 simpa using this
end
noncomputable def elX (n : NestedG) (x : Val) : Val ⊕ Int :=
 if x.kind = 6 then .inl x else if x.kind ≠ 5 then .inr 6 else if ∃ k ∈ x.keys, (qf k n.attrs).2 = false then .inr 13 else
  match q12 (fun a => oneX a (getS x a.name)) n.attrs with
  | .inl ys => .inl (Val.mk 5 0 eS ys (n.attrs.map (·.name)))
  | .inr e => .inr e
noncomputable def q3b (n : NestedG) (x : Val) : Val ⊕ Int :=
 if x.kind = 6 then .inl x else if x.kind ≠ 0 ∧ x.kind ≠ 4 then .inr 6 else if (x.items.length : Int) < n.min then .inr 12 else if (x.items.length : Int) > n.max then .inr 14 else
  match q12 (elX n) x.items with
  | .inl ys => .inl (Val.mk 4 0 eS ys [])
  | .inr e => .inr e
theorem qcy {n : NestedG} {x : Val} {e : Int} (h : elX n x = .inr e) : e ≠ 0 := by
 unfold elX at h
 split at h
 ·cases h
 split at h
 ·cases h; decide
 split at h
 ·cases h; decide
 split at h
 ·cases h
 ·rename_i e' he
  cases h
  obtain ⟨a, _, k⟩ := q8b he
  exact qbb k
theorem qrg {n : NestedG} {x : Val} {e : Int} (h : q3b n x = .inr e) : e ≠ 0 := by
 unfold q3b at h
 split at h
 ·cases h
 split at h
 ·cases h; decide
 split at h
 ·cases h; decide
 split at h
 ·cases h; decide
 split at h
 ·cases h
 ·rename_i e' he
  cases h
  obtain ⟨a, _, k⟩ := q8b he
  exact qcy k
structure Kok (n : NestedG) : Prop where
 len : n.attrs.length ≤ 70
 tok : ∀ a ∈ n.attrs, Tok a.type_
 max : n.max ≤ 256
theorem qox (k : ByteArray) (l : List AttrG) : (l.any fun a => decide (a.name = k)) = (qf k l).2 := by
 induction l with
 | nil => rfl
 | cons a r ih =>
  rw [List.any_cons, ih, show qf k (a :: r) = if a.name = k then (a, true) else qf k r from rfl]
  by_cases h : a.name = k
  ·rw [decide_eq_true h, if_pos h]; rfl
  ·rw [decide_eq_false h, if_neg h]; rfl
theorem qio (n : NestedG) (v : Val) (k : ByteArray) (hl : n.attrs.length ≤ 1000) : gQ6r n v k = some (qf k n.attrs).2 := by
 unfold gQ6r gQ6t
 obtain ⟨q, h1, h2⟩ := qjq (body := gQ6u n v k) n.attrs (fun a => decide (a.name = k)) (by omega) (fun i x hi hx => by
  simp only [gQ6u, gQ6w, decide_eq_true (show (i : Int) < n.attrs.length by omega), cond_true, qc, hx, Option.bind_some]
  by_cases h : x.name = k
  ·simp [h]
  ·simp [h]) (by simp only [gQ6u, decide_eq_false (show ¬ (n.attrs.length : Int) < n.attrs.length by omega), cond_false])
 rw [h1, Option.bind_some, h2, qox]
theorem qoo (n : NestedG) (x : Val) (hn : Kok n) (hx : Vok x) : gQ6o n x = some (enc (elX n x)) := by
 have hl := hn.len
 have hf := q16 hx.1.parts.2.2.2.2.1 (by decide)
 unfold gQ6o elX
 by_cases h6 : x.kind = 6
 ·rw [decide_eq_true h6, cond_true, if_pos h6]; rfl
 rw [decide_eq_false h6, cond_false, if_neg h6]
 by_cases h5 : x.kind = 5
 rotate_left
 ·rw [decide_eq_false h5, if_pos h5]; rfl
 rw [decide_eq_true h5, Bool.not_true, cond_false, if_neg (fun h => h h5)]
 have inner : qb (gQ6q n x) (0, [], []) = some (.inr (enc (match q12 (fun a => oneX a (getS x a.name)) n.attrs with
  | .inl ys => .inl (Val.mk 5 0 eS ys (n.attrs.map (·.name)))
  | .inr e => .inr e))) := by
  have := q4q (body := gQ6q n x) n.attrs (fun a => oneX a (getS x a.name)) (·.name) (fun i vs ks => ((i : Int), vs, ks)) [] [] (fun ys => .inr (Val.mk 5 0 eS ys (n.attrs.map (·.name)), 0)) (fun e => .inr (vZ, e)) (fun i a ys hi ha hy => ?_) (fun ys hy => ?_)
  ·refine this.trans ?_
   cases q12 (fun a => oneX a (getS x a.name)) n.attrs <;> rfl
  ·have hc := qhk a hx.mok (hn.tok a (List.mem_of_getElem? ha)) (q4l hx _)
   have w := qk hi (show n.attrs.length ≤ 9223372036854775807 by omega)
   have n1 : ((n.attrs.take i).map (·.name)).length = i := by simp; omega
   simp only [List.nil_append]
   refine ⟨fun y hy2 => ?_, fun e he => ?_⟩
   ·rw [hy2] at hc
    simp only [gQ6q, decide_eq_true (show (i : Int) < n.attrs.length by omega), cond_true, qc, ha, Option.bind_some, hc, enc, decide_true, Bool.not_true, cond_false, qw _ a.name (m := 16) (n := 1001) (by decide) (show ((n.attrs.take i).map (·.name)).length < 1001 by omega) (by decide), qw ys y (m := 80) (n := 1001) (by decide) (by omega) (by decide), w]
   ·rw [he] at hc
    simp only [gQ6q, decide_eq_true (show (i : Int) < n.attrs.length by omega), cond_true, qc, ha, Option.bind_some, hc, enc, decide_eq_false (qbb he), Bool.not_false, cond_true]
  ·simp only [gQ6q, decide_eq_false (show ¬ (n.attrs.length : Int) < n.attrs.length by omega), cond_false, List.nil_append]
 have step : ∀ i : Nat, i < x.keys.length → ((∀ k, x.keys[i]? = some k → (qf k n.attrs).2 = true) ∧ gQ6p n x (i : Int) = some (.inl (IntKind.i64.wrap ((i : Int) + 1)))) ∨ (¬ (∀ k, x.keys[i]? = some k → (qf k n.attrs).2 = true) ∧ gQ6p n x (i : Int) = some (.inr (vZ, 13))) := by
  intro i hi
  have hk := List.getElem?_eq_getElem hi
  cases hq : (qf x.keys[i] n.attrs).2 with
  | true => exact .inl ⟨(fun k e => by rw [hk] at e; cases e; exact hq), by simp only [gQ6p, decide_eq_true (show (i : Int) < x.keys.length by omega), cond_true, qc, hk, Option.bind_some, qio n x _ (by omega), hq, Bool.not_true, cond_false]⟩
  | false => exact .inr ⟨(fun h => by have := h _ hk; rw [hq] at this; cases this), by simp only [gQ6p, decide_eq_true (show (i : Int) < x.keys.length by omega), cond_true, qc, hk, Option.bind_some, qio n x _ (by omega), hq, Bool.not_false, cond_true]⟩
 rcases q77 x.keys.length _ _ _ (by omega) step (by simp only [gQ6p, decide_eq_false (show ¬ (x.keys.length : Int) < x.keys.length by omega), cond_false, inner]; rfl) with ⟨h1, h2⟩ | ⟨h1, i, h2, h3⟩
 ·rw [h1, if_neg]
  rintro ⟨k, hk, hf⟩
  obtain ⟨i, hi⟩ := List.getElem?_of_mem hk
  have := h2 i (List.getElem?_eq_some_iff.1 hi).1 k hi
  rw [hf] at this; cases this
 ·rw [h1, if_pos]
  ·rfl
  ·refine ⟨x.keys[i], List.getElem_mem h2, ?_⟩
   cases hq : (qf x.keys[i] n.attrs).2 with
   | false => rfl
   | true => exact absurd (fun k e => by rw [List.getElem?_eq_getElem h2] at e; cases e; exact hq) h3
theorem qq4 (n : NestedG) (x : Val) (hn : Kok n) (hx : Vok x) (hm : ¬ (x.items.length : Int) > n.max) {body : Int × List Val → Option ((Int × List Val) ⊕ (Val × Int))} (hb : body = gQ70 n x) :
  qb body (0, []) = some (enc (match q12 (elX n) x.items with | .inl ys => .inl (Val.mk 4 0 eS ys []) | .inr e => .inr e)) := by
 subst hb
 have hmx := hn.max
 have := q4q (body := gQ70 n x) x.items (elX n) (fun _ => eS) (fun i vs _ => ((i : Int), vs)) [] [] (fun ys => (Val.mk 4 0 eS ys [], 0)) (fun e => (vZ, e)) (fun i a ys hi ha hy => ?_) (fun ys hy => ?_)
 ·refine this.trans ?_
  cases q12 (elX n) x.items <;> rfl
 ·have hc := qoo n a hn (hx.item a (List.mem_of_getElem? ha))
  have w := qk hi (show x.items.length ≤ 9223372036854775807 by omega)
  simp only [List.nil_append]
  refine ⟨fun y hy2 => ?_, fun e he => ?_⟩
  ·rw [hy2] at hc
   simp only [gQ70, decide_eq_true (show (i : Int) < x.items.length by omega), cond_true, qc, ha, Option.bind_some, hc, enc, decide_true, Bool.not_true, cond_false, qw ys y (m := 80) (n := 1001) (by decide) (by omega) (by decide), w]
  ·rw [he] at hc
   simp only [gQ70, decide_eq_true (show (i : Int) < x.items.length by omega), cond_true, qc, ha, Option.bind_some, hc, enc, decide_eq_false (qcy he), Bool.not_false, cond_true]
 ·simp only [gQ70, decide_eq_false (show ¬ (x.items.length : Int) < x.items.length by omega), cond_false, List.nil_append]
theorem qop (n : NestedG) (x : Val) (hn : Kok n) (hx : Vok x) : gQ6z n x = some (enc (q3b n x)) := by
 unfold gQ6z q3b gQ72 gQ74 gQ76 gQ78
 by_cases h6 : x.kind = 6
 ·rw [decide_eq_true h6, cond_true, if_pos h6]; rfl
 rw [decide_eq_false h6, cond_false, if_neg h6]
 have tail : ∀ body : Int × List Val → Option ((Int × List Val) ⊕ (Val × Int)), body = gQ70 n x → (bif (decide ((x.items.length : Int) < n.min)) then some ((Val.mk 0 0 eS [] []), (12 : Int)) else bif (decide ((x.items.length : Int) > n.max)) then some ((Val.mk 0 0 eS [] []), 14) else qb body (0, [])) =
   some (enc (if (x.items.length : Int) < n.min then .inr 12 else if (x.items.length : Int) > n.max then .inr 14 else match q12 (elX n) x.items with | .inl ys => .inl (Val.mk 4 0 eS ys []) | .inr e => .inr e)) := by
  intro body hb
  by_cases h1 : (x.items.length : Int) < n.min
  ·rw [decide_eq_true h1, if_pos h1]; rfl
  by_cases h2 : (x.items.length : Int) > n.max
  ·rw [decide_eq_false h1, decide_eq_true h2, if_neg h1, if_pos h2]; rfl
  rw [decide_eq_false h1, decide_eq_false h2, if_neg h1, if_neg h2, cond_false, cond_false, qq4 n x hn hx h2 hb]
 by_cases h0 : x.kind = 0
 ·rw [decide_eq_true h0, cond_true, if_neg (fun h => h.1 h0)]
  exact tail _ rfl
 ·rw [decide_eq_false h0, cond_false]
  by_cases h4 : x.kind = 4
  ·rw [decide_eq_true h4, cond_true, if_neg (fun h => h.2 h4)]
   exact tail _ rfl
  ·rw [decide_eq_false h4, cond_false, if_pos ⟨h0, h4⟩]; rfl
end Abs
end Go.Proofs.YtkffpfapfljinaaGreatDoor
namespace Go.Proofs.YtkffpfapfljinaaGreatDoor
set_option linter.unusedSimpArgs false
set_option linter.unusedVariables false
namespace Abs
open Go.RowKit
def allN (s : SchemaG) : List ByteArray := s.attrs.map (·.name) ++ s.nested.map (·.name)
theorem q9q (s : SchemaG) : (allN s).length = s.attrs.length + s.nested.length := by simp [allN]
theorem qk5 {α : Type} {nm : α → ByteArray} {l : List α} (h : l.Pairwise fun a b => Op.bytesLess (nm a).toList (nm b).toList = true) : (l.map nm).Nodup := by
 rw [List.nodup_iff_pairwise_ne]
 refine List.pairwise_map.2 (h.imp fun {a b} k e => ?_)
 rw [e, q3x] at k; cases k
theorem q9r {s : SchemaG} (h : NamesOk s) : (allN s).Nodup := by
 refine List.nodup_append.2 ⟨qk5 h.ra, qk5 h.rn, fun a ha b hb => ?_⟩
 obtain ⟨x, hx, rfl⟩ := List.mem_map.1 ha
 obtain ⟨y, hy, rfl⟩ := List.mem_map.1 hb
 exact h.dj x hx y hy
theorem qbu {s : SchemaG} (h : NamesOk s) (k : ByteArray) : k ∈ (typL s).map (·.1) ↔ k ∈ allN s := by
 obtain ⟨t1, t2, t3⟩ := q7q h
 unfold allN
 rw [List.mem_append, List.mem_map, List.mem_map, List.mem_map]
 constructor
 ·rintro ⟨p, hp, rfl⟩
  rcases (t2 p).1 hp with ⟨a, ha, rfl⟩ | ⟨n, hn, rfl⟩
  ·exact .inl ⟨a, ha, rfl⟩
  ·exact .inr ⟨n, hn, rfl⟩
 ·rintro (⟨a, ha, rfl⟩ | ⟨n, hn, rfl⟩)
  ·exact ⟨ap a, (t2 _).2 (.inl ⟨a, ha, rfl⟩), rfl⟩
  ·exact ⟨np n, (t2 _).2 (.inr ⟨n, hn, rfl⟩), rfl⟩
def known (s : SchemaG) (k : ByteArray) : Bool := (qf k s.attrs).2 || (q11 k s.nested).2
theorem qqc {s : SchemaG} {k : ByteArray} : known s k = true ↔ k ∈ allN s := by
 unfold known allN
 rw [Bool.or_eq_true, qd8, qi2, List.mem_append, List.mem_map, List.mem_map]
theorem qei {s : SchemaG} (h : NamesOk s) (hf : q2a s) : gQ7m s = some ((typL s).map (·.1)) := by
 unfold gQ7m
 rw [q7w s h hf]; rfl
theorem qqb {s : SchemaG} (h : NamesOk s) (k : ByteArray) : hasB ((typL s).map (·.1)) k = known s k := by
 refine Bool.eq_iff_iff.2 ?_
 rw [q3v, qqc, qbu h]
def tagD (who : ByteArray) : Val ⊕ Int → Val ⊕ DiagG
 | .inl y => .inl y
 | .inr e => .inr (DiagG.mk e 0 who)
noncomputable def fA (v : Val) (a : AttrG) : Val ⊕ DiagG := tagD a.name (oneX a (getS v a.name))
noncomputable def fN (v : Val) (n : NestedG) : Val ⊕ DiagG := tagD n.name (q3b n (getS v n.name))
noncomputable def q1w (s : SchemaG) (v : Val) : List Val ⊕ DiagG :=
 match q12 (fA v) s.attrs with
 | .inr d => .inr d
 | .inl xs => match q12 (fN v) s.nested with
  | .inr d => .inr d
  | .inl ns => .inl (xs ++ ns)
theorem qd5 {v : Val} {a : AttrG} {d : DiagG} (h : fA v a = .inr d) : d.kind ≠ 0 ∧ oneX a (getS v a.name) = .inr d.kind ∧ d = DiagG.mk d.kind 0 a.name := by
 unfold fA at h
 cases k : oneX a (getS v a.name) with
 | inl y => rw [k] at h; cases h
 | inr e => rw [k] at h; cases h; exact ⟨qbb k, rfl, rfl⟩
theorem qd4 {v : Val} {a : AttrG} {y : Val} (h : fA v a = .inl y) : oneX a (getS v a.name) = .inl y := by
 unfold fA at h
 cases k : oneX a (getS v a.name) with
 | inl y => rw [k] at h; cases h; rfl
 | inr e => rw [k] at h; cases h
theorem qd7 {v : Val} {n : NestedG} {d : DiagG} (h : fN v n = .inr d) : d.kind ≠ 0 ∧ q3b n (getS v n.name) = .inr d.kind ∧ d = DiagG.mk d.kind 0 n.name := by
 unfold fN at h
 cases k : q3b n (getS v n.name) with
 | inl y => rw [k] at h; cases h
 | inr e => rw [k] at h; cases h; exact ⟨qrg k, rfl, rfl⟩
theorem qd6 {v : Val} {n : NestedG} {y : Val} (h : fN v n = .inl y) : q3b n (getS v n.name) = .inl y := by
 unfold fN at h
 cases k : q3b n (getS v n.name) with
 | inl y => rw [k] at h; cases h; rfl
 | inr e => rw [k] at h; cases h
theorem qev {s : SchemaG} {v : Val} {vs : List Val} (h : q1w s v = .inl vs) : vs.length = (allN s).length := by
 unfold q1w at h
 split at h
 ·cases h
 rename_i xs ha
 split at h
 ·cases h
 rename_i ns hn
 cases h
 rw [List.length_append, (q4i ha).1, (q4i hn).1, q9q]
theorem q63 {k : Int} {items : List Val} {keys : List ByteArray} (hk : 0 ≤ k ∧ k ≤ 6) (hl : items.length ≤ 1000) (hk2 : keys.length ≤ 1000) (hs : ∀ s ∈ keys, s.size ≤ 140737488351232) (h : ∀ x ∈ items, x.Fits) : (Val.mk k 0 eS items keys).Fits :=
 .mk (by omega) (by decide) q3l (by omega) (by omega) hs h
structure Kfit (n : NestedG) : Prop extends Kok n where
 nm : ∀ a ∈ n.attrs, a.name.size ≤ 140737488351232
theorem qk9 {a : AttrG} {x y : Val} (ht : Tok a.type_) (hx : Vok x) (h : oneX a x = .inl y) : y.Fits := by
 have := qv6 ht hx
 rw [(qrq h).2.2] at this
 exact this
theorem qon {n : NestedG} {x y : Val} (hn : Kfit n) (hx : Vok x) (h : elX n x = .inl y) : y.Fits := by
 unfold elX at h
 split at h
 ·cases h; exact hx.1
 split at h
 ·cases h
 split at h
 ·cases h
 split at h
 ·rename_i ys hy
  cases h
  obtain ⟨h1, h2⟩ := q4i hy
  have := hn.len
  refine q63 (by decide) (by omega) (by simp; omega) (fun s hs => ?_) fun z hz => ?_
  ·obtain ⟨a, ha, rfl⟩ := List.mem_map.1 hs
   exact hn.nm a ha
  ·obtain ⟨i, hi⟩ := List.getElem?_of_mem hz
   have hil : i < n.attrs.length := by rw [← h1]; exact (List.getElem?_eq_some_iff.1 hi).1
   exact qk9 (hn.tok _ (List.getElem_mem hil)) (q4l hx _) (h2 i _ z (List.getElem?_eq_getElem hil) hi)
 ·cases h
theorem qrf {n : NestedG} {x y : Val} (hn : Kfit n) (hx : Vok x) (h : q3b n x = .inl y) : y.Fits := by
 unfold q3b at h
 split at h
 ·cases h; exact hx.1
 split at h
 ·cases h
 split at h
 ·cases h
 split at h
 ·cases h
 rename_i hm
 split at h
 ·rename_i ys hy
  cases h
  obtain ⟨h1, h2⟩ := q4i hy
  have := hn.max
  refine q63 (by decide) (by omega) (by simp) (fun s hs => absurd hs List.not_mem_nil) fun z hz => ?_
  obtain ⟨i, hi⟩ := List.getElem?_of_mem hz
  have hil : i < x.items.length := by rw [← h1]; exact (List.getElem?_eq_some_iff.1 hi).1
  exact qon hn (hx.item _ (List.getElem_mem hil)) (h2 i _ z (List.getElem?_eq_getElem hil) hi)
 ·cases h
theorem SVal.tok {s : SchemaG} (h : SVal s) : ∀ a ∈ s.attrs, Tok a.type_ := fun a ha => by
 have hf := (h.fits.1.2 a ha).2.1
 obtain ⟨r, r1, r2⟩ := q9d a.type_ hf
 rw [(h.ok.attrs.1 a ha).1.2.1] at r1
 exact ⟨hf, (h.few.fa a ha).2, r2 (Option.some.inj r1).symm⟩
theorem SVal.kfit {s : SchemaG} (h : SVal s) : ∀ n ∈ s.nested, Kfit n := fun n hn => by
 obtain ⟨i, hi⟩ := List.getElem?_of_mem hn
 have hk := h.ok.kinds i n hi
 have hnf := h.fits.2.2 n hn
 refine ⟨⟨by have := hk.few; omega, fun a ha => ?_, hk.mx⟩, fun a ha => (hnf.2.2.2.1.2 a ha).1⟩
 have hf := (hnf.2.2.2.1.2 a ha).2.1
 obtain ⟨r, r1, r2⟩ := q9d a.type_ hf
 rw [(hk.attrs.1 a ha).1.2.1] at r1
 exact ⟨hf, ((h.few.fn n hn).2.2 a ha).2, r2 (Option.some.inj r1).symm⟩
theorem qeu {s : SchemaG} {v : Val} {vs : List Val} (hs : SVal s) (hv : Vok v) (h : q1w s v = .inl vs) : ∀ x ∈ vs, x.Fits := by
 unfold q1w at h
 split at h
 ·cases h
 rename_i xs ha
 split at h
 ·cases h
 rename_i ns hn
 cases h
 obtain ⟨a1, a2⟩ := q4i ha
 obtain ⟨n1, n2⟩ := q4i hn
 intro x hx
 rcases List.mem_append.1 hx with hx | hx
 ·obtain ⟨i, hi⟩ := List.getElem?_of_mem hx
  have hil : i < s.attrs.length := by rw [← a1]; exact (List.getElem?_eq_some_iff.1 hi).1
  exact qk9 (hs.tok _ (List.getElem_mem hil)) (q4l hv _) (qd4 (a2 i _ x (List.getElem?_eq_getElem hil) hi))
 ·obtain ⟨i, hi⟩ := List.getElem?_of_mem hx
  have hil : i < s.nested.length := by rw [← n1]; exact (List.getElem?_eq_some_iff.1 hi).1
  exact qrf (hs.kfit _ (List.getElem_mem hil)) (q4l hv _) (qd6 (n2 i _ x (List.getElem?_eq_getElem hil) hi))
theorem qgg {s : SchemaG} (h : q2a s) : ∀ k ∈ allN s, k.size ≤ 140737488351232 := fun k hk => by
 rcases List.mem_append.1 hk with hk | hk
 ·obtain ⟨a, ha, rfl⟩ := List.mem_map.1 hk
  exact (h.1.2 a ha).1
 ·obtain ⟨n, hn, rfl⟩ := List.mem_map.1 hk
  exact (h.2.2 n hn).1
def outV (s : SchemaG) (vs : List Val) : Val := q2h (q1i [] ((allN s).zip vs))
theorem qdf {ks : List ByteArray} {vs : List Val} (h : ks.length = vs.length) (hn : ks.Nodup) : SP (q1i [] (ks.zip vs)) ∧ (∀ p, p ∈ q1i [] (ks.zip vs) ↔ p ∈ ks.zip vs) ∧ (q1i [] (ks.zip vs)).length = ks.length := by
 obtain ⟨a, b, c⟩ := qde (ks.zip vs) ([] : List (ByteArray × Val)) List.Pairwise.nil (by rw [List.map_fst_zip (by omega)]; exact hn) (fun _ _ q hq => absurd hq List.not_mem_nil)
 refine ⟨a, fun p => (b p).trans ⟨fun k => k.elim (fun k => absurd k List.not_mem_nil) id, .inr⟩, ?_⟩
 rw [c, List.length_zip]; simp; omega
theorem qep {s : SchemaG} (hs : SVal s) {vs : List Val} (hl : vs.length = (allN s).length) (hf : ∀ x ∈ vs, x.Fits) : (outV s vs).Fits := by
 obtain ⟨a, b, c⟩ := qdf hl.symm (q9r hs.names)
 have h1 := hs.few.la
 have h2 := hs.few.ln
 have h3 := q9q s
 refine q63 (by decide) (by simp; omega) (by simp; omega) (fun k hk => ?_) fun x hx => ?_
 ·obtain ⟨p, hp, rfl⟩ := List.mem_map.1 hk
  exact qgg hs.fits _ (List.of_mem_zip (a := p.1) (b := p.2) ((b p).1 hp)).1
 ·obtain ⟨p, hp, rfl⟩ := List.mem_map.1 hx
  exact hf _ (List.of_mem_zip (a := p.1) (b := p.2) ((b p).1 hp)).2
noncomputable def finS (s : SchemaG) (vs : List Val) : Val × DiagG := if qz (outV s vs) = 0 then (outV s vs, DiagG.mk 0 0 eS) else (vZ, DiagG.mk (qz (outV s vs)) 0 eS)
noncomputable def q2c (s : SchemaG) (v : Val) : Val × DiagG :=
 match q1w s v with
 | .inr d => (vZ, d)
 | .inl vs => finS s vs
noncomputable def q21 (s : SchemaG) (v : Val) : Val × DiagG :=
 if qz v ≠ 0 then (vZ, DiagG.mk 1 0 eS) else if v.kind ≠ 5 then (vZ, DiagG.mk 6 0 eS) else
  match v.keys.find? fun k => !known s k with
  | some k => (vZ, DiagG.mk 13 0 k)
  | none => q2c s v
theorem qoq {s : SchemaG} (h : NamesOk s) (hf : q2a s) {v : Val} (hv : v.Fits) : gQ7b s v = some (if qz v ≠ 0 then DiagG.mk 1 0 eS else if v.kind ≠ 5 then DiagG.mk 6 0 eS else match v.keys.find? fun k => !known s k with | some k => DiagG.mk 13 0 k | none => DiagG.mk 0 0 eS) := by
 have hl := q16 hv.parts.2.2.2.2.1 (by decide)
 have h1 := h.la
 have h2 := h.ln
 have h3 := (q7q h).2.2
 unfold gQ7b
 rw [show q28 v = some (qz v) from q2l hv, Option.bind_some]
 by_cases hc : qz v = 0
 rotate_left
 ·rw [decide_eq_false hc, if_pos hc]; rfl
 rw [decide_eq_true hc, Bool.not_true, cond_false, if_neg (fun k => k hc)]
 by_cases h5 : v.kind = 5
 rotate_left
 ·rw [decide_eq_false h5, if_pos h5]; rfl
 rw [decide_eq_true h5, Bool.not_true, cond_false, if_neg (fun k => k h5), qei h hf, Option.bind_some]
 refine q59 v.keys (fun i (_ : Unit) => (i : Int)) (fun _ l => match l.find? fun k => !known s k with | some k => DiagG.mk 13 0 k | none => DiagG.mk 0 0 eS) (fun _ _ => True) (a := ()) rfl trivial (fun _ _ => ?_) (fun i x r _ hi hx _ _ => ?_)
 ·simp only [gQ7c, decide_eq_false (show ¬ (v.keys.length : Int) < v.keys.length by omega), cond_false]; rfl
 ·have e1 : gQ7c v ((typL s).map (·.1)) (i : Int) = bif (!known s x) then some (.inr (DiagG.mk 13 0 x)) else some (.inl ((i + 1 : Nat) : Int)) := by
   simp only [gQ7c, decide_eq_true (show (i : Int) < v.keys.length by omega), cond_true, qc, hx, Option.bind_some, qcu _ x (show ((typL s).map (·.1)).length ≤ 9223372036854775807 by rw [List.length_map]; omega), qqb h, qk hi (show v.keys.length ≤ 9223372036854775807 by omega)]
  cases e : known s x with
  | false => right; rw [e1, e]; simp [List.find?_cons, e]
  | true => left; exact ⟨(), trivial, by rw [e1, e]; rfl, by simp [List.find?_cons, e]⟩
theorem q9e {s : SchemaG} (hs : SVal s) {v : Val} (hv : v.Fits) : gQ5k s v = some (q21 s v) := by
 have hN := hs.names
 have h1 := hs.few.la
 have h2 := hs.few.ln
 have hal := q9q s
 unfold gQ5k q21
 rw [qoq hN hs.fits hv, Option.bind_some]
 by_cases hc : qz v = 0
 rotate_left
 ·simp only [if_pos hc]; rfl
 simp only [if_neg (show ¬ qz v ≠ 0 from fun k => k hc)]
 by_cases h5 : v.kind = 5
 rotate_left
 ·simp only [if_pos h5]; rfl
 simp only [if_neg (show ¬ v.kind ≠ 5 from fun k => k h5)]
 cases hfd : v.keys.find? fun k => !known s k with
 | some k => rfl
 | none =>
  show qb (gQ5l s v) (0, [], []) = _
  have hvk := q9a hv hc
  have L2 : ∀ xs : List Val, q12 (fA v) s.attrs = .inl xs → qb (gQ5m s v) (0, s.attrs.map (·.name), xs) = some (.inr (q2c s v)) := by
   intro xs ha
   have hla := (q4i ha).1
   have := q4q (body := gQ5m s v) s.nested (fN v) (·.name) (fun i vs ks => ((i : Int), ks, vs)) xs (s.attrs.map (·.name)) (fun ns => .inr (finS s (xs ++ ns))) (fun d => .inr (vZ, d)) (fun i n ys hi hn hy => ?_) (fun ns hns => ?_)
   ·refine this.trans ?_
    unfold q2c q1w
    rw [ha]
    cases q12 (fN v) s.nested <;> rfl
   ·have hmem := List.mem_of_getElem? hn
    have hc := qop n (getS v n.name) (hs.kfit n hmem).toKok (q4l hvk _)
    have w := qk hi (show s.nested.length ≤ 9223372036854775807 by omega)
    refine ⟨fun y hy2 => ?_, fun d hd => ?_⟩
    ·rw [qd6 hy2] at hc
     simp only [gQ5m, decide_eq_true (show (i : Int) < s.nested.length by omega), cond_true, qc, hn, Option.bind_some, q5w hvk.mok, hc, enc, decide_true, Bool.not_true, cond_false, qw (s.attrs.map (·.name) ++ (s.nested.take i).map (·.name)) n.name (m := 16) (n := 1001) (by decide) (by simp; omega) (by decide), qw (xs ++ ys) y (m := 80) (n := 1001) (by decide) (by simp; omega) (by decide), w]
    ·obtain ⟨d1, d2, d3⟩ := qd7 hd
     rw [d2] at hc
     rw [d3]
     simp only [gQ5m, decide_eq_true (show (i : Int) < s.nested.length by omega), cond_true, qc, hn, Option.bind_some, q5w hvk.mok, hc, enc, decide_eq_false d1, Bool.not_false, cond_true]
   ·have hp : q1w s v = .inl (xs ++ ns) := by unfold q1w; rw [ha, hns]
    have hl := qev hp
    have hff := qeu hs hvk hp
    have hm := qr4 (allN s) (xs ++ ns) hl.symm (by omega) (q9r hN) hff
    have hof := qep hs hl hff
    simp only [gQ5m, decide_eq_false (show ¬ (s.nested.length : Int) < s.nested.length by omega), cond_false]
    rw [show s.attrs.map (·.name) ++ s.nested.map (·.name) = allN s from rfl, hm, Option.bind_some, show q28 (q2h (q1i [] ((allN s).zip (xs ++ ns)))) = some (qz (outV s (xs ++ ns))) from q2l hof, Option.bind_some]
    unfold finS
    by_cases hz : qz (outV s (xs ++ ns)) = 0
    ·rw [decide_eq_true hz, if_pos hz]; rfl
    ·rw [decide_eq_false hz, if_neg hz]; rfl
  have := q4q (body := gQ5l s v) s.attrs (fA v) (·.name) (fun i vs ks => ((i : Int), ks, vs)) [] [] (fun _ => q2c s v) (fun d => (vZ, d)) (fun i a ys hi ha hy => ?_) (fun xs has => ?_)
  ·refine this.trans ?_
   cases hE : q12 (fA v) s.attrs with
   | inl xs => rfl
   | inr d => simp only [q2c, q1w, hE]
  ·have hmem := List.mem_of_getElem? ha
   have hc := qhk a hvk.mok (hs.tok a hmem) (q4l hvk _)
   have w := qk hi (show s.attrs.length ≤ 9223372036854775807 by omega)
   simp only [List.nil_append]
   refine ⟨fun y hy2 => ?_, fun d hd => ?_⟩
   ·rw [qd4 hy2] at hc
    simp only [gQ5l, decide_eq_true (show (i : Int) < s.attrs.length by omega), cond_true, qc, ha, Option.bind_some, hc, enc, decide_true, Bool.not_true, cond_false, qw ((s.attrs.take i).map (·.name)) a.name (m := 16) (n := 1001) (by decide) (by simp; omega) (by decide), qw ys y (m := 80) (n := 1001) (by decide) (by omega) (by decide), w]
   ·obtain ⟨d1, d2, d3⟩ := qd5 hd
    rw [d2] at hc
    rw [d3]
    simp only [gQ5l, decide_eq_true (show (i : Int) < s.attrs.length by omega), cond_true, qc, ha, Option.bind_some, hc, enc, decide_eq_false d1, Bool.not_false, cond_true]
  ·simp only [gQ5l, decide_eq_false (show ¬ (s.attrs.length : Int) < s.attrs.length by omega), cond_false, List.nil_append]
   exact L2 xs has
end Abs
end Go.Proofs.YtkffpfapfljinaaGreatDoor
namespace Go.Proofs.YtkffpfapfljinaaGreatDoor
set_option linter.unusedSimpArgs false
set_option linter.unusedVariables false
namespace Abs
open Go.RowKit
open Classical in
theorem qqa (x : Val) : tQb0 x = gQ93 (gQ94 (fun a0 => if relV a0 x then tQb0 a0 else none)) x := q2t x ()
open Classical in
theorem q8f (x : Val) : x.Fits → tQb0 x = some (q18 x) := by
 induction x using wfV.induction with
 | h x ih =>
  intro hf
  obtain ⟨f1, f2, f3, f4, f5, f6, f7⟩ := hf.parts
  have hn := q16 f4 (by decide)
  rw [qqa, qdw]
  unfold gQ93
  by_cases h6 : x.kind = 6
  ·rw [decide_eq_true h6]; simp [h6]
  rw [decide_eq_false h6, Bool.not_false, cond_true]
  obtain ⟨n, h1, h2⟩ := qjq x.items (fun v => !q18 v) (body := gQ9a (gQ94 fun a0 => if relV a0 x then tQb0 a0 else none) x.items) (by omega) (fun i y hi hy => by
   have hm : y ∈ x.items := List.mem_of_getElem? hy
   simp only [gQ9a, decide_eq_true (show (i : Int) < x.items.length by omega), cond_true, qc, hy, Option.bind_some, gQ94, if_pos (show relV y x from hm), ih y hm (f7 y hm)]
   cases q18 y <;> rfl) (by simp [gQ9a])
  unfold gQ97 gQ99
  rw [h1, Option.bind_some, Option.bind_some, h2]
  congr 1
  simp only [ne_eq, h6, not_false_eq_true, decide_true, Bool.true_and]
  rw [List.not_any_eq_all_not]; simp
open Classical in
noncomputable def eqB (a b : Val) : Bool := decide (a = b)
open Classical in
theorem q2u {a b : Val} : eqB a b = true ↔ a = b := by unfold eqB; exact decide_eq_true_iff
theorem qhv {a b : Val} {q : Bool} (h : q = true ↔ a = b) : q = eqB a b := Bool.eq_iff_iff.2 (h.trans q2u.symm)
noncomputable def difS (a b : Val) : Bool := !eqB a b || (!q18 a || !q18 b)
theorem qa9 {a b : Val} (h : a.Fits) : tQax a b = some (eqB a b) := by
 obtain ⟨q, h1, h2⟩ := qvm a b h
 rw [h1, qhv h2]
theorem q69 {a b : Val} (h : a.Fits) : tQa6 a b = some (eqB a b) := by
 obtain ⟨q, h1, h2⟩ := qu1 a b h
 rw [h1, qhv h2]
theorem qho {a b : Val} (ha : a.Fits) (hb : b.Fits) : gQ6m a b = some (difS a b) := by
 unfold gQ6m difS
 rw [qa9 ha, q8f a ha, q8f b hb]
 simp only [Option.bind_some]
 cases eqB a b <;> cases q18 a <;> cases q18 b <;> rfl
theorem qa6 {a : Val} (h : q18 a = true) : difS a a = false := by
 unfold difS; rw [h, q2u.2 rfl]; rfl
theorem q37 {v : Val} (h : Mok v) (n : ByteArray) : (getS v n).Fits := by
 unfold getS
 split
 ·rcases q8h v.keys v.items n with k | k
  ·exact h.fits.parts.2.2.2.2.2.2 _ k
  ·rw [k]; exact q32
 ·exact q32
def nmS (s : SchemaG) : List ByteArray := (typL s).map (·.1)
theorem q5e {s : SchemaG} (h : NamesOk s) : (nmS s).length ≤ 140 := by
 have := (q7q h).2.2
 have h1 := h.la
 have h2 := h.ln
 unfold nmS
 rw [List.length_map]; omega
theorem qb4 {O : Type} (l : List ByteArray) (p : ByteArray → Bool) {body : Int × List ByteArray → Option ((Int × List ByteArray) ⊕ O)} (R : List ByteArray → O)
  (step : ∀ (i : Nat) (x : ByteArray) (acc : List ByteArray), i < l.length → l[i]? = some x → acc.length ≤ i → body ((i : Int), acc) = some (.inl (((i + 1 : Nat) : Int), if p x then acc ++ [x] else acc)))
  (stop : ∀ acc, body ((l.length : Int), acc) = some (.inr (R acc))) : qb body (0, []) = some (R (l.filter p)) := by
 have := q13 (body := body) (fun s => ∃ i : Nat, s = ((i : Int), (l.take i).filter p) ∧ i ≤ l.length) (fun s => l.length - s.1.toNat) (fun q => q = R (l.filter p)) (by
  rintro s ⟨i, rfl, hi⟩
  rcases Nat.eq_or_lt_of_le hi with h0 | h0
  ·subst h0
   exact .inr ⟨_, stop _, by rw [List.take_length]⟩
  ·have hx := List.getElem?_eq_getElem h0
   refine .inl ⟨_, step i _ _ h0 hx (Nat.le_trans (List.length_filter_le _ _) (by simp; omega)), ⟨i + 1, ?_, h0⟩, by simp only [Int.toNat_natCast]; omega⟩
   rw [List.take_succ_eq_append_getElem h0, List.filter_append]
   cases hp : p l[i] <;> simp [List.filter_cons, hp]) (0, []) ⟨0, by simp, Nat.zero_le _⟩
 obtain ⟨q, h, rfl⟩ := this
 exact h
noncomputable def chS (s : SchemaG) (b a : Val) : List ByteArray := (nmS s).filter fun n => difS (getS b n) (getS a n)
theorem qa2 {s : SchemaG} (h : NamesOk s) (b a : Val) : (chS s b a).length ≤ 140 := Nat.le_trans (List.length_filter_le _ _) (q5e h)
theorem q7t {s : SchemaG} (h : NamesOk s) (hf : q2a s) {b a : Val} (hb : Mok b) (ha : Mok a) : gQ5e s b a = some (chS s b a) := by
 have hl := q5e h
 unfold gQ5e
 rw [qei h hf, Option.bind_some]
 refine qb4 (nmS s) (fun n => difS (getS b n) (getS a n)) (fun l => l) (fun i x acc hi hx hacc => ?_) (fun acc => ?_)
 ·show gQ5f b a (nmS s) _ = _
  simp only [gQ5f, decide_eq_true (show (i : Int) < (nmS s).length by omega), cond_true, qc, hx, Option.bind_some, q5w hb, q5w ha, qho (q37 hb x) (q37 ha x), qw acc x (m := 16) (n := 1001) (by decide) (by omega) (by decide), qk hi (show (nmS s).length ≤ 9223372036854775807 by omega)]
  cases difS (getS b x) (getS a x) <;> rfl
 ·show gQ5f b a (nmS s) _ = _
  simp only [gQ5f, decide_eq_false (show ¬ ((nmS s).length : Int) < (nmS s).length by omega), cond_false]
noncomputable def rpS (s : SchemaG) (b a : Val) : List ByteArray := (chS s b a).filter fun n => (qf n s.attrs).1.replace || (q11 n s.nested).1.replace
theorem q9i {s : SchemaG} (h : NamesOk s) (hf : q2a s) {b a : Val} (hb : Mok b) (ha : Mok a) : gQ66 s b a = some (rpS s b a) := by
 have hl := qa2 h b a
 have h1 := h.la
 have h2 := h.ln
 unfold gQ66
 rw [q7t h hf hb ha, Option.bind_some]
 refine qb4 (chS s b a) _ (fun l => l) (fun i x acc hi hx hacc => ?_) (fun acc => ?_)
 ·simp only [gQ67, decide_eq_true (show (i : Int) < (chS s b a).length by omega), cond_true, qc, hx, Option.bind_some, q7u s x (show s.attrs.length ≤ 9223372036854775807 by omega) (fun a ha => (hf.1.2 a ha).2.1), qq7 s x (show s.nested.length ≤ 9223372036854775807 by omega), qw acc x (m := 16) (n := 1001) (by decide) (by omega) (by decide), qk hi (show (chS s b a).length ≤ 9223372036854775807 by omega)]
  cases (qf x s.attrs).1.replace <;> cases (q11 x s.nested).1.replace <;> rfl
 ·simp only [gQ67, decide_eq_false (show ¬ ((chS s b a).length : Int) < (chS s b a).length by omega), cond_false]
def cfgS (s : SchemaG) (c : Val) (n : ByteArray) : Bool := !(qf n s.attrs).2 || (decide ((qf n s.attrs).1.mode = 1) || (decide ((qf n s.attrs).1.mode = 2) || (decide ((qf n s.attrs).1.mode = 4) && !decide ((getS c n).kind = 0))))
noncomputable def chg (s : SchemaG) (prior c : Val) (n : ByteArray) : Bool := cfgS s c n && difS (getS c n) (getS prior n)
noncomputable def anyC (s : SchemaG) (prior c : Val) : Bool := (nmS s).any (chg s prior c)
noncomputable def valP (s : SchemaG) (prior c : Val) (n : ByteArray) : Val :=
 if cfgS s c n = true then getS c n else if prior.kind = 0 then vU else if anyC s prior c = true ∧ (qf n s.attrs).1.volatile = true then vU else getS prior n
noncomputable def q1u (s : SchemaG) (prior c : Val) : Val := Val.mk 5 0 eS ((nmS s).map (valP s prior c)) (nmS s)
noncomputable def val1 (s : SchemaG) (prior c : Val) (n : ByteArray) : Val := if cfgS s c n = true then getS c n else if prior.kind = 0 then vU else getS prior n
def volP (s : SchemaG) (prior c : Val) (n : ByteArray) : Bool := !cfgS s c n && (!decide (prior.kind = 0) && (qf n s.attrs).1.volatile)
theorem qvj (s : SchemaG) (prior c : Val) (n : ByteArray) : valP s prior c n = if anyC s prior c = true ∧ volP s prior c n = true then vU else val1 s prior c n := by
 unfold valP val1 volP
 by_cases h1 : cfgS s c n = true
 ·rw [if_pos h1, if_neg (by rw [h1]; simp), if_pos h1]
 ·rw [if_neg h1, if_neg h1]
  by_cases h2 : prior.kind = 0
  ·rw [if_pos h2, if_pos h2]; split <;> rfl
  ·rw [if_neg h2, if_neg h2]
   have e : (!cfgS s c n && (!decide (prior.kind = 0) && (qf n s.attrs).1.volatile)) = (qf n s.attrs).1.volatile := by
    rw [decide_eq_false h2, Bool.eq_false_iff.2 h1]; simp
   rw [e]
theorem qra {s : SchemaG} (hs : SVal s) (c : Val) (n : ByteArray) : cfgS s c n = (!(qf n s.attrs).2 || !(decide ((qf n s.attrs).1.mode = 3) || (decide ((qf n s.attrs).1.mode = 4) && decide ((getS c n).kind = 0)))) := by
 unfold cfgS
 cases h : (qf n s.attrs).2 with
 | false => rfl
 | true =>
  have hm := (hs.ok.attrs.1 _ (qac h).1).1
  rcases (show (qf n s.attrs).1.mode = 1 ∨ (qf n s.attrs).1.mode = 2 ∨ (qf n s.attrs).1.mode = 3 ∨ (qf n s.attrs).1.mode = 4 by have := hm.2.2.1; have := hm.2.2.2.1; omega) with k | k | k | k <;> rw [k] <;> cases decide ((getS c n).kind = 0) <;> rfl
theorem qmn {s : SchemaG} (hs : SVal s) {prior c : Val} (hp : Mok prior) (hc : Mok c) (i : Nat) (hi : i < (nmS s).length) (x : ByteArray) (hx : (nmS s)[i]? = some x) (ch : Bool) (vs : List Val) (ks : List ByteArray) (vo : List Int) (h1 : vs.length = i) (h2 : ks.length = i) (h3 : vo.length ≤ i) :
  gQ63 s prior c (nmS s) ((i : Int), ch, vs, ks, vo) = some (.inl (((i + 1 : Nat) : Int), ch || chg s prior c x, vs ++ [val1 s prior c x], ks ++ [x], if volP s prior c x then vo ++ [(i : Int)] else vo)) := by
 have hl := q5e hs.names
 have hla := hs.few.la
 have a1 := qw ks x (m := 16) (n := 1001) (by decide) (by omega) (by decide)
 have a2 : ∀ y : Val, app 80 vs [y] = some (vs ++ [y]) := fun y => qw vs y (m := 80) (n := 1001) (by decide) (by omega) (by decide)
 have a3 := qw vo (i : Int) (m := 8) (n := 1001) (by decide) (by omega) (by decide)
 have hm := qra hs c x
 simp only [gQ63, decide_eq_true (show (i : Int) < (nmS s).length by omega), cond_true, qc, hx, Option.bind_some, q5w hc, q5w hp, q7u s x (show s.attrs.length ≤ 9223372036854775807 by omega) (fun a ha => (hs.fits.1.2 a ha).2.1), qho (q37 hc x) (q37 hp x), a1, a2, a3, gQ9w, qk hi (show (nmS s).length ≤ 9223372036854775807 by omega)]
 unfold val1 volP chg
 rw [hm]
 generalize difS (getS c x) (getS prior x) = df
 cases (qf x s.attrs).2 with
 | false => cases ch <;> simp
 | true =>
  cases decide ((qf x s.attrs).1.mode = 3) with
  | true =>
   by_cases hk : prior.kind = 0
   ·simp [hk, vU]
   ·cases (qf x s.attrs).1.volatile <;> simp [hk]
  | false =>
   cases decide ((qf x s.attrs).1.mode = 4) with
   | false => cases ch <;> simp
   | true =>
    by_cases hk0 : (getS c x).kind = 0
    ·by_cases hk : prior.kind = 0
     ·simp [hk0, hk, vU]
     ·cases (qf x s.attrs).1.volatile <;> simp [hk0, hk]
    ·cases ch <;> simp [hk0]
theorem qc7 {s : SchemaG} (hs : SVal s) {prior c : Val} (hp : Mok prior) (hc : Mok c) : gQ62 s prior c = some (q1u s prior c) := by
 have h := hs.names
 have hl := q5e h
 unfold gQ62
 rw [qei h hs.fits, Option.bind_some]
 show qb (gQ63 s prior c (nmS s)) (0, false, [], [], []) = _
 -- the second loop
 have L2 : ∀ vo : List Int, (∀ x ∈ vo, ∃ j : Nat, x = (j : Int) ∧ ∃ n, (nmS s)[j]? = some n ∧ volP s prior c n = true) → (∀ (j : Nat) n, (nmS s)[j]? = some n → volP s prior c n = true → (j : Int) ∈ vo) → vo.length ≤ 140 →
   ∀ st : Int × Bool × List Val × List ByteArray × List Int, st.2.2.2.2 = vo → st.2.2.2.1 = nmS s → qb (gQ64 st) (anyC s prior c, 0, (nmS s).map (val1 s prior c)) = some (.inr (q1u s prior c)) := by
  intro vo v1 v2 v3 st e1 e2
  have := q13 (body := gQ64 st) (fun x => ∃ (k : Nat) (items : List Val), x = (anyC s prior c, (k : Int), items) ∧ k ≤ vo.length ∧ items.length = (nmS s).length ∧ ∀ (j : Nat) n, (nmS s)[j]? = some n → items[j]? = some (if anyC s prior c = true ∧ (j : Int) ∈ vo.take k then vU else val1 s prior c n)) (fun x => vo.length - x.2.1.toNat) (fun q => q = .inr (q1u s prior c)) (by
   rintro x ⟨k, items, rfl, hk, hlen, hit⟩
   rcases Nat.eq_or_lt_of_le hk with h0 | h0
   ·subst h0
    refine .inr ⟨.inr (Val.mk 5 0 eS items (nmS s)), by simp only [gQ64, e1, decide_eq_false (show ¬ (vo.length : Int) < vo.length by omega), cond_false, e2], ?_⟩
    have : items = (nmS s).map (valP s prior c) := by
     apply List.ext_getElem?
     intro j
     rcases Nat.lt_or_ge j (nmS s).length with hj | hj
     ·have hn := List.getElem?_eq_getElem hj
      rw [hit j _ hn, List.getElem?_map, hn, Option.map_some, qvj, List.take_length]
      congr 1
      by_cases ha : anyC s prior c = true
      ·by_cases hv : volP s prior c (nmS s)[j] = true
       ·rw [if_pos ⟨ha, v2 j _ hn hv⟩, if_pos ⟨ha, hv⟩]
       ·rw [if_neg, if_neg (fun q => hv q.2)]
        rintro ⟨_, hm⟩
        obtain ⟨j', e, n, hn', hv'⟩ := v1 _ hm
        obtain rfl : j = j' := by omega
        rw [hn] at hn'; cases hn'
        exact hv hv'
      ·rw [if_neg (fun q => ha q.1), if_neg (fun q => ha q.1)]
     ·rw [List.getElem?_eq_none (by omega), List.getElem?_eq_none (by rw [List.length_map]; omega)]
    rw [this]; rfl
   ·have hx := List.getElem?_eq_getElem h0
    obtain ⟨j, ej, n, hn, hv⟩ := v1 _ (List.getElem_mem h0)
    have hj : j < (nmS s).length := (List.getElem?_eq_some_iff.1 hn).1
    have hij := List.getElem?_eq_getElem (show j < items.length by omega)
    have hw := qk h0 (show vo.length ≤ 9223372036854775807 by omega)
    left
    cases ha : anyC s prior c with
    | false =>
     refine ⟨(false, ((k + 1 : Nat) : Int), items), by simp only [gQ64, e1, decide_eq_true (show (k : Int) < vo.length by omega), cond_true, qc, hx, Option.bind_some, cond_false, hw], ⟨k + 1, items, by rw [← ha], h0, hlen, fun j n hn => ?_⟩, by simp only [Int.toNat_natCast]; omega⟩
     rw [hit j n hn, if_neg (fun q => by rw [ha] at q; cases q.1), if_neg (fun q => by cases q.1)]
    | true =>
     refine ⟨(true, ((k + 1 : Nat) : Int), upd items (j : Int) vU), by simp only [gQ64, e1, decide_eq_true (show (k : Int) < vo.length by omega), cond_true, qc, hx, ej, hij, Option.bind_some, gQ9w, hw, vU], ⟨k + 1, _, by rw [← ha], h0, by rw [q4c]; exact hlen, fun j' n' hn' => ?_⟩, by simp only [Int.toNat_natCast]; omega⟩
     have tk : ((j' : Int) ∈ vo.take (k + 1)) ↔ ((j' : Int) ∈ vo.take k ∨ j' = j) := by
      rw [List.take_succ_eq_append_getElem h0, List.mem_append, List.mem_singleton, ej]
      exact or_congr Iff.rfl (by omega)
     unfold upd
     rw [Int.toNat_natCast]
     by_cases hjj : j' = j
     ·subst hjj
      rw [List.getElem?_set_self (by omega), if_pos ⟨rfl, tk.2 (.inr rfl)⟩]
     ·rw [List.getElem?_set_ne (by omega), hit j' n' hn', ha]
      congr 1
      by_cases hm : (j' : Int) ∈ vo.take k
      ·rw [if_pos ⟨rfl, hm⟩, if_pos ⟨rfl, tk.2 (.inl hm)⟩]
      ·rw [if_neg (fun q => hm q.2), if_neg (fun q => (tk.1 q.2).elim hm hjj)]) (anyC s prior c, 0, (nmS s).map (val1 s prior c)) ⟨0, _, rfl, Nat.zero_le _, by simp, fun j n hn => by
    rw [List.getElem?_map, hn, List.take_zero, if_neg (fun q => absurd q.2 List.not_mem_nil)]; rfl⟩
  obtain ⟨q, hq, rfl⟩ := this
  exact hq
 have := q13 (body := gQ63 s prior c (nmS s)) (fun x => ∃ (i : Nat) (vo : List Int), i ≤ (nmS s).length ∧ x = ((i : Int), ((nmS s).take i).any (chg s prior c), ((nmS s).take i).map (val1 s prior c), (nmS s).take i, vo) ∧ vo.length ≤ i ∧ (∀ x ∈ vo, ∃ j : Nat, x = (j : Int) ∧ ∃ n, (nmS s)[j]? = some n ∧ volP s prior c n = true) ∧ (∀ (j : Nat) n, j < i → (nmS s)[j]? = some n → volP s prior c n = true → (j : Int) ∈ vo)) (fun x => (nmS s).length - x.1.toNat) (fun q => q = q1u s prior c) (by
  rintro x ⟨i, vo, hi, rfl, hvl, v1, v2⟩
  rcases Nat.eq_or_lt_of_le hi with h0 | h0
  ·subst h0
   refine .inr ⟨_, ?_, rfl⟩
   simp only [gQ63, decide_eq_false (show ¬ ((nmS s).length : Int) < (nmS s).length by omega), cond_false]
   rw [List.take_length]
   exact L2 vo v1 (fun j n hn => v2 j n (List.getElem?_eq_some_iff.1 hn).1 hn) (by omega) _ rfl rfl
  ·have hx := List.getElem?_eq_getElem h0
   refine .inl ⟨_, qmn hs hp hc i h0 _ hx _ _ _ vo (by simp; omega) (by simp; omega) hvl, ⟨i + 1, (if volP s prior c (nmS s)[i] = true then vo ++ [(i : Int)] else vo), h0, ?_, ?_, ?_, ?_⟩, by simp only [Int.toNat_natCast]; omega⟩
   ·rw [List.take_succ_eq_append_getElem h0, List.any_append, List.map_append]
    simp only [List.any_cons, List.any_nil, Bool.or_false, List.map_cons, List.map_nil]
   ·split
    ·rw [List.length_append, List.length_singleton]; omega
    ·omega
   ·intro y hy
    split at hy
    ·rename_i hv
     rcases List.mem_append.1 hy with hy | hy
     ·exact v1 y hy
     ·obtain rfl := List.mem_singleton.1 hy
      exact ⟨i, rfl, _, hx, hv⟩
    ·exact v1 y hy
   ·intro j n hj hn hv
    rcases Nat.eq_or_lt_of_le (Nat.le_of_lt_succ hj) with rfl | hj
    ·rw [hx] at hn; cases hn
     rw [if_pos hv]
     exact List.mem_append_right _ (List.mem_singleton.2 rfl)
    ·have := v2 j n hj hn hv
     split
     ·exact List.mem_append_left _ this
     ·exact this) (0, false, [], [], []) ⟨0, [], Nat.zero_le _, by simp, Nat.le_refl _, fun x hx => absurd hx List.not_mem_nil, fun j n hj => by omega⟩
 obtain ⟨q, h, rfl⟩ := this
 exact h
end Abs
end Go.Proofs.YtkffpfapfljinaaGreatDoor
namespace Go.Proofs.YtkffpfapfljinaaGreatDoor
set_option linter.unusedSimpArgs false
set_option linter.unusedVariables false
namespace Abs
open Go.RowKit
theorem qea {v : Val} (h : v.Fits) : q28 v = some (qz v) := q2l h
theorem qun {k : Int} (h : 0 ≤ k ∧ k ≤ 3) : gQ2y (Ty.mk k [] []) = some true := by
 have : k = 0 ∨ k = 1 ∨ k = 2 ∨ k = 3 := by omega
 rcases this with rfl | rfl | rfl | rfl <;> rfl
theorem qf2 {k : Int} (h : 0 ≤ k ∧ k ≤ 3) (lv : Int) (hl : lv ≤ 32) : tQac (Ty.mk k [] []) lv = some 0 := by
 rw [qa3]
 unfold gQ2o
 rw [decide_eq_false (show ¬ lv > 32 by omega), cond_false, qun h, Option.bind_some, Bool.not_true, cond_false]
 refine q2d ?_
 unfold gQ2p
 rw [decide_eq_false (by simp), cond_false]
 refine q2d ?_
 unfold gQ2q
 rw [decide_eq_false (by simp), cond_false]
def sN : ByteArray := ⟨#[110]⟩
def sNm : ByteArray := ⟨#[110, 97, 109, 101]⟩
def tTx : Ty := Ty.mk 3 [] []
def tNu : Ty := Ty.mk 2 [] []
def exA : AttrG := AttrG.mk sId tTx 3 false false false
def exB : AttrG := AttrG.mk sN tNu 2 false false false
def exC : AttrG := AttrG.mk sNm tTx 1 true false false
def exS : SchemaG := SchemaG.mk [exA, exB, exC] []
theorem q8i : Op.bytesLess sId.toList sN.toList = true := by rw [ByteArray.toList_eq, ByteArray.toList_eq]; decide
theorem q8j : Op.bytesLess sN.toList sNm.toList = true := by rw [ByteArray.toList_eq, ByteArray.toList_eq]; decide
theorem qe7 : Op.bytesLess sId.toList sNm.toList = true := q3p q8i q8j
theorem id_id : q2q sId = true := by decide +kernel
theorem id_n : q2q sN = true := by decide +kernel
theorem id_nm : q2q sNm = true := by decide +kernel
theorem qns : gQ2k (Ty.mk 6 [tTx, tNu, tTx] [sId, sN, sNm]) = some 0 := by
 unfold gQ2k
 rw [qa3]
 unfold gQ2o
 have w0 : IntKind.i64.wrap (0 + 1) = 1 := by decide
 have w1 : IntKind.i64.wrap (1 + 1) = 2 := by decide
 have w2 : IntKind.i64.wrap (2 + 1) = 3 := by decide
 have p1 : IntKind.i64.wrap (1 - 1) = 0 := by decide
 have p2 : IntKind.i64.wrap (2 - 1) = 1 := by decide
 have s1 : gQ22 sId = some true := by rw [q72 _ (by decide), id_id]
 have s2 : gQ22 sN = some true := by rw [q72 _ (by decide), id_n]
 have s3 : gQ22 sNm = some true := by rw [q72 _ (by decide), id_nm]
 have c1 : tQac tTx 2 = some 0 := qf2 (by decide) 2 (by decide)
 have c2 : tQac tNu 2 = some 0 := qf2 (by decide) 2 (by decide)
 have r1 : relT tTx (Ty.mk 6 [tTx, tNu, tTx] [sId, sN, sNm]) := by simp [relT, Ty.elems_mk]
 have r2 : relT tNu (Ty.mk 6 [tTx, tNu, tTx] [sId, sN, sNm]) := by simp [relT, Ty.elems_mk]
 rw [decide_eq_false (by decide), cond_false, show gQ2y (Ty.mk 6 [tTx, tNu, tTx] [sId, sN, sNm]) = some true from rfl, Option.bind_some, Bool.not_true, cond_false]
 have i0 : idx [sId, sN, sNm] 0 = some sId := rfl
 have i1 : idx [sId, sN, sNm] 1 = some sN := rfl
 have i2 : idx [sId, sN, sNm] 2 = some sNm := rfl
 have j0 : idx [tTx, tNu, tTx] 0 = some tTx := rfl
 have j1 : idx [tTx, tNu, tTx] 1 = some tNu := rfl
 have j2 : idx [tTx, tNu, tTx] 2 = some tTx := rfl
 have d0 : (decide ((0 : Int) < (([tTx, tNu, tTx] : List Ty).length : Int))) = true := by decide
 have d1 : (decide ((1 : Int) < (([tTx, tNu, tTx] : List Ty).length : Int))) = true := by decide
 have d2 : (decide ((2 : Int) < (([tTx, tNu, tTx] : List Ty).length : Int))) = true := by decide
 have d3 : (decide ((3 : Int) < (([tTx, tNu, tTx] : List Ty).length : Int))) = false := by decide
 have n0 : (decide ((0 : Int) < (([sId, sN, sNm] : List ByteArray).length : Int))) = true := by decide
 have n1 : (decide ((1 : Int) < (([sId, sN, sNm] : List ByteArray).length : Int))) = true := by decide
 have n2 : (decide ((2 : Int) < (([sId, sN, sNm] : List ByteArray).length : Int))) = true := by decide
 have n3 : (decide ((3 : Int) < (([sId, sN, sNm] : List ByteArray).length : Int))) = false := by decide
 rw [q3a (s' := 1) (by unfold gQ2p; simp only [Ty.names_mk, n0, cond_true, i0, s1, Option.bind_some, Bool.not_true, cond_false, w0]; rfl)]
 rw [q3a (s' := 2) (by unfold gQ2p; simp only [Ty.names_mk, n1, cond_true, i1, s2, Option.bind_some, Bool.not_true, cond_false, w1, p1, i0, q8i]; rfl)]
 rw [q3a (s' := 3) (by unfold gQ2p; simp only [Ty.names_mk, n2, cond_true, i2, s3, Option.bind_some, Bool.not_true, cond_false, w2, p2, i1, q8j]; rfl)]
 rw [q2d (q := 0)]
 ·rfl
 unfold gQ2p
 simp only [Ty.names_mk, n3, cond_false]
 rw [q3a (s' := 1) (by unfold gQ2q; simp only [Ty.elems_mk, d0, cond_true, j0, w1, if_pos r1, c1, Option.bind_some]; rfl)]
 rw [q3a (s' := 2) (by unfold gQ2q; simp only [Ty.elems_mk, d1, cond_true, j1, w1, if_pos r2, c2, Option.bind_some]; rfl)]
 rw [q3a (s' := 3) (by unfold gQ2q; simp only [Ty.elems_mk, d2, cond_true, j2, w1, if_pos r1, c1, Option.bind_some]; rfl)]
 refine q2d ?_
 unfold gQ2q
 rfl
theorem qd2 {a : AttrG} (h : a ∈ exS.attrs) : a = exA ∨ a = exB ∨ a = exC := by simpa [exS] using h
theorem qaa : q2a exS := by
 refine ⟨⟨by decide, fun y hy => ?_⟩, ⟨by decide, fun y hy => absurd hy List.not_mem_nil⟩⟩
 rcases qd2 hy with rfl | rfl | rfl
 ·exact ⟨by decide, (q6d (by decide)).1, by decide, trivial, trivial, trivial⟩
 ·exact ⟨by decide, (q6d (by decide)).1, by decide, trivial, trivial, trivial⟩
 ·exact ⟨by decide, (q6d (by decide)).1, by decide, trivial, trivial, trivial⟩
theorem qez {k : Int} (h : 0 ≤ k ∧ k ≤ 3) : gQ2k (Ty.mk k [] []) = some 0 := by
 unfold gQ2k
 rw [qf2 h 1 (by decide)]; rfl
theorem q5t : SVal exS where
 fits := qaa
 few := {
  la := by decide
  fa := fun a ha => by
   rcases qd2 ha with rfl | rfl | rfl
   ·exact ⟨by decide, (q6d (by decide)).2.1⟩
   ·exact ⟨by decide, (q6d (by decide)).2.1⟩
   ·exact ⟨by decide, (q6d (by decide)).2.1⟩
  ln := by decide
  fn := fun n hn => absurd hn List.not_mem_nil }
 ok := {
  la := by decide
  ln := by decide
  attrs := by
   refine ⟨fun a ha => ⟨?_, fun h => by cases h⟩, ?_⟩
   ·rcases qd2 ha with rfl | rfl | rfl
    ·exact ⟨id_id, qez (by decide), by decide, by decide, fun h => by cases h⟩
    ·exact ⟨id_n, qez (by decide), by decide, by decide, fun h => by cases h⟩
    ·exact ⟨id_nm, qez (by decide), by decide, by decide, fun h => by cases h⟩
   ·refine List.pairwise_cons.2 ⟨fun a ha => ?_, List.pairwise_cons.2 ⟨fun a ha => ?_, List.pairwise_singleton _ _⟩⟩
    ·have : a = exB ∨ a = exC := by simpa using ha
     rcases this with rfl | rfl
     ·exact q8i
     ·exact qe7
    ·have : a = exC := by simpa using ha
     subst this; exact q8j
  kinds := fun i n h => by simp [exS] at h
  has := by decide +kernel
  mode := by decide +kernel
  kind := by decide +kernel
  vol := by decide +kernel
  type := qns }
def s5 : ByteArray := ⟨#[53]⟩
def s1 : ByteArray := ⟨#[49]⟩
def sX : ByteArray := ⟨#[120]⟩
def sY : ByteArray := ⟨#[121]⟩
def v3 (a b c : Val) : Val := Val.mk 5 0 eS [a, b, c] [sId, sN, sNm]
theorem text_5 : vtext s5 = 0 := by decide
theorem qlz : vtext s1 = 0 := by decide
theorem qbr : vtext sX = 0 := by decide
theorem text_y : vtext sY = 0 := by decide
theorem qad {a b c : Val} (ha : a.Fits) (hb : b.Fits) (hc : c.Fits) : (v3 a b c).Fits :=
 q63 (by decide) (by simp) (by simp) (fun s hs => by
  have : s = sId ∨ s = sN ∨ s = sNm := by simpa using hs
  rcases this with rfl | rfl | rfl <;> decide) (fun x hx => by
  have : x = a ∨ x = b ∨ x = c := by simpa using hx
  rcases this with rfl | rfl | rfl <;> assumption)
theorem qu5 : Rising [sId, sN, sNm] := q6b (List.pairwise_cons.2 ⟨fun a ha => by
 have : a = sN ∨ a = sNm := by simpa using ha
 rcases this with rfl | rfl
 ·exact q8i
 ·exact qe7, List.pairwise_cons.2 ⟨fun a ha => by
  have : a = sNm := by simpa using ha
  subst this; exact q8j, List.pairwise_singleton _ _⟩⟩)
theorem qeg {a b c : Val} (ha : a.Fits) (hb : b.Fits) (hc : c.Fits) : Mok (v3 a b c) := ⟨qad ha hb hc, fun _ => rfl, qu5⟩
theorem get_id (a b c : Val) : getS (v3 a b c) sId = a := by kernel_rfl
theorem get_n (a b c : Val) : getS (v3 a b c) sN = b := by kernel_rfl
theorem qil (a b c : Val) : getS (v3 a b c) sNm = c := by kernel_rfl
theorem nm_ex : nmS exS = [sId, sN, sNm] := rfl
theorem qrk : q2e gQ0f (vText s5) = (vNum 5, 0) := by
 unfold q2e gQ0f
 rw [decide_eq_false (show ¬ (vText s5).kind = 2 by decide), decide_eq_true (show (vText s5).kind = 3 by decide)]
 simp only [cond_false, Bool.not_true]
 rw [show q5c (vText s5).str = some (5, 0) by unfold q5c; rw [q2l (by decide)]; decide]
 rfl
theorem qfp (t : Ty) : toE vZ t = (vZ, 0) := by
 have h : toS t vZ = (vZ, 0) := by rw [q97, if_pos (.inr (.inl rfl))]
 rw [qfo (by rw [h]) (by rw [h]; exact q6w qfx.node), h]
theorem qv7 : toE (vText s5) tNu = (vNum 5, 0) := by
 have h : toS tNu (vText s5) = (vNum 5, 0) := by unfold tNu; rw [qv9 _ (by decide) (by decide), qrk]
 rw [qfo (by rw [h]) (by rw [h]; exact q6w (qk3 (by decide))), h]
theorem qv8 {s : ByteArray} (h : vtext s = 0) (hs : s.size ≤ 4096) : toE (vText s) tTx = (vText s, 0) := by
 have h2 : toS tTx (vText s) = (vText s, 0) := qva _ _ (q6d (by decide)) (q4z h hs) (.prim (.inr (.inr rfl)) rfl)
 rw [qfo (by rw [h2]) (by rw [h2]; exact q6w (qk4 h)), h2]
def v2 : Val := Val.mk 5 0 eS [vText s5, vText sX] [sN, sNm]
theorem out_ex (a b c : Val) : outV exS [a, b, c] = v3 a b c := by
 have h := qdf (ks := allN exS) (vs := [a, b, c]) rfl (q9r q5t.names)
 have hs : SP ([(sId, a), (sN, b), (sNm, c)] : List (ByteArray × Val)) := by
  refine List.pairwise_cons.2 ⟨fun p hp => ?_, List.pairwise_cons.2 ⟨fun p hp => ?_, List.pairwise_singleton _ _⟩⟩
  ·have : p = (sN, b) ∨ p = (sNm, c) := by simpa using hp
   rcases this with rfl | rfl
   ·exact q8i
   ·exact qe7
  ·have : p = (sNm, c) := by simpa using hp
   subst this; exact q8j
 have e := qbp h.1 hs h.2.1
 show q2h (q1i [] ((allN exS).zip [a, b, c])) = _
 rw [e]; rfl
theorem qny : qz v2 = 0 := by decide +kernel
theorem qnz : qz (v3 vZ (vNum 5) (vText sX)) = 0 := by decide +kernel
theorem qnv : qz (Val.mk 5 0 eS [] []) = 0 := by decide +kernel
theorem qp1 : v2.Fits := q63 (by decide) (by decide) (by decide) (fun s hs => by
  have : s = sN ∨ s = sNm := by simpa [v2] using hs
  rcases this with rfl | rfl <;> decide) (fun x hx => by
  have : x = vText s5 ∨ x = vText sX := by simpa [v2] using hx
  rcases this with rfl | rfl
  ·exact (q4z text_5 (by decide)).1
  ·exact (q4z qbr (by decide)).1)
theorem q8p {a : AttrG} {x y : Val} (h1 : ¬ (a.mode = 1 ∧ x.kind = 0)) (h2 : ¬ (a.mode = 3 ∧ x.kind ≠ 0)) (h : toE x a.type_ = (y, 0)) : oneX a x = .inl y := by
 unfold oneX
 rw [if_neg h1, if_neg h2, h, if_pos rfl]
theorem qo5 : q21 exS v2 = (v3 vZ (vNum 5) (vText sX), DiagG.mk 0 0 eS) := by
 have g1 : getS v2 sId = vZ := by kernel_rfl
 have g2 : getS v2 sN = vText s5 := by kernel_rfl
 have g3 : getS v2 sNm = vText sX := by kernel_rfl
 have a1 : fA v2 exA = .inl vZ := by
  show tagD sId (oneX exA (getS v2 sId)) = _
  rw [g1, q8p (by decide) (by decide) (qfp _)]; rfl
 have a2 : fA v2 exB = .inl (vNum 5) := by
  show tagD sN (oneX exB (getS v2 sN)) = _
  rw [g2, q8p (by decide) (by decide) qv7]; rfl
 have a3 : fA v2 exC = .inl (vText sX) := by
  show tagD sNm (oneX exC (getS v2 sNm)) = _
  rw [g3, q8p (by decide) (by decide) (qv8 qbr (by decide))]; rfl
 have hp : q1w exS v2 = .inl [vZ, vNum 5, vText sX] := by
  have he : q12 (fA v2) exS.attrs = .inl [vZ, vNum 5, vText sX] := by
   show q12 (fA v2) [exA, exB, exC] = _
   simp only [q12, a1, a2, a3]
  unfold q1w
  rw [he]; rfl
 unfold q21
 rw [if_neg (by rw [qny]; decide), if_neg (by decide), show v2.keys.find? (fun k => !known exS k) = none by decide +kernel]
 show q2c exS v2 = _
 unfold q2c
 rw [hp]
 show finS exS [vZ, vNum 5, vText sX] = _
 unfold finS
 rw [out_ex, if_pos qnz]
theorem qo6 : q21 exS (Val.mk 5 0 eS [] []) = (vZ, DiagG.mk 12 0 sNm) := by
 have g1 : ∀ k, getS (Val.mk 5 0 eS [] []) k = vZ := fun k => rfl
 have a1 : fA (Val.mk 5 0 eS [] []) exA = .inl vZ := by
  show tagD sId (oneX exA (getS _ sId)) = _
  rw [g1, q8p (by decide) (by decide) (qfp _)]; rfl
 have a2 : fA (Val.mk 5 0 eS [] []) exB = .inl vZ := by
  show tagD sN (oneX exB (getS _ sN)) = _
  rw [g1, q8p (by decide) (by decide) (qfp _)]; rfl
 have a3 : fA (Val.mk 5 0 eS [] []) exC = .inr (DiagG.mk 12 0 sNm) := by
  show tagD sNm (oneX exC (getS _ sNm)) = _
  rw [g1]; unfold oneX; rw [if_pos (by decide)]; rfl
 have hp : q1w exS (Val.mk 5 0 eS [] []) = .inr (DiagG.mk 12 0 sNm) := by
  have he : q12 (fA (Val.mk 5 0 eS [] [])) exS.attrs = .inr (DiagG.mk 12 0 sNm) := by
   show q12 (fA (Val.mk 5 0 eS [] [])) [exA, exB, exC] = _
   simp only [q12, a1, a2, a3]
  unfold q1w
  rw [he]
 unfold q21
 rw [if_neg (by rw [qnv]; decide), if_neg (by decide), show (Val.mk 5 0 eS [] []).keys.find? (fun k => !known exS k) = none from rfl]
 show q2c exS _ = _
 unfold q2c
 rw [hp]
theorem qt5 : q1u exS vZ (v3 vZ (vNum 5) (vText sX)) = v3 vU (vNum 5) (vText sX) := by
 have c1 : cfgS exS (v3 vZ (vNum 5) (vText sX)) sId = false := by kernel_rfl
 have c2 : cfgS exS (v3 vZ (vNum 5) (vText sX)) sN = true := by kernel_rfl
 have c3 : cfgS exS (v3 vZ (vNum 5) (vText sX)) sNm = true := by kernel_rfl
 have e1 : valP exS vZ (v3 vZ (vNum 5) (vText sX)) sId = vU := by unfold valP; rw [c1, if_neg (by decide), if_pos (by decide)]
 have e2 : valP exS vZ (v3 vZ (vNum 5) (vText sX)) sN = vNum 5 := by unfold valP; rw [c2, if_pos rfl, get_n]
 have e3 : valP exS vZ (v3 vZ (vNum 5) (vText sX)) sNm = vText sX := by unfold valP; rw [c3, if_pos rfl, qil]
 unfold q1u
 rw [nm_ex, List.map_cons, List.map_cons, List.map_cons, List.map_nil, e1, e2, e3]; rfl
theorem qtz : rpS exS (v3 (vText s1) (vNum 5) (vText sX)) (v3 (vText s1) (vNum 5) (vText sY)) = [sNm] := by
 have d1 : difS (vText s1) (vText s1) = false := qa6 (by decide)
 have d2 : difS (vNum 5) (vNum 5) = false := qa6 (by decide)
 have d3 : difS (vText sX) (vText sY) = true := by
  unfold difS
  have : eqB (vText sX) (vText sY) = false := by
   rw [Bool.eq_false_iff]
   intro h
   have := congrArg Val.str (q2u.1 h)
   exact absurd this (by decide)
  rw [this]; rfl
 have hc : chS exS (v3 (vText s1) (vNum 5) (vText sX)) (v3 (vText s1) (vNum 5) (vText sY)) = [sNm] := by
  unfold chS
  rw [nm_ex]
  simp only [List.filter_cons, List.filter_nil, get_id, get_n, qil, d1, d2, d3, if_true, if_false, Bool.false_eq_true]
 unfold rpS
 rw [hc]
 decide +kernel
theorem qnw : gQ5h (SchemaG.mk [] []) = some 12 := by
 obtain ⟨r, r1, _, r3⟩ := qch [] false (by decide) (fun a ha => absurd ha List.not_mem_nil)
 have h0 : r = 0 := r3.2 ⟨fun a ha => absurd ha List.not_mem_nil, List.Pairwise.nil⟩
 unfold gQ5h
 rw [decide_eq_false (by decide), cond_false, r1, h0, Option.bind_some, decide_eq_true rfl, Bool.not_true, cond_false]
 refine q2d ?_
 unfold gQ5i
 rw [decide_eq_false (by decide), cond_false, q7u _ _ (by decide) (fun a ha => absurd ha List.not_mem_nil), Option.bind_some]
 rfl
theorem quk : gQ5h exS = some 0 := by
 obtain ⟨r, r1, _, r3⟩ := qg3 exS qaa (by decide) (by decide)
 rw [r1, r3.2 q5t.ok]
theorem qmw : gQ5c exS (v3 vU (vNum 5) (vText sX)) (v3 (vText s1) (vNum 5) (vText sX)) = some true := by
 have ft : (vText s1).Fits := (q4z qlz (by decide)).1
 have fx : (vText sX).Fits := (q4z qbr (by decide)).1
 have fn : (vNum 5).Fits := (qm6 (by decide)).1
 have hf := qad ft fn fx
 unfold gQ5c
 rw [qea hf, show qz (v3 (vText s1) (vNum 5) (vText sX)) = 0 by decide +kernel, Option.bind_some, decide_eq_true rfl, cond_true, q8f _ hf, show q18 (v3 (vText s1) (vNum 5) (vText sX)) = true by kernel_rfl, Option.bind_some, cond_true, q7w _ q5t.names qaa, Option.bind_some]
 obtain ⟨q, h1, h2⟩ := qm4 (v3 (vText s1) (vNum 5) (vText sX)) (tyOf (typL exS)) hf
 have hq : q = true := h2.2 (.obj (by decide) rfl rfl rfl fun i x e hx he => by
  have hi : i < 3 := (List.getElem?_eq_some_iff.1 hx).1
  have : i = 0 ∨ i = 1 ∨ i = 2 := by omega
  rcases this with rfl | rfl | rfl
  ·cases hx; cases he; exact .prim (.inr (.inr rfl)) rfl
  ·cases hx; cases he; exact .prim (.inr (.inl rfl)) rfl
  ·cases hx; cases he; exact .prim (.inr (.inr rfl)) rfl)
 rw [h1, hq, Option.bind_some, cond_true]
 obtain ⟨p, k1, k2⟩ := qm7 (v3 (vText s1) (vNum 5) (vText sX)) (v3 vU (vNum 5) (vText sX)) hf
 have hp : p = true := k2.2 (.node rfl rfl rfl rfl rfl fun i x y hx hy => by
  have hi : i < 3 := (List.getElem?_eq_some_iff.1 hx).1
  have : i = 0 ∨ i = 1 ∨ i = 2 := by omega
  rcases this with rfl | rfl | rfl
  ·cases hx; cases hy; exact .unk rfl
  ·cases hx; cases hy; exact Refs.refl _
  ·cases hx; cases hy; exact Refs.refl _)
 rw [k1, hp]; rfl
theorem awake12 : gQ1e = some true := by
 have ft : (vText s1).Fits := (q4z qlz (by decide)).1
 have fx : (vText sX).Fits := (q4z qbr (by decide)).1
 have fy : (vText sY).Fits := (q4z text_y (by decide)).1
 have fn : (vNum 5).Fits := (qm6 (by decide)).1
 have y1 : gQ1h = some exS := rfl
 have y4 : gQ5k exS (Val.mk 5 0 eS [vText s5, vText sX] [sN, sNm]) = some (v3 vZ (vNum 5) (vText sX), DiagG.mk 0 0 eS) := by
  rw [← qo5]; exact q9e q5t qp1
 have y5 : gQ5k exS (Val.mk 5 0 eS [] []) = some (vZ, DiagG.mk 12 0 sNm) := by
  rw [q9e q5t (q63 (by decide) (by decide) (by decide) (fun s h => absurd h List.not_mem_nil) (fun s h => absurd h List.not_mem_nil)), qo6]
 have y6 : gQ62 exS vZ (v3 vZ (vNum 5) (vText sX)) = some (v3 vU (vNum 5) (vText sX)) := by
  rw [qc7 q5t (qbv.mok) (qeg q32 fn fx), qt5]
 have y13 : gQ66 exS (v3 (vText s1) (vNum 5) (vText sX)) (v3 (vText s1) (vNum 5) (vText sY)) = some [sNm] := by
  rw [q9i q5t.names qaa (qeg ft fn fx) (qeg ft fn fy), qtz]
 have e1 : tQa6 (v3 vZ (vNum 5) (vText sX)) (v3 vZ (vNum 5) (vText sX)) = some true := by rw [q69 (qad q32 fn fx), q2u.2 rfl]
 have e2 : tQa6 (v3 vU (vNum 5) (vText sX)) (v3 vU (vNum 5) (vText sX)) = some true := by rw [q69 (qad qfw fn fx), q2u.2 rfl]
 unfold gQ1e
 rw [y1, Option.bind_some]
 show ((gQ5k exS (Val.mk 5 0 eS [vText s5, vText sX] [sN, sNm])).bind fun y4 => _) = _
 rw [y4, Option.bind_some]
 show ((gQ5k exS (Val.mk 5 0 eS [] [])).bind fun y4 => _) = _
 rw [y5, Option.bind_some]
 show ((gQ62 exS vZ (v3 vZ (vNum 5) (vText sX))).bind fun y4 => _) = _
 rw [y6, Option.bind_some]
 show ((gQ66 exS (v3 (vText s1) (vNum 5) (vText sX)) (v3 (vText s1) (vNum 5) (vText sY))).bind fun y4 => _) = _
 rw [y13, Option.bind_some, quk, Option.bind_some, decide_eq_true rfl, cond_true, qnw, Option.bind_some, decide_eq_true rfl, cond_true]
 show ((tQa6 (v3 vZ (vNum 5) (vText sX)) (v3 vZ (vNum 5) (vText sX))).bind fun y4 => _) = _
 rw [e1, Option.bind_some, cond_true]
 show ((tQa6 (v3 vU (vNum 5) (vText sX)) (v3 vU (vNum 5) (vText sX))).bind fun y4 => _) = _
 rw [e2, Option.bind_some, cond_true]
 show ((gQ5c exS (v3 vU (vNum 5) (vText sX)) (v3 (vText s1) (vNum 5) (vText sX))).bind fun y4 => _) = _
 rw [qmw]; rfl
end Abs
end Go.Proofs.YtkffpfapfljinaaGreatDoor
namespace Go.Proofs.YtkffpfapfljinaaGreatDoor
set_option linter.unusedSimpArgs false
set_option linter.unusedVariables false
namespace Abs
open Go.RowKit
theorem q6c {v : Val} (hv : v.Fits) : ∃ b, gQ1p v = some b ∧ (b = true → Ck v) := by
 unfold gQ1p
 rw [show q79 v 150 = some (q4w v 150) from q2l ⟨hv, by decide, by decide⟩, Option.bind_some]
 cases q4w v 150 with
 | false => exact ⟨false, rfl, fun h => by cases h⟩
 | true =>
  rw [cond_true, qea hv, Option.bind_some]
  exact ⟨_, rfl, fun h => qcq hv (of_decide_eq_true h)⟩
end Abs
end Go.Proofs.YtkffpfapfljinaaGreatDoor
