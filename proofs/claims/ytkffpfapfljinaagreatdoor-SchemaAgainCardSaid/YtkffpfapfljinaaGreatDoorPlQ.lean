/-
  Two loops side by side; identifiers; the check of a type is the reference's.
  Schemas: copies of types, attributes by name, the type of a schema, the check of a schema.
  The type of a schema, in the program and in the reference.
  The check of a schema is the reference's; what a valid schema is.
  value.Map of pairs with different keys, and the reference's Put: the pairs by ascending keys.
  The configuration of a schema, completed and converted: the program's is the reference's.
  Coerce: the program's is the reference's.
  Propose, Changed and Replaced: the program's are the reference's.
  The example of the chapter: what its functions return there.
  The laws of checks, finds, coercion, proposals and changes.
  A configuration that is coerced is coerced to itself, and conforms to the type of its schema.
  The law of plans: what is accepted, and what a plan keeps.
-/
import Derived.Test.YtkffpfapfljinaaGreatDoorPlL
namespace Go.Proofs.YtkffpfapfljinaaGreatDoor
set_option linter.unusedSimpArgs false
set_option linter.unusedVariables false
namespace Abs
open Go.RowKit
theorem loop_rel {S1 S2 O1 O2 : Type} {b1 : S1 → Option (S1 ⊕ O1)} {b2 : S2 → Option (S2 ⊕ O2)} (R : S1 → S2 → Prop) (μ : S1 → Nat) (Q : O1 → O2 → Prop)
  (step : ∀ s t, R s t → (∃ s' t', b1 s = some (.inl s') ∧ b2 t = some (.inl t') ∧ R s' t' ∧ μ s' < μ s) ∨ ∃ p q, b1 s = some (.inr p) ∧ b2 t = some (.inr q) ∧ Q p q) : ∀ s t, R s t → ∃ p q, loopO b1 s = some p ∧ loopO b2 t = some q ∧ Q p q := by
 have key : ∀ n s t, μ s < n → R s t → ∃ p q, loopO b1 s = some p ∧ loopO b2 t = some q ∧ Q p q := by
  intro n
  induction n with
  | zero => intro s t h; omega
  | succ n ih =>
   intro s t h hr
   rcases step s t hr with ⟨s', t', h1, h2, h3, h4⟩ | ⟨p, q, h1, h2, h3⟩
   ·rw [loop_next h1, loop_next h2]; exact ih s' t' (by omega) h3
   ·exact ⟨p, q, loop_done h1, loop_done h2, h3⟩
 exact fun s t hr => key _ s t (Nat.lt_succ_self _) hr
theorem ba_ext {a b : ByteArray} (h : a.toList = b.toList) : a = b := by
 rw [ByteArray.toList_eq, ByteArray.toList_eq] at h
 obtain ⟨⟨x⟩⟩ := a
 obtain ⟨⟨y⟩⟩ := b
 simp at h
 subst h; rfl
theorem less_total (a b : List UInt8) : Op.bytesLess a b = true ∨ a = b ∨ Op.bytesLess b a = true := by
 cases h : Op.bytesLess a b with
 | true => exact .inl rfl
 | false =>
  cases k : Op.bytesLess b a with
  | true => exact .inr (.inr rfl)
  | false => exact .inr (.inl (bl_total h k))
theorem less_asymm {a b : List UInt8} (h : Op.bytesLess a b = true) : Op.bytesLess b a = false := by
 cases k : Op.bytesLess b a with
 | false => rfl
 | true => have := less_trans h k; rw [less_irrefl] at this; cases this
theorem leq_not (x y : ByteArray) : (Op.bytesLess x.toList y.toList || decide (x = y)) = !Op.bytesLess y.toList x.toList := by
 rcases less_total x.toList y.toList with h | h | h
 ·rw [h, less_asymm h]; rfl
 ·have := ba_ext h
  subst this
  simp [less_irrefl]
 ·rw [h, less_asymm h]
  have : x ≠ y := fun e => by subst e; rw [less_irrefl] at h; cases h
  simp [this]
def letB (n : Nat) : Bool := decide (97 ≤ n ∧ n ≤ 122) || (decide (65 ≤ n ∧ n ≤ 90) || decide (n = 95))
def digB (n : Nat) : Bool := decide (48 ≤ n ∧ n ≤ 57)
theorem letter_eq (n : Nat) : gQ27 (n : Int) = some (letB n) := by
 unfold gQ27 letB
 by_cases h1 : 97 ≤ n <;> by_cases h2 : n ≤ 122 <;> by_cases h3 : 65 ≤ n <;> by_cases h4 : n ≤ 90 <;>
  simp [h1, h2, h3, h4, show ((n : Int) ≥ 97) = (97 ≤ n) by apply propext; omega, show ((n : Int) ≤ 122) = (n ≤ 122) by apply propext; omega, show ((n : Int) ≥ 65) = (65 ≤ n) by apply propext; omega, show ((n : Int) ≤ 90) = (n ≤ 90) by apply propext; omega, show ((n : Int) = 95) = (n = 95) by apply propext; omega]
def up (n : Nat) : Int := IntKind.u8.wrap ((BitVec.ofInt IntKind.u8.bits (n : Int) ||| BitVec.ofInt IntKind.u8.bits 32).toNat : Int)
theorem up_let : ∀ n : Nat, n < 256 → ((97 ≤ up n ∧ up n ≤ 122) ↔ (97 ≤ n ∧ n ≤ 122 ∨ 65 ≤ n ∧ n ≤ 90)) := by decide +kernel
def identS (s : ByteArray) : Bool := decide (0 < s.size ∧ s.size ≤ 64 ∧ letB (s.data.getD 0 0).toNat = true ∧ ∀ i, i < s.size → letB (s.data.getD i 0).toNat = true ∨ digB (s.data.getD i 0).toNat = true)
theorem byte_at {s : ByteArray} {i : Nat} (h : i < s.size) : s[i] = s.data.getD i 0 := by
 have : i < s.data.size := h
 simp [Array.getD]
 rw [dif_pos h]; rfl
theorem size_pos {s : ByteArray} (h : s ≠ eS) : 0 < s.size := by
 rcases Nat.eq_zero_or_pos s.size with k | k
 ·exact absurd (ByteArray.ext (Array.eq_empty_of_size_eq_zero k)) h
 ·exact k
theorem ident_ref (s : ByteArray) (hs : s.size ≤ 140737488351232) : gQ24 s = some (identS s) := by
 unfold gQ24
 by_cases h0 : s = eS
 ·rw [decide_eq_true h0, cond_true]; subst h0; rfl
 have hp := size_pos h0
 rw [decide_eq_false h0, cond_false]
 by_cases h64 : (s.size : Int) > 64
 ·rw [decide_eq_true h64, cond_true]; unfold identS; rw [decide_eq_false (fun h => by omega)]
 rw [decide_eq_false h64, cond_false, show sidx s 0 = sidx s ((0 : Nat) : Int) from rfl, sidx_nat hp, Option.bind_some, letter_eq, Option.bind_some]
 by_cases hl : letB (s.data.getD 0 0).toNat = true
 rotate_left
 ·rw [byte_at hp, Bool.eq_false_iff.2 hl, Bool.not_false, cond_true]; unfold identS; rw [decide_eq_false (fun h => hl h.2.2.1)]
 rw [byte_at hp, hl, Bool.not_true, cond_false]
 have step : ∀ i : Nat, i < s.size → ((letB (s.data.getD i 0).toNat = true ∨ digB (s.data.getD i 0).toNat = true) ∧ gQ25 s (i : Int) = some (.inl (IntKind.i64.wrap ((i : Int) + 1)))) ∨ (¬ (letB (s.data.getD i 0).toNat = true ∨ digB (s.data.getD i 0).toNat = true) ∧ gQ25 s (i : Int) = some (.inr false)) := by
  intro i hi
  unfold gQ25
  rw [decide_eq_true (show (i : Int) < s.size by omega), cond_true]
  simp only [sidx_nat hi, Option.bind_some, letter_eq, byte_at hi]
  generalize (s.data.getD i 0).toNat = n
  cases h : letB n with
  | true => left; simp
  | false =>
   by_cases h1 : (n : Int) < 48
   ·right; unfold digB; simp [h1]; omega
   by_cases h2 : (n : Int) > 57
   ·right; unfold digB; simp [h1, h2]; omega
   ·left; unfold digB; simp [h1, h2]; omega
 rcases loop_ask s.size _ true false (by omega) step (by unfold gQ25; rw [decide_eq_false (by omega), cond_false]) with ⟨h1, h2⟩ | ⟨h1, i, h2, h3⟩
 ·rw [h1]; unfold identS; rw [decide_eq_true ⟨hp, by omega, hl, h2⟩]
 ·rw [h1]; unfold identS; rw [decide_eq_false fun h => h3 (h.2.2.2 i h2)]
theorem ident_prog (s : ByteArray) (hs : s.size ≤ 140737488351232) : gQ00 s = some (identS s) := by
 unfold gQ00
 have step : ∀ i : Nat, i < s.size → ((letB (s.data.getD i 0).toNat = true ∨ i ≠ 0 ∧ digB (s.data.getD i 0).toNat = true) ∧ gQ01 s (i : Int) = some (.inl (IntKind.i64.wrap ((i : Int) + 1)))) ∨ (¬ (letB (s.data.getD i 0).toNat = true ∨ i ≠ 0 ∧ digB (s.data.getD i 0).toNat = true) ∧ gQ01 s (i : Int) = some (.inr false)) := by
  intro i hi
  unfold gQ01
  rw [decide_eq_true (show (i : Int) < s.size by omega), cond_true]
  simp only [sidx_nat hi, Option.bind_some, byte_at hi]
  have hb : (s.data.getD i 0).toNat < 256 := UInt8.toNat_lt _
  generalize (s.data.getD i 0).toNat = n at hb ⊢
  have hu := up_let n hb
  have e : (IntKind.u8.wrap ((BitVec.ofInt IntKind.u8.bits (n : Int) ||| BitVec.ofInt IntKind.u8.bits 32).toNat : Int)) = up n := rfl
  rw [e]
  unfold letB digB
  generalize up n = u at hu ⊢
  clear e
  by_cases h95 : n = 95
  ·left; subst h95; simp
  have h95' : ¬ (n : Int) = 95 := by omega
  by_cases hL : 97 ≤ n ∧ n ≤ 122 ∨ 65 ≤ n ∧ n ≤ 90
  ·obtain ⟨u1, u2⟩ := hu.2 hL
   left
   simp only [decide_eq_false h95', Bool.not_false, cond_true, decide_eq_false (show ¬ u < 97 by omega), cond_false, decide_eq_false (show ¬ u > 122 by omega)]
   refine ⟨.inl ?_, trivial⟩
   rcases hL with k | k <;> simp [k]
  ·have nl : ¬ ((decide (97 ≤ n ∧ n ≤ 122) || (decide (65 ≤ n ∧ n ≤ 90) || decide (n = 95))) = true) := by
    simp only [Bool.or_eq_true, decide_eq_true_eq]; omega
   have rest : ∀ x : Option (Int ⊕ Bool), x = some (.inr false) ∨ True := fun _ => .inr trivial
   have tl : (bif decide ((i : Int) = 0) then some (Sum.inr false) else bif decide ((n : Int) < 48) then some (Sum.inr false) else bif decide ((n : Int) > 57) then some (Sum.inr false) else some (Sum.inl (IntKind.i64.wrap ((i : Int) + 1)))) = if i ≠ 0 ∧ (48 ≤ n ∧ n ≤ 57) then some (Sum.inl (IntKind.i64.wrap ((i : Int) + 1))) else (some (Sum.inr false) : Option (Int ⊕ Bool)) := by
    by_cases k0 : i = 0
    ·subst k0; simp
    by_cases k1 : (n : Int) < 48
    ·rw [if_neg (by omega)]; simp [k1]
    by_cases k2 : (n : Int) > 57
    ·rw [if_neg (by omega)]; simp [k1, k2]
    ·rw [if_pos (by omega)]; simp [k0, k1, k2]
   have both : (bif !decide ((n : Int) = 95) then bif decide (u < 97) then (bif decide ((i : Int) = 0) then some (Sum.inr false) else bif decide ((n : Int) < 48) then some (Sum.inr false) else bif decide ((n : Int) > 57) then some (Sum.inr false) else some (Sum.inl (IntKind.i64.wrap ((i : Int) + 1)))) else bif decide (u > 122) then (bif decide ((i : Int) = 0) then some (Sum.inr false) else bif decide ((n : Int) < 48) then some (Sum.inr false) else bif decide ((n : Int) > 57) then some (Sum.inr false) else some (Sum.inl (IntKind.i64.wrap ((i : Int) + 1)))) else some (Sum.inl (IntKind.i64.wrap ((i : Int) + 1))) else some (Sum.inl (IntKind.i64.wrap ((i : Int) + 1)))) = if i ≠ 0 ∧ (48 ≤ n ∧ n ≤ 57) then some (Sum.inl (IntKind.i64.wrap ((i : Int) + 1))) else (some (Sum.inr false) : Option (Int ⊕ Bool)) := by
    rw [decide_eq_false h95', Bool.not_false, cond_true]
    by_cases k1 : u < 97
    ·rw [decide_eq_true k1, cond_true, tl]
    by_cases k2 : u > 122
    ·rw [decide_eq_false k1, decide_eq_true k2, cond_false, cond_true, tl]
    ·exact absurd (hu.1 ⟨by omega, by omega⟩) hL
   rw [both]
   by_cases hd : i ≠ 0 ∧ (48 ≤ n ∧ n ≤ 57)
   ·rw [if_pos hd]; exact .inl ⟨.inr ⟨hd.1, decide_eq_true hd.2⟩, rfl⟩
   ·rw [if_neg hd]; exact .inr ⟨fun h => h.elim nl fun h => hd ⟨h.1, of_decide_eq_true h.2⟩, rfl⟩
 rcases loop_ask s.size _ (decide (0 < s.size) && decide (s.size ≤ 64)) false (by omega) step (by
  unfold gQ01
  rw [decide_eq_false (show ¬ (s.size : Int) < s.size by omega), cond_false]
  by_cases h0 : s = eS
  ·rw [decide_eq_true h0]; subst h0; rfl
  ·rw [decide_eq_false h0, Bool.not_false, cond_true, decide_eq_true (size_pos h0), Bool.true_and]
   congr 2; exact decide_eq_decide.2 (by omega)) with ⟨h1, h2⟩ | ⟨h1, i, h2, h3⟩
 ·rw [h1]
  unfold identS
  rw [← Bool.decide_and]
  congr 1
  refine decide_eq_decide.2 ⟨fun ⟨k1, k2⟩ => ⟨k1, k2, ?_, fun i hi => (h2 i hi).imp id fun h => h.2⟩, fun h => ⟨h.1, h.2.1⟩⟩
  rcases h2 0 k1 with k | k
  ·exact k
  ·exact absurd rfl k.1
 ·rw [h1]
  unfold identS
  rw [decide_eq_false]
  rintro ⟨k1, k2, k3, k4⟩
  refine h3 ?_
  rcases Nat.eq_zero_or_pos i with rfl | k
  ·exact .inl k3
  ·exact (k4 i h2).imp id fun h => ⟨by omega, h⟩
theorem parts_shaped (t : Ty) (hf : t.Fits) : gQ6y t = gQ30 t := by
 obtain ⟨f1, f2, f3, f4, f5⟩ := hf.parts
 have hw : IntKind.i64.wrap ((t.elems.length : Int) + (t.names.length : Int)) = (t.elems.length : Int) + (t.names.length : Int) := wrap_in (by omega) (by omega)
 unfold gQ6y gQ30
 rw [hw]
 by_cases h4 : t.kind = 4
 ·simp [h4]
 by_cases h5 : t.kind = 5
 ·simp [h4, h5]
 by_cases h6 : t.kind = 6
 ·simp [h4, h5, h6]
 by_cases h0 : t.kind < 0
 ·simp [h4, h5, h6, h0, show ¬ t.kind ≥ 0 by omega]
 by_cases h7 : t.kind > 6
 ·simp [h4, h5, h6, h0, h7, show t.kind ≥ 0 by omega, show ¬ t.kind ≤ 3 by omega]
 have e : decide ((t.elems.length : Int) + (t.names.length : Int) = 0) = (bif decide ((t.elems.length : Int) = 0) then decide ((t.names.length : Int) = 0) else false) := by
  by_cases k : (t.elems.length : Int) = 0
  ·rw [decide_eq_true k, cond_true]; exact decide_eq_decide.2 (by omega)
  ·rw [decide_eq_false k, cond_false, decide_eq_false (by omega)]
 rw [decide_eq_false h4, decide_eq_false h5, decide_eq_false h6, decide_eq_false h0, decide_eq_false h7, decide_eq_true (show t.kind ≥ 0 by omega), decide_eq_true (show t.kind ≤ 3 by omega), e]
 simp only [cond_false, cond_true]
 cases decide ((t.elems.length : Int) = 0) <;> rfl
open Classical in
theorem pcheck_eq (t : Ty) (lv : Int) : tQ8t t lv = gQ6l (fun a0 a1 => if relT a0 t then tQ8t a0 a1 else none) t lv := tieF_eq t lv
theorem idx_mem {α : Type} {l : List α} {i : Int} {x : α} (h : idx l i = some x) : x ∈ l := by
 unfold idx at h
 split at h
 ·exact List.mem_of_getElem? h
 ·cases h
open Classical in
theorem check_same (t : Ty) : ∀ lv : Int, t.Fits → tQ8t t lv = tQ8b t lv := by
 induction t using tyWf_ind with
 | h t ih =>
  intro lv hf
  obtain ⟨f1, f2, f3, f4, f5⟩ := hf.parts
  rw [checkT_eq, pcheck_eq]
  have IH : ∀ e ∈ t.elems, ∀ l2, (fun a0 a1 => if relT a0 t then tQ8t a0 a1 else none) e l2 = (fun a0 a1 => if relT a0 t then tQ8b a0 a1 else none) e l2 := by
   intro e he l2
   simp only [if_pos (show relT e t from he)]
   exact ih e he l2 (f5 e he)
  generalize (fun a0 a1 => if relT a0 t then tQ8t a0 a1 else none) = r1 at IH
  generalize (fun a0 a1 => if relT a0 t then tQ8b a0 a1 else none) = r2 at IH
  have e2 : gQ6n r1 t lv = gQ2p r2 t lv := by
   funext s
   unfold gQ6n gQ2p
   cases decide (s < (t.elems.length : Int)) with
   | false => rfl
   | true =>
    rw [cond_true, cond_true]
    cases hx : idx t.elems s with
    | none => rfl
    | some x => rw [Option.bind_some, Option.bind_some, IH x (idx_mem hx)]
  have e1 : gQ6m r1 t lv = gQ2o r2 t lv := by
   funext s
   unfold gQ6m gQ2o
   rw [e2]
   cases decide (s < (t.names.length : Int)) with
   | false => rfl
   | true =>
    rw [cond_true, cond_true]
    cases hx : idx t.names s with
    | none => rfl
    | some x =>
     have hs := f4 x (idx_mem hx)
     simp only [Option.bind_some, ident_ref x hs, ident_prog x hs, leq_not]
  unfold gQ6l gQ2n
  rw [parts_shaped t hf, e1]
theorem Check_same (t : Ty) (hf : t.Fits) : gQ6b t = gQ2g t := by
 unfold gQ6b gQ2g
 rw [check_same t 1 hf]
end Abs
end Go.Proofs.YtkffpfapfljinaaGreatDoor
namespace Go.Proofs.YtkffpfapfljinaaGreatDoor
set_option linter.unusedSimpArgs false
set_option linter.unusedVariables false
namespace Abs
open Go.RowKit
def AFits (x : AttrG) : Prop := x.name.size ≤ 140737488351232 ∧ x.type_.Fits ∧ (-9223372036854775808 ≤ x.mode ∧ x.mode ≤ 9223372036854775807) ∧ True ∧ True ∧ True
def NFits (x : NestedG) : Prop := x.name.size ≤ 140737488351232 ∧ (-9223372036854775808 ≤ x.min ∧ x.min ≤ 9223372036854775807) ∧ (-9223372036854775808 ≤ x.max ∧ x.max ≤ 9223372036854775807) ∧ (x.attrs.length * 88 ≤ 140737488351232 ∧ ∀ y ∈ x.attrs, AFits y) ∧ True
def SFits (x : SchemaG) : Prop := (x.attrs.length * 88 ≤ 140737488351232 ∧ ∀ y ∈ x.attrs, AFits y) ∧ (x.nested.length * 64 ≤ 140737488351232 ∧ ∀ y ∈ x.nested, NFits y)
theorem ty_eta (t : Ty) : Ty.mk t.kind t.elems t.names = t := by cases t; rfl
theorem upd_self {α : Type} {l : List α} {i : Nat} {x : α} (h : l[i]? = some x) : upd l (i : Int) x = l := by
 unfold upd
 rw [Int.toNat_natCast]
 obtain ⟨hi, rfl⟩ := List.getElem?_eq_some_iff.1 h
 exact List.set_getElem_self hi
open Classical in
theorem typed_eq (t : Ty) : tQ8k t = gQ5u (fun a0 => if relT a0 t then tQ8k a0 else none) t := tieF_eq t ()
open Classical in
theorem typed_spec (t : Ty) : t.Fits → tQ8k t = some t := by
 induction t using tyWf_ind with
 | h t ih =>
  intro hf
  obtain ⟨f1, f2, f3, f4, f5⟩ := hf.parts
  have hlen := tlen f2
  rw [typed_eq]
  have IH : ∀ e ∈ t.elems, (fun a0 => if relT a0 t then tQ8k a0 else none) e = some e := by
   intro e he
   simp only [if_pos (show relT e t from he)]
   exact ih e he (f5 e he)
  generalize (fun a0 => if relT a0 t then tQ8k a0 else none) = rec at IH
  unfold gQ5u
  rw [clone_of f3, Option.bind_some]
  by_cases h0 : (t.elems.length : Int) = 0
  ·rw [decide_eq_true h0, cond_true]
   have he : t.elems = [] := List.length_eq_zero_iff.1 (by omega)
   refine loop_done ?_
   show some (Sum.inr (Ty.mk t.kind [] t.names)) = _
   rw [← he, ty_eta]
  ·rw [decide_eq_false h0, cond_false, clone_of f2, Option.bind_some]
   have := loop_meas (body := gQ5w rec t t.names t.elems) (fun s => ∃ i : Nat, s = ((i : Int), t.elems) ∧ i ≤ t.elems.length) (fun s => t.elems.length - s.1.toNat) (fun q => q = t) (by
    rintro s ⟨i, rfl, hi⟩
    rcases Nat.eq_or_lt_of_le hi with h1 | h1
    ·subst h1
     exact .inr ⟨t, by simp only [gQ5w, decide_eq_false (show ¬ (t.elems.length : Int) < t.elems.length by omega), cond_false, ty_eta], rfl⟩
    ·have hx := List.getElem?_eq_getElem h1
     refine .inl ⟨(((i + 1 : Nat) : Int), t.elems), ?_, ⟨i + 1, rfl, h1⟩, by simp only [Int.toNat_natCast]; omega⟩
     simp only [gQ5w, decide_eq_true (show (i : Int) < t.elems.length by omega), cond_true, idx_nat, hx, Option.bind_some, IH _ (List.getElem_mem h1), wrap_nat h1 (show t.elems.length ≤ 9223372036854775807 by omega), upd_self hx]) (0, t.elems) ⟨0, rfl, Nat.zero_le _⟩
   obtain ⟨q, h, rfl⟩ := this
   exact h
def aZ : AttrG := AttrG.mk eS (Ty.mk 0 [] []) 0 false false false
def nZ : NestedG := NestedG.mk eS 0 0 [] false
def findA (n : ByteArray) : List AttrG → AttrG × Bool
 | [] => (aZ, false)
 | a :: r => if a.name = n then (a, true) else findA n r
def findN (n : ByteArray) : List NestedG → NestedG × Bool
 | [] => (nZ, false)
 | a :: r => if a.name = n then (a, true) else findN n r
theorem findA_yes {n : ByteArray} : ∀ {l : List AttrG}, (findA n l).2 = true → (findA n l).1 ∈ l ∧ (findA n l).1.name = n
 | [], h => by cases h
 | a :: r, h => by
  unfold findA at h ⊢
  by_cases e : a.name = n
  ·rw [if_pos e]; exact ⟨List.mem_cons_self, e⟩
  ·rw [if_neg e] at h ⊢
   have := findA_yes (l := r) h
   exact ⟨List.mem_cons_of_mem _ this.1, this.2⟩
theorem findA_no {n : ByteArray} : ∀ {l : List AttrG}, (findA n l).2 = false → findA n l = (aZ, false) ∧ ∀ a ∈ l, a.name ≠ n
 | [], h => ⟨rfl, fun a ha => absurd ha List.not_mem_nil⟩
 | a :: r, h => by
  unfold findA at h ⊢
  by_cases e : a.name = n
  ·rw [if_pos e] at h; cases h
  ·rw [if_neg e] at h ⊢
   have := findA_no (l := r) h
   exact ⟨this.1, fun b hb => by
    rcases List.mem_cons.1 hb with rfl | hb
    ·exact e
    ·exact this.2 b hb⟩
theorem findA_iff {n : ByteArray} {l : List AttrG} : (findA n l).2 = true ↔ ∃ a ∈ l, a.name = n := by
 cases h : (findA n l).2 with
 | true => exact ⟨fun _ => ⟨_, findA_yes h⟩, fun _ => rfl⟩
 | false => exact ⟨fun k => (by cases k), fun ⟨a, h1, h2⟩ => absurd h2 ((findA_no h).2 a h1)⟩
theorem findN_yes {n : ByteArray} : ∀ {l : List NestedG}, (findN n l).2 = true → (findN n l).1 ∈ l ∧ (findN n l).1.name = n
 | [], h => by cases h
 | a :: r, h => by
  unfold findN at h ⊢
  by_cases e : a.name = n
  ·rw [if_pos e]; exact ⟨List.mem_cons_self, e⟩
  ·rw [if_neg e] at h ⊢
   have := findN_yes (l := r) h
   exact ⟨List.mem_cons_of_mem _ this.1, this.2⟩
theorem findN_no {n : ByteArray} : ∀ {l : List NestedG}, (findN n l).2 = false → findN n l = (nZ, false) ∧ ∀ a ∈ l, a.name ≠ n
 | [], h => ⟨rfl, fun a ha => absurd ha List.not_mem_nil⟩
 | a :: r, h => by
  unfold findN at h ⊢
  by_cases e : a.name = n
  ·rw [if_pos e] at h; cases h
  ·rw [if_neg e] at h ⊢
   have := findN_no (l := r) h
   exact ⟨this.1, fun b hb => by
    rcases List.mem_cons.1 hb with rfl | hb
    ·exact e
    ·exact this.2 b hb⟩
theorem findN_iff {n : ByteArray} {l : List NestedG} : (findN n l).2 = true ↔ ∃ a ∈ l, a.name = n := by
 cases h : (findN n l).2 with
 | true => exact ⟨fun _ => ⟨_, findN_yes h⟩, fun _ => rfl⟩
 | false => exact ⟨fun k => (by cases k), fun ⟨a, h1, h2⟩ => absurd h2 ((findN_no h).2 a h1)⟩
theorem Find_spec (s : SchemaG) (n : ByteArray) (hl : s.attrs.length ≤ 9223372036854775807) (hf : ∀ a ∈ s.attrs, a.type_.Fits) : gQ43 s n = some (findA n s.attrs) := by
 refine loop_list0 s.attrs (fun i (_ : Unit) => (i : Int)) (fun _ l => findA n l) (fun _ _ => True) (a := ()) rfl trivial (fun _ _ => ?_) (fun i x r _ hi hx _ _ => ?_)
 ·simp only [gQ44, decide_eq_false (show ¬ (s.attrs.length : Int) < s.attrs.length by omega), cond_false]; rfl
 ·have e1 : gQ44 s n (i : Int) = bif (decide (x.name = n)) then some (.inr (x, true)) else some (.inl ((i + 1 : Nat) : Int)) := by
   simp only [gQ44, decide_eq_true (show (i : Int) < s.attrs.length by omega), cond_true, idx_nat, hx, Option.bind_some, typed_spec _ (hf x (List.mem_of_getElem? hx)), wrap_nat hi hl]
  by_cases e : x.name = n
  ·right; rw [e1, decide_eq_true e, cond_true]; unfold findA; rw [if_pos e]
  ·left; exact ⟨(), trivial, by rw [e1, decide_eq_false e, cond_false], by rw [findA, if_neg e]⟩
theorem Attr_spec (l : List AttrG) (n : ByteArray) (hl : l.length ≤ 9223372036854775807) : gQ32 l n = some (findA n l) := by
 refine loop_list0 l (fun i (_ : Unit) => (i : Int)) (fun _ l => findA n l) (fun _ _ => True) (a := ()) rfl trivial (fun _ _ => ?_) (fun i x r _ hi hx _ _ => ?_)
 ·simp only [gQ33, decide_eq_false (show ¬ (l.length : Int) < l.length by omega), cond_false]; rfl
 ·have e1 : gQ33 l n (i : Int) = bif (decide (x.name = n)) then some (.inr (x, true)) else some (.inl ((i + 1 : Nat) : Int)) := by
   simp only [gQ33, decide_eq_true (show (i : Int) < l.length by omega), cond_true, idx_nat, hx, Option.bind_some, wrap_nat hi hl]
  by_cases e : x.name = n
  ·right; rw [e1, decide_eq_true e, cond_true]; unfold findA; rw [if_pos e]
  ·left; exact ⟨(), trivial, by rw [e1, decide_eq_false e, cond_false], by rw [findA, if_neg e]⟩
theorem rFind_spec (s : SchemaG) (n : ByteArray) (hl : s.attrs.length ≤ 9223372036854775807) : gQ38 s n = some (findA n s.attrs) := by
 unfold gQ38; rw [Attr_spec _ _ hl]; rfl
theorem kind_spec (s : SchemaG) (n : ByteArray) (hl : s.nested.length ≤ 9223372036854775807) : gQ5k s n = some (findN n s.nested) := by
 refine loop_list0 s.nested (fun i (_ : Unit) => (i : Int)) (fun _ l => findN n l) (fun _ _ => True) (a := ()) rfl trivial (fun _ _ => ?_) (fun i x r _ hi hx _ _ => ?_)
 ·simp only [gQ5l, decide_eq_false (show ¬ (s.nested.length : Int) < s.nested.length by omega), cond_false]; rfl
 ·have e1 : gQ5l s n (i : Int) = bif (decide (x.name = n)) then some (.inr (x, true)) else some (.inl ((i + 1 : Nat) : Int)) := by
   simp only [gQ5l, decide_eq_true (show (i : Int) < s.nested.length by omega), cond_true, idx_nat, hx, Option.bind_some, wrap_nat hi hl]
  by_cases e : x.name = n
  ·right; rw [e1, decide_eq_true e, cond_true]; unfold findN; rw [if_pos e]
  ·left; exact ⟨(), trivial, by rw [e1, decide_eq_false e, cond_false], by rw [findN, if_neg e]⟩
def objT (l : List AttrG) : Ty := Ty.mk 6 (l.map (·.type_)) (l.map (·.name))
theorem loop_obj {O : Type} (l : List AttrG) {body : Int × List Ty × List ByteArray → Option ((Int × List Ty × List ByteArray) ⊕ O)} (R : List Ty → List ByteArray → O)
  (step : ∀ (i : Nat) (ts : List Ty) (ns : List ByteArray) (x : AttrG), i < l.length → l[i]? = some x → ts.length = i → ns.length = i → body ((i : Int), ts, ns) = some (.inl (((i + 1 : Nat) : Int), ts ++ [x.type_], ns ++ [x.name])))
  (stop : ∀ ts ns, body ((l.length : Int), ts, ns) = some (.inr (R ts ns))) : loopO body (0, [], []) = some (R (l.map (·.type_)) (l.map (·.name))) := by
 have := loop_meas (body := body) (fun s => ∃ i : Nat, s = ((i : Int), (l.take i).map (·.type_), (l.take i).map (·.name)) ∧ i ≤ l.length) (fun s => l.length - s.1.toNat) (fun q => q = R (l.map (·.type_)) (l.map (·.name))) (by
  rintro s ⟨i, rfl, hi⟩
  rcases Nat.eq_or_lt_of_le hi with h0 | h0
  ·subst h0
   exact .inr ⟨_, stop _ _, by rw [List.take_length]⟩
  ·refine .inl ⟨_, step i _ _ _ h0 (List.getElem?_eq_getElem h0) (by simp; omega) (by simp; omega), ⟨i + 1, ?_, h0⟩, by simp only [Int.toNat_natCast]; omega⟩
   rw [List.take_succ_eq_append_getElem h0, List.map_append, List.map_append]; rfl) (0, [], []) ⟨0, by simp, Nat.zero_le _⟩
 obtain ⟨q, h, rfl⟩ := this
 exact h
theorem object_spec12 (l : List AttrG) (hl : l.length ≤ 1000) (hf : ∀ a ∈ l, a.type_.Fits) : gQ5r l = some (objT l) := by
 refine loop_obj l (fun ts ns => Ty.mk 6 ts ns) (fun i ts ns x hi hx h1 h2 => ?_) (fun ts ns => ?_)
 ·simp only [gQ5s, decide_eq_true (show (i : Int) < l.length by omega), cond_true, idx_nat, hx, Option.bind_some, typed_spec _ (hf x (List.mem_of_getElem? hx)), app_one ns x.name (m := 16) (n := 1001) (by decide) (by omega) (by decide), app_one ts x.type_ (m := 56) (n := 1001) (by decide) (by omega) (by decide), wrap_nat hi (show l.length ≤ 9223372036854775807 by omega)]
 ·simp only [gQ5s, decide_eq_false (show ¬ (l.length : Int) < l.length by omega), cond_false]
theorem robject_spec12 (l : List AttrG) (hl : l.length ≤ 1000) : gQ3o l = some (objT l) := by
 refine loop_obj l (fun ts ns => Ty.mk 6 ts ns) (fun i ts ns x hi hx h1 h2 => ?_) (fun ts ns => ?_)
 ·simp only [gQ3p, decide_eq_true (show (i : Int) < l.length by omega), cond_true, idx_nat, hx, Option.bind_some, app_one ns x.name (m := 16) (n := 1001) (by decide) (by omega) (by decide), app_one ts x.type_ (m := 56) (n := 1001) (by decide) (by omega) (by decide), wrap_nat hi (show l.length ≤ 9223372036854775807 by omega)]
 ·simp only [gQ3p, decide_eq_false (show ¬ (l.length : Int) < l.length by omega), cond_false]
theorem first_spec12 (s : SchemaG) (hl : s.attrs.length ≤ 1000) (hf : ∀ a ∈ s.attrs, a.type_.Fits) : gQ4f s = some (s.attrs.map (·.type_), s.attrs.map (·.name)) := by
 refine loop_obj s.attrs (fun ts ns => (ts, ns)) (fun i ts ns x hi hx h1 h2 => ?_) (fun ts ns => ?_)
 ·simp only [gQ4g, decide_eq_true (show (i : Int) < s.attrs.length by omega), cond_true, idx_nat, hx, Option.bind_some, typed_spec _ (hf x (List.mem_of_getElem? hx)), app_one ns x.name (m := 16) (n := 1001) (by decide) (by omega) (by decide), app_one ts x.type_ (m := 56) (n := 1001) (by decide) (by omega) (by decide), wrap_nat hi (show s.attrs.length ≤ 9223372036854775807 by omega)]
 ·simp only [gQ4g, decide_eq_false (show ¬ (s.attrs.length : Int) < s.attrs.length by omega), cond_false]
section
variable {α : Type}
def SP (l : List (ByteArray × α)) : Prop := l.Pairwise fun p q => Op.bytesLess p.1.toList q.1.toList = true
theorem sp_unique : ∀ {l m : List (ByteArray × α)}, SP l → SP m → (∀ p, p ∈ l ↔ p ∈ m) → l = m
 | [], [], _, _, _ => rfl
 | [], q :: m, _, _, h => absurd ((h q).2 List.mem_cons_self) List.not_mem_nil
 | p :: l, [], _, _, h => absurd ((h p).1 List.mem_cons_self) List.not_mem_nil
 | p :: l, q :: m, hl, hm, h => by
  obtain ⟨l1, l2⟩ := List.pairwise_cons.1 hl
  obtain ⟨m1, m2⟩ := List.pairwise_cons.1 hm
  have e : p = q := by
   rcases List.mem_cons.1 ((h p).1 List.mem_cons_self) with e | e
   ·exact e
   rcases List.mem_cons.1 ((h q).2 List.mem_cons_self) with k | k
   ·exact k.symm
   ·have := less_asymm (m1 p e); rw [l1 q k] at this; cases this
  subst e
  have np : ∀ {l : List (ByteArray × α)}, (∀ q ∈ l, Op.bytesLess p.1.toList q.1.toList = true) → p ∉ l := fun h k => by
   have := h p k; rw [less_irrefl] at this; cases this
  rw [sp_unique l2 m2 fun x => ⟨fun hx => ?_, fun hx => ?_⟩]
  ·rcases List.mem_cons.1 ((h x).1 (List.mem_cons_of_mem _ hx)) with rfl | k
   ·exact absurd hx (np l1)
   ·exact k
  ·rcases List.mem_cons.1 ((h x).2 (List.mem_cons_of_mem _ hx)) with rfl | k
   ·exact absurd hx (np m1)
   ·exact k
def insP (p : ByteArray × α) : List (ByteArray × α) → List (ByteArray × α)
 | [] => [p]
 | q :: r => if Op.bytesLess q.1.toList p.1.toList = true then q :: insP p r else p :: q :: r
theorem mem_insP {p x : ByteArray × α} : ∀ {l : List (ByteArray × α)}, x ∈ insP p l ↔ x = p ∨ x ∈ l
 | [] => by simp [insP]
 | q :: r => by
  unfold insP
  split
  ·rw [List.mem_cons, mem_insP (l := r), List.mem_cons]
   exact ⟨fun h => h.elim (fun h => .inr (.inl h)) fun h => h.elim .inl fun h => .inr (.inr h), fun h => h.elim (fun h => .inr (.inl h)) fun h => h.elim .inl fun h => .inr (.inr h)⟩
  ·rw [List.mem_cons]
theorem sp_insP {p : ByteArray × α} : ∀ {l : List (ByteArray × α)}, SP l → (∀ q ∈ l, q.1 ≠ p.1) → SP (insP p l)
 | [], _, _ => List.pairwise_singleton _ _
 | q :: r, h, hn => by
  obtain ⟨h1, h2⟩ := List.pairwise_cons.1 h
  unfold insP
  split
  ·rename_i hc
   refine List.pairwise_cons.2 ⟨fun x hx => ?_, sp_insP h2 fun q hq => hn q (List.mem_cons_of_mem _ hq)⟩
   rcases mem_insP.1 hx with rfl | k
   ·exact hc
   ·exact h1 x k
  ·rename_i hc
   have hpq : Op.bytesLess p.1.toList q.1.toList = true := by
    rcases less_total q.1.toList p.1.toList with k | k | k
    ·exact absurd k hc
    ·exact absurd (ba_ext k) (hn q List.mem_cons_self)
    ·exact k
   refine List.pairwise_cons.2 ⟨fun x hx => ?_, h⟩
   rcases List.mem_cons.1 hx with rfl | k
   ·exact hpq
   ·exact less_trans hpq (h1 x k)
theorem insP_len {p : ByteArray × α} : ∀ {l : List (ByteArray × α)}, (insP p l).length = l.length + 1
 | [] => rfl
 | q :: r => by unfold insP; split <;> simp [insP_len (l := r)]
theorem insP_at {p : ByteArray × α} : ∀ {l : List (ByteArray × α)} {k : Nat}, k ≤ l.length → (∀ (j : Nat) q, j < k → l[j]? = some q → Op.bytesLess q.1.toList p.1.toList = true) → (∀ q, l[k]? = some q → Op.bytesLess q.1.toList p.1.toList = false) → insP p l = insL l k p
  | [], k, hk, _, _ => by obtain rfl : k = 0 := by simpa using hk
                          rfl
  | q :: r, 0, _, _, h2 => by
    unfold insP
    rw [if_neg (by rw [h2 q rfl]; decide)]; rfl
  | q :: r, k + 1, hk, h1, h2 => by
    unfold insP
    rw [if_pos (h1 0 q (Nat.succ_pos _) rfl), insP_at (l := r) (k := k) (by simpa using hk) (fun j x hj hx => h1 (j + 1) x (by omega) hx) (fun x hx => h2 x hx)]
    rfl
theorem insL_map {β : Type} (f : α → β) (l : List α) (k : Nat) (x : α) : (insL l k x).map f = insL (l.map f) k (f x) := by
 unfold insL
 simp [List.map_take, List.map_drop]
theorem rising_sp {l : List (ByteArray × α)} (h : SP l) : Rising (l.map (·.1)) := rising_of (List.pairwise_map.2 h)
end
theorem pair_of_rising {l : List ByteArray} (h : Rising l) : l.Pairwise fun a b => Op.bytesLess a.toList b.toList = true :=
 List.pairwise_iff_getElem.2 fun i j hi hj hij => h i j hij _ _ (List.getElem?_eq_getElem hi) (List.getElem?_eq_getElem hj)
end Abs
end Go.Proofs.YtkffpfapfljinaaGreatDoor
namespace Go.Proofs.YtkffpfapfljinaaGreatDoor
set_option linter.unusedSimpArgs false
set_option linter.unusedVariables false
namespace Abs
open Go.RowKit
theorem search_pos (l : List ByteArray) (v : ByteArray) (hl : l.length * 2 ≤ 9223372036854775807) (hr : Rising l) :
  ∃ q : Int × Bool, gQ5y l v = some q ∧ ∃ k : Nat, q.1 = (k : Int) ∧ k ≤ l.length ∧ (∀ j a, j < k → l[j]? = some a → Op.bytesLess a.toList v.toList = true) ∧ (∀ j a, k ≤ j → l[j]? = some a → Op.bytesLess a.toList v.toList = false) := by
 refine loop_meas (body := gQ5z l v) (fun s => ∃ i j : Nat, s = ((i : Int), (j : Int)) ∧ i ≤ j ∧ j ≤ l.length ∧ (∀ k a, k < i → l[k]? = some a → Op.bytesLess a.toList v.toList = true) ∧ (∀ k a, j ≤ k → l[k]? = some a → Op.bytesLess a.toList v.toList = false)) (fun s => (s.2 - s.1).toNat)
  (fun q => ∃ k : Nat, q.1 = (k : Int) ∧ k ≤ l.length ∧ (∀ j a, j < k → l[j]? = some a → Op.bytesLess a.toList v.toList = true) ∧ (∀ j a, k ≤ j → l[j]? = some a → Op.bytesLess a.toList v.toList = false)) ?_ (0, (l.length : Int)) ⟨0, l.length, rfl, Nat.zero_le _, Nat.le_refl _, fun k a hk => by omega, fun k a hk e => by rw [List.getElem?_eq_none hk] at e; cases e⟩
 rintro s ⟨i, j, rfl, hij, hj, h1, h2⟩
 by_cases hlt : i < j
 ·left
  have hm : (i + j) / 2 < l.length := by omega
  have hI : idx l (((i + j) / 2 : Nat) : Int) = some l[(i + j) / 2] := by rw [idx_nat]; exact List.getElem?_eq_getElem hm
  have hmid := mid_eq (i := i) (j := j) (by omega)
  have hdec : decide (((i : Int), (j : Int)).1 < ((i : Int), (j : Int)).2) = true := by simp [hlt]
  unfold gQ5z
  rw [hdec]
  simp only [cond_true, hmid, hI, Option.bind_some, less_spec]
  cases hc : Op.bytesLess l[(i + j) / 2].toList v.toList with
  | true =>
   refine ⟨((((i + j) / 2 + 1 : Nat) : Int), (j : Int)), by simp only [cond_true, wrap_nat (i := (i + j) / 2) (n := l.length) hm (by omega)], ⟨_, j, rfl, by omega, hj, fun k a hk e => ?_, h2⟩, by simp; omega⟩
   rcases Nat.eq_or_lt_of_le (show k ≤ (i + j) / 2 by omega) with rfl | hk'
   ·rw [List.getElem?_eq_getElem hm] at e; simp at e; subst e; exact hc
   ·exact less_trans (hr k _ hk' a _ e (List.getElem?_eq_getElem hm)) hc
  | false =>
   refine ⟨((i : Int), (((i + j) / 2 : Nat) : Int)), by simp only [cond_false], ⟨i, _, rfl, by omega, by omega, h1, fun k a hk e => ?_⟩, by simp; omega⟩
   rcases Nat.eq_or_lt_of_le hk with rfl | hk'
   ·rw [List.getElem?_eq_getElem hm] at e; simp at e; subst e; exact hc
   ·cases hb : Op.bytesLess a.toList v.toList with
    | false => rfl
    | true => rw [less_trans (hr _ k hk' _ a (List.getElem?_eq_getElem hm) e) hb] at hc; cases hc
 ·right
  obtain rfl : i = j := by omega
  have hdec : decide (((i : Int), (i : Int)).1 < ((i : Int), (i : Int)).2) = false := by simp
  unfold gQ5z
  rw [hdec]
  simp only [cond_false]
  by_cases hil : i < l.length
  ·have hI : idx l (i : Int) = some l[i] := by rw [idx_nat]; exact List.getElem?_eq_getElem hil
   have hd2 : decide ((i : Int) < (l.length : Int)) = true := by simp [hil]
   rw [hd2]
   simp only [cond_true, hI, Option.bind_some, gQ69]
   by_cases he : l[i] = v
   ·exact ⟨((i : Int), true), by simp [he], i, rfl, hj, h1, h2⟩
   ·exact ⟨((i : Int), false), by simp [he], i, rfl, hj, h1, h2⟩
  ·have hd2 : decide ((i : Int) < (l.length : Int)) = false := by simp; omega
   rw [hd2]
   exact ⟨((i : Int), false), by simp, i, rfl, hj, h1, h2⟩
def nt (n : NestedG) : Ty := Ty.mk 4 [objT n.attrs] []
def ap (a : AttrG) : ByteArray × Ty := (a.name, a.type_)
def np (n : NestedG) : ByteArray × Ty := (n.name, nt n)
def addN (L : List (ByteArray × Ty)) (ns : List NestedG) : List (ByteArray × Ty) := ns.foldl (fun L n => insP (np n) L) L
def typL (s : SchemaG) : List (ByteArray × Ty) := addN (s.attrs.map ap) s.nested
def tyOf (L : List (ByteArray × Ty)) : Ty := Ty.mk 6 (L.map (·.2)) (L.map (·.1))
structure NamesOk (s : SchemaG) : Prop where
 la : s.attrs.length ≤ 70
 ln : s.nested.length ≤ 70
 ra : s.attrs.Pairwise fun a b => Op.bytesLess a.name.toList b.name.toList = true
 rn : s.nested.Pairwise fun a b => Op.bytesLess a.name.toList b.name.toList = true
 dj : ∀ a ∈ s.attrs, ∀ n ∈ s.nested, a.name ≠ n.name
 lk : ∀ n ∈ s.nested, n.attrs.length ≤ 70
theorem addN_facts : ∀ (ns : List NestedG) (L : List (ByteArray × Ty)), SP L → (∀ n ∈ ns, ∀ q ∈ L, q.1 ≠ n.name) → (ns.Pairwise fun a b => Op.bytesLess a.name.toList b.name.toList = true) →
  SP (addN L ns) ∧ (∀ p, p ∈ addN L ns ↔ p ∈ L ∨ ∃ n ∈ ns, p = np n) ∧ (addN L ns).length = L.length + ns.length
 | [], L, h, _, _ => ⟨h, fun p => by simp [addN], rfl⟩
 | n :: r, L, h, hn, hp => by
  obtain ⟨p1, p2⟩ := List.pairwise_cons.1 hp
  have h1 := sp_insP (p := np n) h fun q hq => hn n List.mem_cons_self q hq
  obtain ⟨a, b, c⟩ := addN_facts r (insP (np n) L) h1 (fun m hm q hq e => by
   rcases mem_insP.1 hq with rfl | k
   ·have := p1 m hm
    rw [show n.name = m.name from e, less_irrefl] at this; cases this
   ·exact hn m (List.mem_cons_of_mem _ hm) q k e) p2
  refine ⟨a, fun p => (b p).trans ?_, by show (addN (insP (np n) L) r).length = _; rw [c, insP_len, List.length_cons]; omega⟩
  rw [mem_insP]
  constructor
  ·rintro ((k | k) | ⟨m, hm, k⟩)
   ·exact .inr ⟨n, List.mem_cons_self, k⟩
   ·exact .inl k
   ·exact .inr ⟨m, List.mem_cons_of_mem _ hm, k⟩
  ·rintro (k | ⟨m, hm, k⟩)
   ·exact .inl (.inr k)
   ·rcases List.mem_cons.1 hm with rfl | hm
    ·exact .inl (.inl k)
    ·exact .inr ⟨m, hm, k⟩
theorem typL_facts {s : SchemaG} (h : NamesOk s) : SP (typL s) ∧ (∀ p, p ∈ typL s ↔ (∃ a ∈ s.attrs, p = ap a) ∨ ∃ n ∈ s.nested, p = np n) ∧ (typL s).length = s.attrs.length + s.nested.length := by
 obtain ⟨a, b, c⟩ := addN_facts s.nested (s.attrs.map ap) (List.pairwise_map.2 h.ra) (fun n hn q hq => by
  obtain ⟨a, ha, rfl⟩ := List.mem_map.1 hq
  exact h.dj a ha n hn) h.rn
 refine ⟨a, fun p => (b p).trans ?_, by rw [← List.length_map (f := ap)]; exact c⟩
 rw [List.mem_map]
 exact ⟨fun k => k.imp (fun ⟨x, h1, h2⟩ => ⟨x, h1, h2.symm⟩) id, fun k => k.imp (fun ⟨x, h1, h2⟩ => ⟨x, h1, h2.symm⟩) id⟩
theorem m_ins_of {α : Type} {b : Nat} {xs : List α} {k : Nat} {x : α} (h : k ≤ xs.length) (hl : xs.length ≤ 1000) (hb : b ≤ 100) : m_ins b xs (k : Int) x = some (insL xs k x) := by
 unfold m_ins
 have : (xs.length + 1) * b ≤ 1001 * 100 := Nat.mul_le_mul (by omega) hb
 rw [if_pos ⟨by omega, by omega, by omega⟩, Int.toNat_natCast]
theorem Type_spec (s : SchemaG) (h : NamesOk s) (hf : SFits s) : gQ4d s = some (tyOf (typL s)) := by
 unfold gQ4d
 have h1 := h.la
 have h2 := h.ln
 rw [first_spec12 s (by omega) fun a ha => (hf.1.2 a ha).2.1, Option.bind_some]
 have := loop_list0 (body := gQ4e s) s.nested (fun i L => ((i : Int), L.map (·.2), L.map (·.1))) (fun L ns => tyOf (addN L ns)) (fun L ns => SP L ∧ (∀ n ∈ ns, ∀ q ∈ L, q.1 ≠ n.name) ∧ (ns.Pairwise fun a b => Op.bytesLess a.name.toList b.name.toList = true) ∧ L.length + ns.length ≤ 140) (s0 := (0, s.attrs.map (·.type_), s.attrs.map (·.name))) (a := s.attrs.map ap) (by
   simp only [List.map_map]; rfl) ⟨List.pairwise_map.2 h.ra, fun n hn q hq => by
    obtain ⟨a, ha, rfl⟩ := List.mem_map.1 hq
    exact h.dj a ha n hn, h.rn, by rw [List.length_map]; omega⟩ (fun L _ => ?_) (fun i x r L hi hx hd ⟨q1, q2, q3, q4⟩ => ?_)
 ·exact this
 ·simp only [gQ4e, decide_eq_false (show ¬ (s.nested.length : Int) < s.nested.length by omega), cond_false]; rfl
 ·left
  rw [List.length_cons] at q4
  have hmem := List.mem_of_getElem? hx
  obtain ⟨p1, p2⟩ := List.pairwise_cons.1 q3
  obtain ⟨q, e1, k, e2, e3, e4, e5⟩ := search_pos (L.map (·.1)) x.name (by rw [List.length_map]; omega) (rising_sp q1)
  have e3' : k ≤ L.length := by simpa using e3
  have hat : insP (np x) L = insL L k (np x) := insP_at e3' (fun j z hj hz => e4 j z.1 hj (by rw [List.getElem?_map, hz]; rfl)) fun z hz => e5 k z.1 (Nat.le_refl _) (by rw [List.getElem?_map, hz]; rfl)
  refine ⟨insP (np x) L, ⟨sp_insP q1 (q2 x List.mem_cons_self), fun m hm z hz e => ?_, p2, by rw [insP_len]; omega⟩, ?_, rfl⟩
  ·rcases mem_insP.1 hz with rfl | k
   ·have := p1 m hm
    rw [show x.name = m.name from e, less_irrefl] at this; cases this
   ·exact q2 m (List.mem_cons_of_mem _ hm) z k e
  ·have n1 : (L.map (·.1)).length ≤ 1000 := by rw [List.length_map]; omega
   have n2 : (L.map (·.2)).length ≤ 1000 := by rw [List.length_map]; omega
   have n3 : k ≤ (L.map (·.2)).length := by rw [List.length_map]; exact e3'
   have hlk := h.lk x hmem
   simp only [gQ4e, decide_eq_true (show (i : Int) < s.nested.length by omega), cond_true, idx_nat, hx, Option.bind_some, e1, e2, m_ins_of e3 n1 (show 16 ≤ 100 by decide), object_spec12 x.attrs (by omega) fun a ha => ((hf.2.2 x hmem).2.2.2.1.2 a ha).2.1, m_ins_of n3 n2 (show 56 ≤ 100 by decide), wrap_nat hi (show s.nested.length ≤ 9223372036854775807 by omega)]
   rw [hat, insL_map, insL_map]; rfl
theorem take_mem {α : Type} {l : List α} {i : Nat} {x y : α} (h : l[i]? = some x) : y ∈ l.take (i + 1) ↔ y ∈ l.take i ∨ y = x := by
 obtain ⟨hi, rfl⟩ := List.getElem?_eq_some_iff.1 h
 rw [List.take_succ_eq_append_getElem hi, List.mem_append, List.mem_singleton]
theorem rType_spec (s : SchemaG) (h : NamesOk s) : gQ3e s = some (tyOf (typL s)) := by
 have h1 := h.la
 have h2 := h.ln
 obtain ⟨t1, t2, t3⟩ := typL_facts h
 unfold gQ3e
 have := loop_meas (body := gQ3f s) (fun st => ∃ (i k : Nat) (L : List (ByteArray × Ty)), st = ((i : Int), (k : Int), L.map (·.2), L.map (·.1)) ∧ i ≤ s.attrs.length ∧ k ≤ s.nested.length ∧ L.length = i + k ∧ SP L ∧ (∀ p, p ∈ L ↔ (∃ a ∈ s.attrs.take i, p = ap a) ∨ ∃ n ∈ s.nested.take k, p = np n) ∧
   (∀ p ∈ L, ∀ a ∈ s.attrs.drop i, Op.bytesLess p.1.toList a.name.toList = true) ∧ (∀ p ∈ L, ∀ n ∈ s.nested.drop k, Op.bytesLess p.1.toList n.name.toList = true)) (fun st => (s.attrs.length - st.1.toNat) + (s.nested.length - st.2.1.toNat)) (fun q => q = tyOf (typL s)) ?_ (0, 0, [], []) ⟨0, 0, [], rfl, Nat.zero_le _, Nat.zero_le _, rfl, List.Pairwise.nil, fun p => by simp, fun p hp => absurd hp List.not_mem_nil, fun p hp => absurd hp List.not_mem_nil⟩
 ·obtain ⟨q, e, rfl⟩ := this; exact e
 rintro st ⟨i, k, L, rfl, hi, hk, hlen, hsp, hm, hA, hN⟩
 have n1 : (L.map (·.1)).length ≤ 140 := by rw [List.length_map]; omega
 have n2 : (L.map (·.2)).length ≤ 140 := by rw [List.length_map]; omega
 have a1 : ∀ x : ByteArray, app 16 (L.map (·.1)) [x] = some (L.map (·.1) ++ [x]) := fun x => app_one _ x (m := 16) (n := 1001) (by decide) (by omega) (by decide)
 have a2 : ∀ x : Ty, app 56 (L.map (·.2)) [x] = some (L.map (·.2) ++ [x]) := fun x => app_one _ x (m := 56) (n := 1001) (by decide) (by omega) (by decide)
 -- the next attribute
 have stepA : ∀ x : AttrG, (hi' : i < s.attrs.length) → s.attrs[i]? = some x → (∀ n ∈ s.nested.drop k, Op.bytesLess x.name.toList n.name.toList = true) →
   gQ3f s ((i : Int), (k : Int), L.map (·.2), L.map (·.1)) = some (.inl (((i + 1 : Nat) : Int), (k : Int), L.map (·.2) ++ [x.type_], L.map (·.1) ++ [x.name])) →
   (∃ s', gQ3f s ((i : Int), (k : Int), L.map (·.2), L.map (·.1)) = some (.inl s') ∧ (∃ (i k : Nat) (L : List (ByteArray × Ty)), s' = ((i : Int), (k : Int), L.map (·.2), L.map (·.1)) ∧ i ≤ s.attrs.length ∧ k ≤ s.nested.length ∧ L.length = i + k ∧ SP L ∧ (∀ p, p ∈ L ↔ (∃ a ∈ s.attrs.take i, p = ap a) ∨ ∃ n ∈ s.nested.take k, p = np n) ∧
   (∀ p ∈ L, ∀ a ∈ s.attrs.drop i, Op.bytesLess p.1.toList a.name.toList = true) ∧ (∀ p ∈ L, ∀ n ∈ s.nested.drop k, Op.bytesLess p.1.toList n.name.toList = true)) ∧ (s.attrs.length - s'.1.toNat) + (s.nested.length - s'.2.1.toNat) < (s.attrs.length - (i : Int).toNat) + (s.nested.length - (k : Int).toNat)) := by
  intro x hi' hx hlt e
  obtain ⟨_, rfl⟩ := List.getElem?_eq_some_iff.1 hx
  have hdr : s.attrs.drop i = s.attrs[i] :: s.attrs.drop (i + 1) := List.drop_eq_getElem_cons hi'
  have hpw : ∀ a ∈ s.attrs.drop (i + 1), Op.bytesLess s.attrs[i].name.toList a.name.toList = true := by
   have := h.ra.drop (i := i)
   rw [hdr] at this
   exact (List.pairwise_cons.1 this).1
  refine ⟨_, e, ⟨i + 1, k, L ++ [ap s.attrs[i]], by simp [ap], hi', hk, by simp [hlen]; omega, ?_, fun p => ?_, fun p hp a ha => ?_, fun p hp n hn => ?_⟩, by simp only [Int.toNat_natCast]; omega⟩
  ·refine List.pairwise_append.2 ⟨hsp, List.pairwise_singleton _ _, fun p hp q hq => ?_⟩
   obtain rfl := List.mem_singleton.1 hq
   exact hA p hp _ (by rw [hdr]; exact List.mem_cons_self)
  ·rw [List.mem_append, hm, List.mem_singleton]
   constructor
   ·rintro ((⟨a, h1, h2⟩ | h) | h)
    ·exact .inl ⟨a, (take_mem hx).2 (.inl h1), h2⟩
    ·exact .inr h
    ·exact .inl ⟨_, (take_mem hx).2 (.inr rfl), h⟩
   ·rintro (⟨a, h1, h2⟩ | h)
    ·rcases (take_mem hx).1 h1 with k | rfl
     ·exact .inl (.inl ⟨a, k, h2⟩)
     ·exact .inr h2
    ·exact .inl (.inr h)
  ·rcases List.mem_append.1 hp with hp | hp
   ·exact hA p hp a (by rw [hdr]; exact List.mem_cons_of_mem _ ha)
   ·obtain rfl := List.mem_singleton.1 hp
    exact hpw a ha
  ·rcases List.mem_append.1 hp with hp | hp
   ·exact hN p hp n hn
   ·obtain rfl := List.mem_singleton.1 hp
    exact hlt n hn
 have stepN : ∀ x : NestedG, (hk' : k < s.nested.length) → s.nested[k]? = some x → (∀ a ∈ s.attrs.drop i, Op.bytesLess x.name.toList a.name.toList = true) →
   gQ3f s ((i : Int), (k : Int), L.map (·.2), L.map (·.1)) = some (.inl ((i : Int), ((k + 1 : Nat) : Int), L.map (·.2) ++ [nt x], L.map (·.1) ++ [x.name])) →
   (∃ s', gQ3f s ((i : Int), (k : Int), L.map (·.2), L.map (·.1)) = some (.inl s') ∧ (∃ (i k : Nat) (L : List (ByteArray × Ty)), s' = ((i : Int), (k : Int), L.map (·.2), L.map (·.1)) ∧ i ≤ s.attrs.length ∧ k ≤ s.nested.length ∧ L.length = i + k ∧ SP L ∧ (∀ p, p ∈ L ↔ (∃ a ∈ s.attrs.take i, p = ap a) ∨ ∃ n ∈ s.nested.take k, p = np n) ∧
   (∀ p ∈ L, ∀ a ∈ s.attrs.drop i, Op.bytesLess p.1.toList a.name.toList = true) ∧ (∀ p ∈ L, ∀ n ∈ s.nested.drop k, Op.bytesLess p.1.toList n.name.toList = true)) ∧ (s.attrs.length - s'.1.toNat) + (s.nested.length - s'.2.1.toNat) < (s.attrs.length - (i : Int).toNat) + (s.nested.length - (k : Int).toNat)) := by
  intro x hk' hx hlt e
  obtain ⟨_, rfl⟩ := List.getElem?_eq_some_iff.1 hx
  have hdr : s.nested.drop k = s.nested[k] :: s.nested.drop (k + 1) := List.drop_eq_getElem_cons hk'
  have hpw : ∀ a ∈ s.nested.drop (k + 1), Op.bytesLess s.nested[k].name.toList a.name.toList = true := by
   have := h.rn.drop (i := k)
   rw [hdr] at this
   exact (List.pairwise_cons.1 this).1
  refine ⟨_, e, ⟨i, k + 1, L ++ [np s.nested[k]], by simp [np], hi, hk', by simp [hlen]; omega, ?_, fun p => ?_, fun p hp a ha => ?_, fun p hp n hn => ?_⟩, by simp only [Int.toNat_natCast]; omega⟩
  ·refine List.pairwise_append.2 ⟨hsp, List.pairwise_singleton _ _, fun p hp q hq => ?_⟩
   obtain rfl := List.mem_singleton.1 hq
   exact hN p hp _ (by rw [hdr]; exact List.mem_cons_self)
  ·rw [List.mem_append, hm, List.mem_singleton]
   constructor
   ·rintro ((h | ⟨a, h1, h2⟩) | h)
    ·exact .inl h
    ·exact .inr ⟨a, (take_mem hx).2 (.inl h1), h2⟩
    ·exact .inr ⟨_, (take_mem hx).2 (.inr rfl), h⟩
   ·rintro (h | ⟨a, h1, h2⟩)
    ·exact .inl (.inl h)
    ·rcases (take_mem hx).1 h1 with k | rfl
     ·exact .inl (.inr ⟨a, k, h2⟩)
     ·exact .inr h2
  ·rcases List.mem_append.1 hp with hp | hp
   ·exact hA p hp a ha
   ·obtain rfl := List.mem_singleton.1 hp
    exact hlt a ha
  ·rcases List.mem_append.1 hp with hp | hp
   ·exact hN p hp n (by rw [hdr]; exact List.mem_cons_of_mem _ hn)
   ·obtain rfl := List.mem_singleton.1 hp
    exact hpw n hn
 by_cases hi' : i < s.attrs.length
 ·have hx := List.getElem?_eq_getElem hi'
  have w := wrap_nat hi' (show s.attrs.length ≤ 9223372036854775807 by omega)
  by_cases hk' : k < s.nested.length
  ·have hy := List.getElem?_eq_getElem hk'
   have wk := wrap_nat hk' (show s.nested.length ≤ 9223372036854775807 by omega)
   have ho := robject_spec12 s.nested[k].attrs (by have := h.lk _ (List.getElem_mem hk'); omega)
   cases hb : Op.bytesLess s.attrs[i].name.toList s.nested[k].name.toList with
   | true =>
    refine .inl (stepA _ hi' hx (fun n hn => ?_) ?_)
    ·rw [List.drop_eq_getElem_cons hk'] at hn
     rcases List.mem_cons.1 hn with rfl | hn
     ·exact hb
     ·have := h.rn.drop (i := k)
      rw [List.drop_eq_getElem_cons hk'] at this
      exact less_trans hb ((List.pairwise_cons.1 this).1 n hn)
    ·simp only [gQ3f, decide_eq_true (show (i : Int) < s.attrs.length by omega), cond_true, decide_eq_false (show ¬ (k : Int) = s.nested.length by omega), cond_false, idx_nat, hx, hy, Option.bind_some, hb, a1, a2, w]
   | false =>
    have hlt : Op.bytesLess s.nested[k].name.toList s.attrs[i].name.toList = true := by
     rcases less_total s.nested[k].name.toList s.attrs[i].name.toList with q | q | q
     ·exact q
     ·exact absurd (ba_ext q).symm (h.dj _ (List.getElem_mem hi') _ (List.getElem_mem hk'))
     ·rw [q] at hb; cases hb
    refine .inl (stepN _ hk' hy (fun a ha => ?_) ?_)
    ·rw [List.drop_eq_getElem_cons hi'] at ha
     rcases List.mem_cons.1 ha with rfl | ha
     ·exact hlt
     ·have := h.ra.drop (i := i)
      rw [List.drop_eq_getElem_cons hi'] at this
      exact less_trans hlt ((List.pairwise_cons.1 this).1 a ha)
    ·simp only [gQ3f, decide_eq_true (show (i : Int) < s.attrs.length by omega), cond_true, decide_eq_false (show ¬ (k : Int) = s.nested.length by omega), cond_false, idx_nat, hx, hy, Option.bind_some, hb, ho, a1, a2, wk]; rfl
  ·obtain rfl : k = s.nested.length := by omega
   refine .inl (stepA _ hi' hx (fun n hn => by rw [List.drop_length] at hn; exact absurd hn List.not_mem_nil) ?_)
   simp only [gQ3f, decide_eq_true (show (i : Int) < s.attrs.length by omega), cond_true, decide_true, idx_nat, hx, Option.bind_some, a1, a2, w]
 ·obtain rfl : i = s.attrs.length := by omega
  by_cases hk' : k < s.nested.length
  ·have hy := List.getElem?_eq_getElem hk'
   have wk := wrap_nat hk' (show s.nested.length ≤ 9223372036854775807 by omega)
   have ho := robject_spec12 s.nested[k].attrs (by have := h.lk _ (List.getElem_mem hk'); omega)
   refine .inl (stepN _ hk' hy (fun n hn => by rw [List.drop_length] at hn; exact absurd hn List.not_mem_nil) ?_)
   simp only [gQ3f, decide_eq_false (show ¬ (s.attrs.length : Int) < s.attrs.length by omega), cond_true, decide_eq_true (show (k : Int) < s.nested.length by omega), decide_eq_false (show ¬ (k : Int) = s.nested.length by omega), cond_false, idx_nat, hy, Option.bind_some, ho, a1, a2, wk]; rfl
  ·obtain rfl : k = s.nested.length := by omega
   refine .inr ⟨_, ?_, rfl⟩
   simp only [gQ3f, decide_eq_false (show ¬ (s.attrs.length : Int) < s.attrs.length by omega), decide_eq_false (show ¬ (s.nested.length : Int) < s.nested.length by omega), cond_false]
   rw [List.take_length, List.take_length] at hm
   rw [← sp_unique hsp t1 fun p => (hm p).trans (t2 p).symm]; rfl
end Abs
end Go.Proofs.YtkffpfapfljinaaGreatDoor
namespace Go.Proofs.YtkffpfapfljinaaGreatDoor
set_option linter.unusedSimpArgs false
set_option linter.unusedVariables false
namespace Abs
open Go.RowKit
def AttrOk (a : AttrG) : Prop := identS a.name = true ∧ gQ2g a.type_ = some 0 ∧ 1 ≤ a.mode ∧ a.mode ≤ 4 ∧ (a.volatile = true → 3 ≤ a.mode)
theorem modes_prog (m : Int) (v : Bool) : (bif (decide (m < 1)) then some 1 else bif (decide (m > 4)) then some 1 else bif v then bif (decide (m < 3)) then some 1 else some 0 else some 0) = some (if 1 ≤ m ∧ m ≤ 4 ∧ (v = true → 3 ≤ m) then 0 else (1 : Int)) := by
 by_cases h1 : m < 1
 ·rw [decide_eq_true h1, cond_true, if_neg (by omega)]
 by_cases h2 : m > 4
 ·rw [decide_eq_false h1, decide_eq_true h2, cond_false, cond_true, if_neg (by omega)]
 rw [decide_eq_false h1, decide_eq_false h2, cond_false, cond_false]
 cases v
 ·rw [cond_false, if_pos ⟨by omega, by omega, fun h => by cases h⟩]
 ·rw [cond_true]
  by_cases h3 : m < 3
  ·rw [decide_eq_true h3, cond_true, if_neg (fun h => by have := h.2.2 rfl; omega)]
  ·rw [decide_eq_false h3, cond_false, if_pos ⟨by omega, by omega, fun _ => by omega⟩]
theorem modes_ref (m : Int) (v : Bool) : (bif (decide (m < 1)) then some 1 else bif (decide (m > 4)) then some 1 else bif v then bif (decide (m = 1)) then some 1 else bif (decide (m = 2)) then some 1 else some 0 else some 0) = some (if 1 ≤ m ∧ m ≤ 4 ∧ (v = true → 3 ≤ m) then 0 else (1 : Int)) := by
 by_cases h1 : m < 1
 ·rw [decide_eq_true h1, cond_true, if_neg (by omega)]
 by_cases h2 : m > 4
 ·rw [decide_eq_false h1, decide_eq_true h2, cond_false, cond_true, if_neg (by omega)]
 rw [decide_eq_false h1, decide_eq_false h2, cond_false, cond_false]
 cases v
 ·rw [cond_false, if_pos ⟨by omega, by omega, fun h => by cases h⟩]
 ·rw [cond_true]
  by_cases h3 : m = 1
  ·rw [decide_eq_true h3, cond_true, if_neg (fun h => by have := h.2.2 rfl; omega)]
  by_cases h4 : m = 2
  ·rw [decide_eq_false h3, decide_eq_true h4, cond_false, cond_true, if_neg (fun h => by have := h.2.2 rfl; omega)]
  ·rw [decide_eq_false h3, decide_eq_false h4, cond_false, cond_false, if_pos ⟨by omega, by omega, fun _ => by omega⟩]
theorem attr_spec (a : AttrG) (last : ByteArray) (first : Bool) (hf : AFits a) :
  ∃ r, gQ4j a last first = some r ∧ gQ3h a last first = some r ∧ (r = 0 ↔ (first = false → Op.bytesLess last.toList a.name.toList = true) ∧ AttrOk a) := by
 obtain ⟨e, he, _⟩ := CheckT_spec a.type_ hf.2.1
 have he2 := (Check_same a.type_ hf.2.1).trans he
 unfold gQ4j gQ3h
 rw [ident_prog _ hf.1, ident_ref _ hf.1, Option.bind_some, Option.bind_some]
 cases hi : identS a.name with
 | false => exact ⟨7, rfl, rfl, fun h => by omega, fun h => by have := h.2.1; rw [hi] at this; cases this⟩
 | true =>
  rw [Bool.not_true, cond_false, cond_false]
  have tail : ∃ r, ((gQ6b a.type_).bind fun y5 => bif (!decide (y5 = 0)) then some (y5) else bif (decide (a.mode < 1)) then some (1) else bif (decide (a.mode > 4)) then some (1) else bif a.volatile then bif (decide (a.mode < 3)) then some (1) else some (0) else some (0)) = some r ∧
    ((gQ2g a.type_).bind fun y5 => bif (!decide (y5 = 0)) then some (y5) else bif (decide (a.mode < 1)) then some (1) else bif (decide (a.mode > 4)) then some (1) else bif a.volatile then bif (decide (a.mode = 1)) then some (1) else bif (decide (a.mode = 2)) then some (1) else some (0) else some (0)) = some r ∧ (r = 0 ↔ AttrOk a) := by
   rw [he, he2, Option.bind_some, Option.bind_some, modes_prog, modes_ref]
   by_cases h0 : e = 0
   ·rw [decide_eq_true h0, Bool.not_true, cond_false]
    refine ⟨_, rfl, rfl, ?_⟩
    unfold AttrOk
    rw [he]
    by_cases hm : 1 ≤ a.mode ∧ a.mode ≤ 4 ∧ (a.volatile = true → 3 ≤ a.mode)
    ·rw [if_pos hm]; exact ⟨fun _ => ⟨hi, by rw [h0], hm⟩, fun _ => rfl⟩
    ·rw [if_neg hm]; exact ⟨fun h => by omega, fun h => absurd h.2.2 hm⟩
   ·rw [decide_eq_false h0, Bool.not_false, cond_true]
    refine ⟨e, rfl, rfl, fun h => absurd h h0, fun h => ?_⟩
    have := h.2.1
    rw [he] at this
    exact Option.some.inj this
  obtain ⟨r, t1, t2, t3⟩ := tail
  cases first with
  | true =>
   rw [Bool.not_true, cond_false, cond_false]
   exact ⟨r, t1, t2, t3.trans ⟨fun h => ⟨(fun k => by cases k), h⟩, fun h => h.2⟩⟩
  | false =>
   rw [Bool.not_false, cond_true, cond_true, leq_not]
   cases hl : Op.bytesLess last.toList a.name.toList with
   | false => exact ⟨1, rfl, rfl, fun h => by omega, fun h => by have := h.1 rfl; cases this⟩
   | true =>
    rw [Bool.not_true, cond_false, cond_false]
    exact ⟨r, t1, t2, t3.trans ⟨fun h => ⟨fun _ => rfl, h⟩, fun h => h.2⟩⟩
def AttrsOk (l : List AttrG) (cfg : Bool) : Prop := (∀ a ∈ l, AttrOk a ∧ (cfg = true → a.mode ≤ 2)) ∧ l.Pairwise fun a b => Op.bytesLess a.name.toList b.name.toList = true
theorem pairwise_adj {l : List AttrG} (h : ∀ (i : Nat) a b, l[i]? = some a → l[i + 1]? = some b → Op.bytesLess a.name.toList b.name.toList = true) : l.Pairwise fun a b => Op.bytesLess a.name.toList b.name.toList = true := by
 have := pair_of_rising (rising_adj (l := l.map (·.name)) fun i a b ha hb => by
  rw [List.getElem?_map, Option.map_eq_some_iff] at ha hb
  obtain ⟨x, hx, rfl⟩ := ha
  obtain ⟨y, hy, rfl⟩ := hb
  exact h i x y hx hy)
 exact List.pairwise_map.1 this
theorem pairwise_adjN {l : List NestedG} (h : ∀ (i : Nat) a b, l[i]? = some a → l[i + 1]? = some b → Op.bytesLess a.name.toList b.name.toList = true) : l.Pairwise fun a b => Op.bytesLess a.name.toList b.name.toList = true := by
 have := pair_of_rising (rising_adj (l := l.map (·.name)) fun i a b ha hb => by
  rw [List.getElem?_map, Option.map_eq_some_iff] at ha hb
  obtain ⟨x, hx, rfl⟩ := ha
  obtain ⟨y, hy, rfl⟩ := hb
  exact h i x y hx hy)
 exact List.pairwise_map.1 this
theorem attrs_spec (l : List AttrG) (cfg : Bool) (hl : l.length ≤ 1000) (hf : ∀ a ∈ l, AFits a) :
  ∃ r, gQ4l l cfg = some r ∧ gQ3j l cfg = some r ∧ (r = 0 ↔ AttrsOk l cfg) := by
 unfold gQ4l gQ3j
 have := loop_rel (b1 := gQ4m l) (b2 := gQ3k l) (fun s t => ∃ (i : Nat) (last : ByteArray), s = (cfg, (i : Int), last) ∧ t = (cfg, last, (i : Int)) ∧ i ≤ l.length ∧ (∀ a, 0 < i → l[i - 1]? = some a → a.name = last) ∧ (∀ (j : Nat) a, j < i → l[j]? = some a → AttrOk a ∧ (cfg = true → a.mode ≤ 2)) ∧ ∀ (j : Nat) a b, j + 1 < i → l[j]? = some a → l[j + 1]? = some b → Op.bytesLess a.name.toList b.name.toList = true)
  (fun s => l.length - s.2.1.toNat) (fun p q => p = q ∧ (p = 0 ↔ AttrsOk l cfg)) ?_ (cfg, 0, eS) (cfg, eS, 0) ⟨0, eS, rfl, rfl, Nat.zero_le _, fun a h => by omega, fun j a h => by omega, fun j a b h => by omega⟩
 ·obtain ⟨p, q, h1, h2, rfl, h3⟩ := this
  exact ⟨p, h1, h2, h3⟩
 rintro s t ⟨i, last, rfl, rfl, hi, hla, hok, hadj⟩
 rcases Nat.eq_or_lt_of_le hi with h0 | h0
 ·subst h0
  refine .inr ⟨0, 0, by simp only [gQ4m, decide_eq_false (show ¬ (l.length : Int) < l.length by omega), cond_false], by simp only [gQ3k, decide_eq_false (show ¬ (l.length : Int) < l.length by omega), cond_false], rfl, fun _ => ⟨fun a ha => ?_, pairwise_adj fun j a b ha hb => hadj j a b (List.getElem?_eq_some_iff.1 hb).1 ha hb⟩, fun _ => rfl⟩
  obtain ⟨j, hj⟩ := List.getElem?_of_mem ha
  exact hok j a (List.getElem?_eq_some_iff.1 hj).1 hj
 ·have hx := List.getElem?_eq_getElem h0
  have hmem := List.getElem_mem h0
  have w := wrap_nat h0 (show l.length ≤ 9223372036854775807 by omega)
  obtain ⟨r, r1, r2, r3⟩ := attr_spec l[i] last (decide ((i : Int) = 0)) (hf _ hmem)
  have hlt : decide ((i : Int) < (l.length : Int)) = true := decide_eq_true (by omega)
  -- all is right so far: the name is above the last
  have above : AttrsOk l cfg → decide ((i : Int) = 0) = false → Op.bytesLess last.toList l[i].name.toList = true := by
   rintro ⟨_, k2⟩ hd
   have hi0 : 0 < i := by
    rcases Nat.eq_zero_or_pos i with rfl | k
    ·simp at hd
    ·exact k
   have hp : i - 1 < l.length := by omega
   have := hla _ hi0 (List.getElem?_eq_getElem hp)
   rw [← this]
   exact List.pairwise_iff_getElem.1 k2 (i - 1) i hp h0 (by omega)
  by_cases hr : r = 0
  ·obtain ⟨k1, k2⟩ := r3.1 hr
   have next : cfg = true → l[i].mode ≤ 2 → True := fun _ _ => trivial
   by_cases hm : cfg = true ∧ l[i].mode > 2
   ·refine .inr ⟨1, 1, ?_, ?_, rfl, fun h => by omega, fun h => ?_⟩
    ·simp only [gQ4m, hlt, cond_true, idx_nat, hx, Option.bind_some, r1, decide_eq_true hr, Bool.not_true, cond_false, hm.1, decide_eq_true hm.2]
    ·simp only [gQ3k, hlt, cond_true, idx_nat, hx, Option.bind_some, r2, decide_eq_true hr, Bool.not_true, cond_false, hm.1, decide_eq_false (show ¬ l[i].mode = 1 by have := hm.2; omega), decide_eq_false (show ¬ l[i].mode = 2 by have := hm.2; omega), Bool.not_false]
    ·have := (h.1 _ hmem).2 hm.1
     have := hm.2
     omega
   ·have hmo : cfg = true → l[i].mode ≤ 2 := fun h => Int.not_lt.1 fun k => hm ⟨h, k⟩
    refine .inl ⟨(cfg, ((i + 1 : Nat) : Int), l[i].name), (cfg, l[i].name, ((i + 1 : Nat) : Int)), ?_, ?_, ⟨i + 1, l[i].name, rfl, rfl, h0, fun a _ ha => ?_, fun j a hj ha => ?_, fun j a b hj ha hb => ?_⟩, by simp only [Int.toNat_natCast]; omega⟩
    ·simp only [gQ4m, hlt, cond_true, idx_nat, hx, Option.bind_some, r1, decide_eq_true hr, Bool.not_true, cond_false, w]
     cases cfg with
     | false => rfl
     | true => rw [cond_true, decide_eq_false (show ¬ l[i].mode > 2 by have := hmo rfl; omega), cond_false]
    ·simp only [gQ3k, hlt, cond_true, idx_nat, hx, Option.bind_some, r2, decide_eq_true hr, Bool.not_true, cond_false, w]
     cases cfg with
     | false => rfl
     | true =>
      rw [cond_true]
      by_cases m1 : l[i].mode = 1
      ·rw [decide_eq_true m1, Bool.not_true, cond_false]
      ·have m2 : l[i].mode = 2 := by have := hmo rfl; have := k2.2.2.1; omega
       rw [decide_eq_false m1, decide_eq_true m2, Bool.not_false, cond_true, Bool.not_true, cond_false]
    ·rw [Nat.add_sub_cancel, hx] at ha; cases ha; rfl
    ·rcases Nat.eq_or_lt_of_le (Nat.le_of_lt_succ hj) with rfl | hj
     ·rw [hx] at ha; cases ha; exact ⟨k2, hmo⟩
     ·exact hok j a hj ha
    ·rcases Nat.eq_or_lt_of_le (show j + 1 ≤ i by omega) with e | hj
     ·subst e
      rw [hx] at hb; cases hb
      have := hla a (by omega) (by rw [Nat.add_sub_cancel]; exact ha)
      rw [this]
      exact k1 (decide_eq_false (by omega))
     ·exact hadj j a b hj ha hb
  ·refine .inr ⟨r, r, ?_, ?_, rfl, fun h => absurd h hr, fun h => absurd (r3.2 ⟨above h, (h.1 _ hmem).1⟩) hr⟩
   ·simp only [gQ4m, hlt, cond_true, idx_nat, hx, Option.bind_some, r1, decide_eq_false hr, Bool.not_false]
   ·simp only [gQ3k, hlt, cond_true, idx_nat, hx, Option.bind_some, r2, decide_eq_false hr, Bool.not_false]
structure KindOk (s : SchemaG) (i : Nat) (n : NestedG) : Prop where
 id : identS n.name = true
 up : ∀ m, 0 < i → s.nested[i - 1]? = some m → Op.bytesLess m.name.toList n.name.toList = true
 new : (findA n.name s.attrs).2 = false
 mn : 0 ≤ n.min
 mm : n.min ≤ n.max
 mx : n.max ≤ 256
 few : n.attrs.length ≤ 64
 attrs : AttrsOk n.attrs true
theorem kind_spec12 (s : SchemaG) (i : Nat) (n : NestedG) (hi : s.nested[i]? = some n) (hn : NFits n) (hs : s.attrs.length ≤ 1000) (hsf : ∀ a ∈ s.attrs, a.type_.Fits) (hl : s.nested.length ≤ 1000) :
  ∃ r, gQ5p s (i : Int) = some r ∧ gQ3m s (i : Int) = some r ∧ (r = 0 ↔ KindOk s i n) := by
 obtain ⟨hil, _⟩ := List.getElem?_eq_some_iff.1 hi
 have hx : idx s.nested (i : Int) = some n := by rw [idx_nat]; exact hi
 unfold gQ5p gQ3m
 rw [hx, Option.bind_some, Option.bind_some, ident_prog _ hn.1, ident_ref _ hn.1, Option.bind_some, Option.bind_some]
 cases hid : identS n.name with
 | false => exact ⟨7, rfl, rfl, fun h => by omega, fun h => by have := h.id; rw [hid] at this; cases this⟩
 | true =>
  rw [Bool.not_true, cond_false, cond_false, Find_spec s n.name (by omega) hsf, Attr_spec s.attrs n.name (by omega)]
  simp only [Option.bind_some]
  have tail : ∃ r, (bif (findA n.name s.attrs).2 then some (8 : Int) else bif (decide (n.min < 0)) then some (1) else bif (decide (n.max < n.min)) then some (1) else bif (decide (n.max > 256)) then some (1) else bif (decide ((n.attrs.length : Int) > 64)) then some (14) else (gQ4l n.attrs true).bind fun y20 => some (y20)) = some r ∧
    (bif (findA n.name s.attrs).2 then some (8 : Int) else bif (decide (n.min < 0)) then some (1) else bif (decide (n.max < n.min)) then some (1) else bif (decide (n.max > 256)) then some (1) else bif (decide ((n.attrs.length : Int) > 64)) then some (14) else (gQ3j n.attrs true).bind fun y20 => some (y20)) = some r ∧
    (r = 0 ↔ (findA n.name s.attrs).2 = false ∧ 0 ≤ n.min ∧ n.min ≤ n.max ∧ n.max ≤ 256 ∧ n.attrs.length ≤ 64 ∧ AttrsOk n.attrs true) := by
   cases hfa : (findA n.name s.attrs).2 with
   | true => exact ⟨8, rfl, rfl, fun h => by omega, fun h => by cases h.1⟩
   | false =>
    rw [cond_false, cond_false]
    by_cases h1 : n.min < 0
    ·rw [decide_eq_true h1]; exact ⟨1, rfl, rfl, fun h => by omega, fun h => by omega⟩
    by_cases h2 : n.max < n.min
    ·rw [decide_eq_false h1, decide_eq_true h2]; exact ⟨1, rfl, rfl, fun h => by omega, fun h => by omega⟩
    by_cases h3 : n.max > 256
    ·rw [decide_eq_false h1, decide_eq_false h2, decide_eq_true h3]; exact ⟨1, rfl, rfl, fun h => by omega, fun h => by omega⟩
    by_cases h4 : (n.attrs.length : Int) > 64
    ·rw [decide_eq_false h1, decide_eq_false h2, decide_eq_false h3, decide_eq_true h4]; exact ⟨14, rfl, rfl, fun h => by omega, fun h => by omega⟩
    obtain ⟨r, r1, r2, r3⟩ := attrs_spec n.attrs true (by omega) hn.2.2.2.1.2
    rw [decide_eq_false h1, decide_eq_false h2, decide_eq_false h3, decide_eq_false h4, r1, r2]
    exact ⟨r, rfl, rfl, r3.trans ⟨fun h => ⟨rfl, by omega, by omega, by omega, by omega, h⟩, fun h => h.2.2.2.2.2⟩⟩
  obtain ⟨r, t1, t2, t3⟩ := tail
  by_cases h0 : (i : Int) > 0
  ·have hp : i - 1 < s.nested.length := by omega
   have hw : IntKind.i64.wrap ((i : Int) - 1) = ((i - 1 : Nat) : Int) := by
    rw [show (i : Int) - 1 = ((i - 1 : Nat) : Int) by omega]; exact wrap_in (by omega) (by omega)
   have hy := List.getElem?_eq_getElem hp
   rw [decide_eq_true h0, cond_true, cond_true, hw, idx_nat, hy, Option.bind_some, Option.bind_some, leq_not]
   cases hl : Op.bytesLess s.nested[i - 1].name.toList n.name.toList with
   | false => exact ⟨1, rfl, rfl, fun h => by omega, fun h => by have := h.up _ (by omega) hy; rw [hl] at this; cases this⟩
   | true =>
    rw [Bool.not_true, cond_false, cond_false]
    exact ⟨r, t1, t2, t3.trans ⟨fun ⟨a, b, c, d, e, f⟩ => ⟨hid, fun m _ hm => by rw [hy] at hm; cases hm; exact hl, a, b, c, d, e, f⟩, fun h => ⟨h.new, h.mn, h.mm, h.mx, h.few, h.attrs⟩⟩⟩
  ·rw [decide_eq_false h0, cond_false, cond_false]
   exact ⟨r, t1, t2, t3.trans ⟨fun ⟨a, b, c, d, e, f⟩ => ⟨hid, fun m hm _ => by omega, a, b, c, d, e, f⟩, fun h => ⟨h.new, h.mn, h.mm, h.mx, h.few, h.attrs⟩⟩⟩
def sId : ByteArray := ⟨#[105, 100]⟩
structure SchemaOk (s : SchemaG) : Prop where
 la : s.attrs.length ≤ 64
 ln : s.nested.length ≤ 64
 attrs : AttrsOk s.attrs false
 kinds : ∀ (i : Nat) n, s.nested[i]? = some n → KindOk s i n
 has : (findA sId s.attrs).2 = true
 mode : (findA sId s.attrs).1.mode = 3
 kind : (findA sId s.attrs).1.type_.kind = 3
 vol : (findA sId s.attrs).1.volatile = false
 type : gQ2g (tyOf (typL s)) = some 0
theorem names_of {s : SchemaG} (h1 : s.attrs.length ≤ 70) (h2 : s.nested.length ≤ 70) (h3 : AttrsOk s.attrs false) (h4 : ∀ (i : Nat) n, s.nested[i]? = some n → KindOk s i n) : NamesOk s where
 la := h1
 ln := h2
 ra := h3.2
 rn := pairwise_adjN fun i a b ha hb => (h4 (i + 1) b hb).up a (Nat.succ_pos _) (by rw [Nat.add_sub_cancel]; exact ha)
 dj := fun a ha n hn => by
  obtain ⟨i, hi⟩ := List.getElem?_of_mem hn
  exact (findA_no (h4 i n hi).new).2 a ha
 lk := fun n hn => by
  obtain ⟨i, hi⟩ := List.getElem?_of_mem hn
  have := (h4 i n hi).few
  omega
theorem obj_fits {l : List AttrG} (hl : l.length ≤ 1000) (hf : ∀ a ∈ l, AFits a) : (objT l).Fits :=
 .mk (by decide) (by rw [List.length_map]; omega) (by rw [List.length_map]; omega) (fun t ht => by
  obtain ⟨a, ha, rfl⟩ := List.mem_map.1 ht
  exact (hf a ha).1) fun x hx => by
  obtain ⟨a, ha, rfl⟩ := List.mem_map.1 hx
  exact (hf a ha).2.1
theorem nt_fits {n : NestedG} (hl : n.attrs.length ≤ 1000) (hf : NFits n) : (nt n).Fits :=
 .mk (by decide) (by simp) (by simp) (fun t ht => absurd ht List.not_mem_nil) fun x hx => by
  obtain rfl := List.mem_singleton.1 hx
  exact obj_fits hl hf.2.2.2.1.2
theorem ty_fits {s : SchemaG} (h : NamesOk s) (hf : SFits s) : (tyOf (typL s)).Fits := by
 obtain ⟨t1, t2, t3⟩ := typL_facts h
 have h1 := h.la
 have h2 := h.ln
 refine .mk (by decide) (by rw [List.length_map]; omega) (by rw [List.length_map]; omega) (fun t ht => ?_) fun x hx => ?_
 ·obtain ⟨p, hp, rfl⟩ := List.mem_map.1 ht
  rcases (t2 p).1 hp with ⟨a, ha, rfl⟩ | ⟨n, hn, rfl⟩
  ·exact (hf.1.2 a ha).1
  ·exact (hf.2.2 n hn).1
 ·obtain ⟨p, hp, rfl⟩ := List.mem_map.1 hx
  rcases (t2 p).1 hp with ⟨a, ha, rfl⟩ | ⟨n, hn, rfl⟩
  ·exact (hf.1.2 a ha).2.1
  ·exact nt_fits (by have := h.lk n hn; omega) (hf.2.2 n hn)
theorem Check_spec12 (s : SchemaG) (hf : SFits s) (h1 : s.attrs.length ≤ 70) (h2 : s.nested.length ≤ 70) : ∃ r, gQ3w s = some r ∧ gQ35 s = some r ∧ (r = 0 ↔ SchemaOk s) := by
 unfold gQ3w gQ35
 have hmax : decide ((if (s.nested.length : Int) > (s.attrs.length : Int) then (s.nested.length : Int) else (s.attrs.length : Int)) > 64) = (decide ((s.attrs.length : Int) > 64) || decide ((s.nested.length : Int) > 64)) := by
  rw [← Bool.decide_or]
  refine decide_eq_decide.2 ?_
  split <;> omega
 rw [hmax]
 by_cases l1 : (s.attrs.length : Int) > 64
 ·rw [decide_eq_true l1]; exact ⟨14, rfl, rfl, fun h => by omega, fun h => by have := h.la; omega⟩
 by_cases l2 : (s.nested.length : Int) > 64
 ·rw [decide_eq_false l1, decide_eq_true l2]; exact ⟨14, rfl, rfl, fun h => by omega, fun h => by have := h.ln; omega⟩
 rw [decide_eq_false l1, decide_eq_false l2, Bool.or_false, cond_false, cond_false, cond_false]
 obtain ⟨r, r1, r2, r3⟩ := attrs_spec s.attrs false (by omega) hf.1.2
 rw [r1, r2, Option.bind_some, Option.bind_some]
 by_cases hr : r = 0
 rotate_left
 ·rw [decide_eq_false hr]; exact ⟨r, rfl, rfl, fun h => absurd h hr, fun h => absurd (r3.2 h.attrs) hr⟩
 rw [decide_eq_true hr, Bool.not_true, cond_false, cond_false]
 have hA := r3.1 hr
 have hft : ∀ a ∈ s.attrs, a.type_.Fits := fun a ha => (hf.1.2 a ha).2.1
 have := loop_rel (b1 := gQ3x s) (b2 := gQ36 s) (fun x y => ∃ i : Nat, x = (i : Int) ∧ y = (i : Int) ∧ i ≤ s.nested.length ∧ ∀ (j : Nat) n, j < i → s.nested[j]? = some n → KindOk s j n)
  (fun x => s.nested.length - x.toNat) (fun p q => p = q ∧ (p = 0 ↔ SchemaOk s)) ?_ 0 0 ⟨0, rfl, rfl, Nat.zero_le _, fun j n h => by omega⟩
 ·obtain ⟨p, q, e1, e2, rfl, e3⟩ := this
  exact ⟨p, e1, e2, e3⟩
 rintro x y ⟨i, rfl, rfl, hi, hk⟩
 rcases Nat.eq_or_lt_of_le hi with h0 | h0
 ·subst h0
  right
  have hK : ∀ (j : Nat) n, s.nested[j]? = some n → KindOk s j n := fun j n hj => hk j n (List.getElem?_eq_some_iff.1 hj).1 hj
  have hN := names_of h1 h2 hA hK
  obtain ⟨e, he, _⟩ := CheckT_spec _ (ty_fits hN hf)
  simp only [gQ3x, gQ36, decide_eq_false (show ¬ (s.nested.length : Int) < s.nested.length by omega), cond_false, Find_spec s _ (show s.attrs.length ≤ 9223372036854775807 by omega) hft, Attr_spec s.attrs _ (show s.attrs.length ≤ 9223372036854775807 by omega), Option.bind_some, Type_spec s hN hf, rType_spec s hN, Check_same _ (ty_fits hN hf), he]
  show ∃ p q, (bif (!(findA sId s.attrs).2) then some (Sum.inr (12 : Int)) else bif (!decide ((findA sId s.attrs).1.mode = 3)) then some (.inr (1)) else bif (!decide ((findA sId s.attrs).1.type_.kind = 3)) then some (.inr (1)) else bif (findA sId s.attrs).1.volatile then some (.inr (1)) else some (.inr e)) = some (.inr p) ∧ (bif (!(findA sId s.attrs).2) then some (Sum.inr (12 : Int)) else bif (!decide ((findA sId s.attrs).1.mode = 3)) then some (.inr (1)) else bif (!decide ((findA sId s.attrs).1.type_.kind = 3)) then some (.inr (1)) else bif (findA sId s.attrs).1.volatile then some (.inr (1)) else some (.inr e)) = some (.inr q) ∧ p = q ∧ (p = 0 ↔ SchemaOk s)
  cases g1 : (findA sId s.attrs).2 with
  | false => exact ⟨12, 12, rfl, rfl, rfl, fun h => by omega, fun h => by have := h.has; rw [g1] at this; cases this⟩
  | true =>
   by_cases g2 : (findA sId s.attrs).1.mode = 3
   rotate_left
   ·rw [decide_eq_false g2]; exact ⟨1, 1, rfl, rfl, rfl, fun h => by omega, fun h => absurd h.mode g2⟩
   by_cases g3 : (findA sId s.attrs).1.type_.kind = 3
   rotate_left
   ·rw [decide_eq_true g2, decide_eq_false g3]; exact ⟨1, 1, rfl, rfl, rfl, fun h => by omega, fun h => absurd h.kind g3⟩
   rw [decide_eq_true g2, decide_eq_true g3]
   cases g4 : (findA sId s.attrs).1.volatile with
   | true => exact ⟨1, 1, rfl, rfl, rfl, fun h => by omega, fun h => by have := h.vol; rw [g4] at this; cases this⟩
   | false =>
    refine ⟨e, e, rfl, rfl, rfl, fun h => ⟨by omega, by omega, hA, hK, g1, g2, g3, g4, by rw [he, h]⟩, fun h => ?_⟩
    have := h.type
    rw [he] at this
    exact Option.some.inj this
 ·have hx := List.getElem?_eq_getElem h0
  have hmem := List.getElem_mem h0
  have w := wrap_nat h0 (show s.nested.length ≤ 9223372036854775807 by omega)
  obtain ⟨e, e1, e2, e3⟩ := kind_spec12 s i _ hx (hf.2.2 _ hmem) (by omega) hft (by omega)
  by_cases he : e = 0
  ·refine .inl ⟨((i + 1 : Nat) : Int), ((i + 1 : Nat) : Int), ?_, ?_, ⟨i + 1, rfl, rfl, h0, fun j n hj hn => ?_⟩, by simp only [Int.toNat_natCast]; omega⟩
   ·simp only [gQ3x, decide_eq_true (show (i : Int) < s.nested.length by omega), cond_true, e1, Option.bind_some, decide_eq_true he, Bool.not_true, cond_false, w]
   ·simp only [gQ36, decide_eq_true (show (i : Int) < s.nested.length by omega), cond_true, e2, Option.bind_some, decide_eq_true he, Bool.not_true, cond_false, w]
   ·rcases Nat.eq_or_lt_of_le (Nat.le_of_lt_succ hj) with rfl | hj
    ·rw [hx] at hn; cases hn; exact e3.1 he
    ·exact hk j n hj hn
  ·refine .inr ⟨e, e, ?_, ?_, rfl, fun h => absurd h he, fun h => absurd (e3.2 (h.kinds i _ hx)) he⟩
   ·simp only [gQ3x, decide_eq_true (show (i : Int) < s.nested.length by omega), cond_true, e1, Option.bind_some, decide_eq_false he, Bool.not_false]
   ·simp only [gQ36, decide_eq_true (show (i : Int) < s.nested.length by omega), cond_true, e2, Option.bind_some, decide_eq_false he, Bool.not_false]
structure FewOk (s : SchemaG) : Prop where
 la : s.attrs.length ≤ 70
 fa : ∀ a ∈ s.attrs, a.name.size ≤ 200 ∧ Few a.type_
 ln : s.nested.length ≤ 70
 fn : ∀ n ∈ s.nested, n.name.size ≤ 200 ∧ n.attrs.length ≤ 70 ∧ ∀ a ∈ n.attrs, a.name.size ≤ 200 ∧ Few a.type_
theorem small40 (t : Ty) (hf : t.Fits) : ∃ b, gQ2l t 40 = some b ∧ (b = true → Few t) := by
 obtain ⟨r, h1, h2, h3, h4⟩ := left_spec t 40 40 hf (by decide) (by decide) (by decide) (by decide)
 obtain ⟨m, hm⟩ := names_spec t hf
 unfold gQ2l
 rw [h1, Option.bind_some]
 by_cases h0 : r ≥ 0
 ·rw [decide_eq_true h0, cond_true, hm, Option.bind_some]; exact ⟨_, rfl, fun _ => h4 h0⟩
 ·rw [decide_eq_false h0, cond_false]; exact ⟨false, rfl, fun h => by cases h⟩
theorem attrs_few (l : List AttrG) (hf : ∀ a ∈ l, AFits a) : ∃ b, gQ1d l = some b ∧ (b = true → l.length ≤ 70 ∧ ∀ a ∈ l, a.name.size ≤ 200 ∧ Few a.type_) := by
 unfold gQ1d
 by_cases h0 : (l.length : Int) > 70
 ·rw [decide_eq_true h0]; exact ⟨false, rfl, fun h => by cases h⟩
 rw [decide_eq_false h0, cond_false]
 obtain ⟨q, h1, h2⟩ := loop_meas (body := gQ1e l) (fun s => ∃ i : Nat, s = (i : Int) ∧ i ≤ l.length ∧ ∀ (j : Nat) a, j < i → l[j]? = some a → a.name.size ≤ 200 ∧ Few a.type_) (fun s => l.length - s.toNat) (fun b => b = true → l.length ≤ 70 ∧ ∀ a ∈ l, a.name.size ≤ 200 ∧ Few a.type_) (by
  rintro s ⟨i, rfl, hi, hp⟩
  rcases Nat.eq_or_lt_of_le hi with h0 | h0
  ·subst h0
   refine .inr ⟨true, by simp only [gQ1e, decide_eq_false (show ¬ (l.length : Int) < l.length by omega), cond_false], fun _ => ⟨by omega, fun a ha => ?_⟩⟩
   obtain ⟨j, hj⟩ := List.getElem?_of_mem ha
   exact hp j a (List.getElem?_eq_some_iff.1 hj).1 hj
  ·have hx := List.getElem?_eq_getElem h0
   have w := wrap_nat h0 (show l.length ≤ 9223372036854775807 by omega)
   by_cases hn : (l[i].name.size : Int) > 200
   ·exact .inr ⟨false, by simp only [gQ1e, decide_eq_true (show (i : Int) < l.length by omega), cond_true, idx_nat, hx, Option.bind_some, decide_eq_true hn], fun h => by cases h⟩
   obtain ⟨b, b1, b2⟩ := small40 l[i].type_ (hf _ (List.getElem_mem h0)).2.1
   cases b with
   | false => exact .inr ⟨false, by simp only [gQ1e, decide_eq_true (show (i : Int) < l.length by omega), cond_true, idx_nat, hx, Option.bind_some, decide_eq_false hn, cond_false, b1, Bool.not_false], fun h => by cases h⟩
   | true =>
    refine .inl ⟨((i + 1 : Nat) : Int), by simp only [gQ1e, decide_eq_true (show (i : Int) < l.length by omega), cond_true, idx_nat, hx, Option.bind_some, decide_eq_false hn, cond_false, b1, Bool.not_true, w], ⟨i + 1, rfl, h0, fun j a hj ha => ?_⟩, by simp only [Int.toNat_natCast]; omega⟩
    rcases Nat.eq_or_lt_of_le (Nat.le_of_lt_succ hj) with rfl | hj
    ·rw [hx] at ha; cases ha; exact ⟨by omega, b2 rfl⟩
    ·exact hp j a hj ha) 0 ⟨0, rfl, Nat.zero_le _, fun j a hj => by omega⟩
 exact ⟨q, h1, h2⟩
theorem few_spec12 (s : SchemaG) (hf : SFits s) : ∃ b, gQ1l s = some b ∧ (b = true → FewOk s) := by
 unfold gQ1l
 obtain ⟨b, b1, b2⟩ := attrs_few s.attrs hf.1.2
 rw [b1, Option.bind_some]
 cases b with
 | false => exact ⟨false, rfl, fun h => by cases h⟩
 | true =>
  rw [Bool.not_true, cond_false]
  by_cases h0 : (s.nested.length : Int) > 70
  ·rw [decide_eq_true h0]; exact ⟨false, rfl, fun h => by cases h⟩
  rw [decide_eq_false h0, cond_false]
  obtain ⟨c1, c2⟩ := b2 rfl
  obtain ⟨q, h1, h2⟩ := loop_meas (body := gQ1m s) (fun x => ∃ i : Nat, x = (i : Int) ∧ i ≤ s.nested.length ∧ ∀ (j : Nat) n, j < i → s.nested[j]? = some n → n.name.size ≤ 200 ∧ n.attrs.length ≤ 70 ∧ ∀ a ∈ n.attrs, a.name.size ≤ 200 ∧ Few a.type_) (fun x => s.nested.length - x.toNat) (fun b => b = true → FewOk s) (by
   rintro x ⟨i, rfl, hi, hp⟩
   rcases Nat.eq_or_lt_of_le hi with h0 | h0
   ·subst h0
    refine .inr ⟨true, by simp only [gQ1m, decide_eq_false (show ¬ (s.nested.length : Int) < s.nested.length by omega), cond_false], fun _ => ⟨c1, c2, by omega, fun n hn => ?_⟩⟩
    obtain ⟨j, hj⟩ := List.getElem?_of_mem hn
    exact hp j n (List.getElem?_eq_some_iff.1 hj).1 hj
   ·have hx := List.getElem?_eq_getElem h0
    have w := wrap_nat h0 (show s.nested.length ≤ 9223372036854775807 by omega)
    obtain ⟨b, b1, b2⟩ := attrs_few s.nested[i].attrs (hf.2.2 _ (List.getElem_mem h0)).2.2.2.1.2
    cases b with
    | false => exact .inr ⟨false, by simp only [gQ1m, decide_eq_true (show (i : Int) < s.nested.length by omega), cond_true, idx_nat, hx, Option.bind_some, b1, Bool.not_false], fun h => by cases h⟩
    | true =>
     by_cases hn : (s.nested[i].name.size : Int) > 200
     ·exact .inr ⟨false, by simp only [gQ1m, decide_eq_true (show (i : Int) < s.nested.length by omega), cond_true, idx_nat, hx, Option.bind_some, b1, Bool.not_true, cond_false, decide_eq_true hn], fun h => by cases h⟩
     ·refine .inl ⟨((i + 1 : Nat) : Int), by simp only [gQ1m, decide_eq_true (show (i : Int) < s.nested.length by omega), cond_true, idx_nat, hx, Option.bind_some, b1, Bool.not_true, cond_false, decide_eq_false hn, w], ⟨i + 1, rfl, h0, fun j n hj hn2 => ?_⟩, by simp only [Int.toNat_natCast]; omega⟩
      rcases Nat.eq_or_lt_of_le (Nat.le_of_lt_succ hj) with rfl | hj
      ·rw [hx] at hn2; cases hn2; exact ⟨by omega, b2 rfl⟩
      ·exact hp j n hj hn2) 0 ⟨0, rfl, Nat.zero_le _, fun j a hj => by omega⟩
  exact ⟨q, h1, h2⟩
structure SVal (s : SchemaG) : Prop where
 fits : SFits s
 few : FewOk s
 ok : SchemaOk s
theorem SVal.names {s : SchemaG} (h : SVal s) : NamesOk s := names_of h.few.la h.few.ln h.ok.attrs h.ok.kinds
theorem valid_spec12 (s : SchemaG) (hf : SFits s) : ∃ b, gQ20 s = some b ∧ (b = true → SVal s) := by
 unfold gQ20
 obtain ⟨b, b1, b2⟩ := few_spec12 s hf
 rw [b1, Option.bind_some]
 cases b with
 | false => exact ⟨false, rfl, fun h => by cases h⟩
 | true =>
  have hw := b2 rfl
  obtain ⟨r, _, r2, r3⟩ := Check_spec12 s hf hw.la hw.ln
  rw [cond_true, r2, Option.bind_some]
  exact ⟨_, rfl, fun h => ⟨hf, hw, r3.1 (of_decide_eq_true h)⟩⟩
theorem law_Checks0 (ha : gQ1g = some true) (s : SchemaG) (hf : SFits s) : gQ0u s = some true := by
 unfold gQ0u
 obtain ⟨b, b1, b2⟩ := few_spec12 s hf
 rw [b1, Option.bind_some]
 cases b with
 | false => simp only [Bool.not_false, cond_true, ha, Option.bind_some]
 | true =>
  obtain ⟨r, r1, r2, _⟩ := Check_spec12 s hf (b2 rfl).la (b2 rfl).ln
  simp only [Bool.not_true, cond_false, r1, r2, Option.bind_some, decide_true, cond_true, ha]
end Abs
end Go.Proofs.YtkffpfapfljinaaGreatDoor
namespace Go.Proofs.YtkffpfapfljinaaGreatDoor
set_option linter.unusedSimpArgs false
set_option linter.unusedVariables false
namespace Abs
open Go.RowKit
def iota (n : Nat) : List Int := (List.range n).map fun (i : Nat) => (i : Int)
theorem iota_len (n : Nat) : (iota n).length = n := by simp [iota]
theorem order_spec (keys : List ByteArray) (hl : keys.length ≤ 140737488351232) :
  ∃ o, m_sortI keys (iota keys.length) = some o ∧ o.Perm (iota keys.length) ∧ ∀ (i j : Nat) (x y : Int) (a b : ByteArray), i < j → o[i]? = some x → o[j]? = some y → keys[x.toNat]? = some a → keys[y.toNat]? = some b → Op.bytesLess b.toList a.toList = false := by
 have hr : ∀ x ∈ iota keys.length, 0 ≤ x ∧ x < keys.length := fun x hx => by
  simp only [iota, List.mem_map, List.mem_range] at hx
  obtain ⟨i, hi, rfl⟩ := hx
  omega
 unfold m_sortI
 by_cases h0 : iota keys.length = []
 ·rw [if_pos h0]
  exact ⟨[], rfl, by rw [h0], fun i j x y a b _ e => by simp at e⟩
 ·rw [if_neg h0]
  have hpos : 0 < keys.length := Nat.pos_of_ne_zero fun e => h0 (by rw [e]; rfl)
  have hc : 0 < keys.length ∧ (iota keys.length).length < 4611686018427387904 ∧ ∀ x ∈ iota keys.length, 0 ≤ x ∧ x < keys.length := ⟨hpos, by rw [iota_len]; omega, hr⟩
  rw [dif_pos hc]
  letI : Inhabited (Plc keys) := ⟨⟨0, hpos⟩⟩
  obtain ⟨q1, q2⟩ := sortP_ok (swoP keys) (plcs keys (iota keys.length) hc.2.2)
  refine ⟨_, rfl, ?_, fun i j x y a b hij e1 e2 k1 k2 => ?_⟩
  ·have := q1.map (fun a : Plc keys => (a.1 : Int))
   rwa [plcs_val] at this
  ·simp only [List.getElem?_map, Option.map_eq_some_iff] at e1 e2
   obtain ⟨p, e1, rfl⟩ := e1
   obtain ⟨q, e2, rfl⟩ := e2
   obtain ⟨hi, e1⟩ := List.getElem?_eq_some_iff.1 e1
   obtain ⟨hj, e2⟩ := List.getElem?_eq_some_iff.1 e2
   have h := List.pairwise_iff_getElem.1 q2 i j hi hj hij
   rw [e1, e2] at h
   have h' : ltOf cmpS (keys[q.1]'q.2) (keys[p.1]'p.2) = false := h
   rw [ltS] at h'
   rw [Int.toNat_natCast, List.getElem?_eq_getElem p.2] at k1
   rw [Int.toNat_natCast, List.getElem?_eq_getElem q.2] at k2
   obtain rfl := Option.some.inj k1
   obtain rfl := Option.some.inj k2
   exact h'
theorem map_first (keys : List ByteArray) (items : List Val) (hk : keys.length = items.length) (hl : keys.length * 8 ≤ 140737488351232) {o : List Int} (ho : m_sortI keys (iota keys.length) = some o) (r : Val × Int)
  (h : loopO (gQ7k keys items o) (0, [], []) = some (.inr r)) : gQ7i keys items = some r := by
 unfold gQ7i
 have hm : mkl 8 (keys.length : Int) (0 : Int) = some (List.replicate keys.length 0) := by
  unfold mkl
  rw [if_pos (by omega)]
  simp
 rw [decide_eq_true (show (keys.length : Int) = items.length by omega), Bool.not_true, cond_false, hm, Option.bind_some]
 have := loop_meas (body := gQ7j keys items (List.replicate keys.length 0)) (fun s => ∃ i : Nat, i ≤ keys.length ∧ s.1 = (i : Int) ∧ s.2.length = keys.length ∧ ∀ j : Nat, j < i → s.2[j]? = some (j : Int)) (fun s => keys.length - s.1.toNat) (fun q => q = r) ?_ (0, List.replicate keys.length 0) ⟨0, Nat.zero_le _, rfl, by simp, fun j hj => by omega⟩
 ·obtain ⟨q, h', e⟩ := this
  rw [e] at h'; exact h'
 rintro ⟨s, l⟩ ⟨i, hi, rfl, hlen, hv⟩
 simp only at hlen hv ⊢
 unfold gQ7j
 simp only [List.length_replicate]
 by_cases hlt : i < keys.length
 ·left
  refine ⟨(((i + 1 : Nat) : Int), upd l (i : Int) (i : Int)), ?_, ⟨i + 1, hlt, rfl, by simp only [upd_len]; exact hlen, fun j hj => ?_⟩, by simp only [Int.toNat_natCast]; omega⟩
  ·rw [decide_eq_true (show (i : Int) < (keys.length : Int) by omega), cond_true, idx_nat, List.getElem?_eq_getElem (show i < l.length by omega), Option.bind_some, wrap_nat hlt (by omega)]
  ·unfold upd
   simp only [Int.toNat_natCast]
   rcases Nat.eq_or_lt_of_le (Nat.le_of_lt_succ hj) with rfl | hj'
   ·rw [List.getElem?_set_self (by omega)]
   ·rw [List.getElem?_set_ne (by omega)]; exact hv j hj'
 ·right
  obtain rfl : i = keys.length := by omega
  have hlo : l = iota keys.length := by
   apply List.ext_getElem?
   intro j
   rcases Nat.lt_or_ge j keys.length with hj | hj
   ·rw [hv j hj]; simp [iota, hj]
   ·rw [List.getElem?_eq_none (by omega), List.getElem?_eq_none (by rw [iota_len]; exact hj)]
  refine ⟨r, ?_, rfl⟩
  rw [decide_eq_false (show ¬ (keys.length : Int) < (keys.length : Int) by omega), cond_false, hlo, ho, Option.bind_some, h]
theorem iota_get {n i : Nat} {x : Int} (h : (iota n)[i]? = some x) : x = (i : Int) ∧ i < n := by
 have hi : i < n := by have := (List.getElem?_eq_some_iff.1 h).1; rwa [iota_len] at this
 simp [iota, hi] at h
 exact ⟨h.symm, hi⟩
def mapOf (L : List (ByteArray × Val)) : Val := Val.mk 5 0 eS (L.map (·.2)) (L.map (·.1))
def foldP {α : Type} (L : List (ByteArray × α)) (ps : List (ByteArray × α)) : List (ByteArray × α) := ps.foldl (fun L p => insP p L) L
theorem foldP_facts {α : Type} : ∀ (ps L : List (ByteArray × α)), SP L → (ps.map (·.1)).Nodup → (∀ p ∈ ps, ∀ q ∈ L, q.1 ≠ p.1) →
  SP (foldP L ps) ∧ (∀ p, p ∈ foldP L ps ↔ p ∈ L ∨ p ∈ ps) ∧ (foldP L ps).length = L.length + ps.length
 | [], L, h, _, _ => ⟨h, fun p => by simp [foldP], rfl⟩
 | p :: r, L, h, hn, hd => by
  rw [List.map_cons, List.nodup_cons] at hn
  obtain ⟨a, b, c⟩ := foldP_facts r (insP p L) (sp_insP h fun q hq => hd p List.mem_cons_self q hq) hn.2 (fun m hm q hq e => by
   rcases mem_insP.1 hq with rfl | k
   ·exact hn.1 (e ▸ List.mem_map.2 ⟨m, hm, rfl⟩)
   ·exact hd m (List.mem_cons_of_mem _ hm) q k e)
  refine ⟨a, fun q => (b q).trans ?_, by show (foldP (insP p L) r).length = _; rw [c, insP_len, List.length_cons]; omega⟩
  rw [mem_insP, List.mem_cons]
  constructor
  ·rintro ((k | k) | k)
   ·exact .inr (.inl k)
   ·exact .inl k
   ·exact .inr (.inr k)
  ·rintro (k | k | k)
   ·exact .inl (.inr k)
   ·exact .inl (.inl k)
   ·exact .inr k
def kvAt (keys : List ByteArray) (items : List Val) (x : Int) : ByteArray × Val := (keys.getD x.toNat eS, items.getD x.toNat vZ)
theorem map_pairs (keys : List ByteArray) (items : List Val) (hk : keys.length = items.length) (hl : keys.length ≤ 1000) (hn : keys.Nodup) (hf : ∀ x ∈ items, x.Fits) :
  gQ7i keys items = some (mapOf (foldP [] (keys.zip items)), 0) := by
 obtain ⟨o, o1, o2, o3⟩ := order_spec keys (by omega)
 have olen : o.length = keys.length := by rw [o2.length_eq, iota_len]
 have orng : ∀ (i : Nat) x, o[i]? = some x → ∃ j : Nat, x = (j : Int) ∧ j < keys.length := fun i x h => by
  obtain ⟨j, hj⟩ := List.getElem?_of_mem (o2.mem_iff.1 (List.mem_of_getElem? h))
  exact ⟨j, iota_get hj⟩
 have onod : o.Nodup := o2.nodup_iff.2 (by
  rw [List.nodup_iff_pairwise_ne, List.pairwise_iff_getElem]
  intro i j hi hj hij e
  have h1 := (iota_get (List.getElem?_eq_getElem hi)).1
  have h2 := (iota_get (List.getElem?_eq_getElem hj)).1
  omega)
 have kat : ∀ j : Nat, (hj : j < keys.length) → kvAt keys items (j : Int) = (keys[j], items[j]'(hk ▸ hj)) := fun j hj => by
  unfold kvAt
  rw [Int.toNat_natCast, List.getD_eq_getElem?_getD, List.getD_eq_getElem?_getD, List.getElem?_eq_getElem hj, List.getElem?_eq_getElem (hk ▸ hj)]; rfl
 have hsp : SP (o.map (kvAt keys items)) := by
  refine List.pairwise_map.2 (List.pairwise_iff_getElem.2 fun i j hi hj hij => ?_)
  obtain ⟨p, e1, hp⟩ := orng i _ (List.getElem?_eq_getElem hi)
  obtain ⟨q, e2, hq⟩ := orng j _ (List.getElem?_eq_getElem hj)
  have := o3 i j _ _ keys[p] keys[q] hij (List.getElem?_eq_getElem hi) (List.getElem?_eq_getElem hj) (by rw [e1, Int.toNat_natCast]; exact List.getElem?_eq_getElem hp) (by rw [e2, Int.toNat_natCast]; exact List.getElem?_eq_getElem hq)
  rw [e1, e2, kat p hp, kat q hq]
  rcases less_total keys[p].toList keys[q].toList with k | k | k
  ·exact k
  ·exfalso
   have hpq : p = q := (List.getElem_inj hn).1 (ba_ext k)
   have := (List.getElem_inj onod).1 (show o[i] = o[j] by rw [e1, e2, hpq])
   omega
  ·rw [this] at k; cases k
 have hz := foldP_facts (keys.zip items) ([] : List (ByteArray × Val)) List.Pairwise.nil (by rw [List.map_fst_zip (by omega)]; exact hn) (fun _ _ q hq => absurd hq List.not_mem_nil)
 have hM : o.map (kvAt keys items) = foldP [] (keys.zip items) := sp_unique hsp hz.1 fun p => by
  rw [hz.2.1, List.mem_map]
  constructor
  ·rintro ⟨x, hx, rfl⟩
   obtain ⟨i, hi⟩ := List.getElem?_of_mem hx
   obtain ⟨j, rfl, hj⟩ := orng i x hi
   right
   rw [kat j hj]
   exact List.mem_of_getElem? (i := j) (by rw [List.getElem?_zip_eq_some]; exact ⟨List.getElem?_eq_getElem hj, List.getElem?_eq_getElem (hk ▸ hj)⟩)
  ·rintro (h | h)
   ·exact absurd h List.not_mem_nil
   ·obtain ⟨j, hj⟩ := List.getElem?_of_mem h
    obtain ⟨h1, h2⟩ := zip_at hj
    have hjk := (List.getElem?_eq_some_iff.1 h1).1
    refine ⟨(j : Int), o2.mem_iff.2 ?_, ?_⟩
    ·exact List.mem_map.2 ⟨j, List.mem_range.2 hjk, rfl⟩
    ·rw [kat j hjk]
     rw [List.getElem?_eq_getElem hjk] at h1
     rw [List.getElem?_eq_getElem (hk ▸ hjk)] at h2
     exact Prod.ext (Option.some.inj h1) (Option.some.inj h2)
 rw [← hM]
 refine map_first keys items hk (by omega) o1 _ ?_
 have := loop_meas (body := gQ7k keys items o) (fun s => ∃ i : Nat, i ≤ o.length ∧ s = ((i : Int), ((o.map (kvAt keys items)).take i).map (·.2), ((o.map (kvAt keys items)).take i).map (·.1))) (fun s => o.length - s.1.toNat) (fun q => q = .inr (mapOf (o.map (kvAt keys items)), 0)) ?_ (0, [], []) ⟨0, Nat.zero_le _, rfl⟩
 ·obtain ⟨q, h', e⟩ := this
  rw [e] at h'; exact h'
 rintro s ⟨i, hi, rfl⟩
 unfold gQ7k
 by_cases hlt : i < o.length
 ·left
  have hx := List.getElem?_eq_getElem hlt
  obtain ⟨p, e1, hp⟩ := orng i _ hx
  have hp2 : p < items.length := hk ▸ hp
  have e0 : idx o (i : Int) = some (p : Int) := by rw [idx_nat, hx, e1]
  have e2 : idx keys (p : Int) = some keys[p] := by rw [idx_nat, List.getElem?_eq_getElem hp]
  have e3 : idx items (p : Int) = some items[p] := by rw [idx_nat, List.getElem?_eq_getElem hp2]
  have e4 : tQ95 items[p] = some items[p] := copied_spec _ (hf _ (List.getElem_mem hp2))
  have tk : (o.map (kvAt keys items)).take (i + 1) = (o.map (kvAt keys items)).take i ++ [(keys[p], items[p])] := by
   rw [List.take_add_one, List.getElem?_map, hx, e1]
   show _ ++ [kvAt keys items (p : Int)] = _
   rw [kat p hp]
  have n1 : (((o.map (kvAt keys items)).take i).map (·.1)).length = i := by simp; omega
  have n2 : (((o.map (kvAt keys items)).take i).map (·.2)).length = i := by simp; omega
  have a1 := app_one (((o.map (kvAt keys items)).take i).map (·.1)) keys[p] (m := 16) (n := 1001) (by decide) (by omega) (by decide)
  have a2 := app_one (((o.map (kvAt keys items)).take i).map (·.2)) items[p] (m := 80) (n := 1001) (by decide) (by omega) (by decide)
  refine ⟨_, ?_, ⟨i + 1, hlt, rfl⟩, by simp only [Int.toNat_natCast]; omega⟩
  rw [tk]
  simp only [decide_eq_true (show (i : Int) < (o.length : Int) by omega), cond_true, e0, Option.bind_some, e2, e3, e4, a1, a2, wrap_nat hlt (show o.length ≤ 9223372036854775807 by omega), List.map_append, List.map_cons, List.map_nil]
  cases i with
  | zero => rw [decide_eq_false (show ¬ (((0 : Nat) : Int) > 0) by omega), cond_false]
  | succ j =>
   have hj : j < o.length := by omega
   have w : IntKind.i64.wrap (((j + 1 : Nat) : Int) - 1) = (j : Int) := by
    rw [show (((j + 1 : Nat) : Int) - 1) = (j : Int) by omega]; exact wrap_in (by omega) (by omega)
   obtain ⟨q, e5, hq⟩ := orng j _ (List.getElem?_eq_getElem hj)
   have e6 : idx (((o.map (kvAt keys items)).take (j + 1)).map (·.1)) (j : Int) = some keys[q] := by
    rw [idx_nat, List.getElem?_map, List.getElem?_take, if_pos (by omega), List.getElem?_map, List.getElem?_eq_getElem hj, e5]
    show some (kvAt keys items (q : Int)).1 = _
    rw [kat q hq]
   rw [decide_eq_true (show (((j + 1 : Nat) : Int) > 0) by omega), cond_true, w, e6, Option.bind_some]
   rw [decide_eq_false (fun e => ?_), cond_false]
   have hpq : p = q := (List.getElem_inj hn).1 e
   have := (List.getElem_inj onod).1 (show o[j + 1] = o[j] by rw [e1, e5, hpq])
   omega
 ·right
  obtain rfl : i = o.length := by omega
  refine ⟨_, ?_, rfl⟩
  rw [decide_eq_false (show ¬ (o.length : Int) < (o.length : Int) by omega), cond_false]
  rw [show (o.map (kvAt keys items)).take o.length = o.map (kvAt keys items) from List.take_of_length_le (by simp)]; rfl
end Abs
end Go.Proofs.YtkffpfapfljinaaGreatDoor
namespace Go.Proofs.YtkffpfapfljinaaGreatDoor
set_option linter.unusedSimpArgs false
set_option linter.unusedVariables false
namespace Abs
open Go.RowKit
structure Mok (v : Val) : Prop where
 fits : v.Fits
 len : v.kind = 5 → v.keys.length = v.items.length
 ris : Rising v.keys
theorem Vok.mok {v : Val} (h : Vok v) : Mok v := ⟨h.1, h.shape.2.2.2.2.2.2.1, h.rising⟩
def getS (v : Val) (n : ByteArray) : Val := if v.kind = 5 then look v.keys v.items n else vZ
theorem getS_vok {v : Val} (h : Vok v) (n : ByteArray) : Vok (getS v n) := by
 unfold getS
 split
 ·exact h.look n
 ·exact vZ_ok
theorem get_spec12 {v : Val} (h : Mok v) (n : ByteArray) : gQ5i v n = some (getS v n) := by
 unfold gQ5i getS
 by_cases hk : v.kind = 5
 ·rw [get_full v n h.fits hk (h.len hk) h.ris, if_pos hk]; rfl
 ·obtain ⟨f1, f2, f3, f4, f5, f6, f7⟩ := h.fits.parts
  obtain ⟨q, h1, _⟩ := search_spec v.keys n (by have := len_i64 f5 (by decide); omega) h.ris
  unfold gQ77
  rw [h1, Option.bind_some, decide_eq_false hk, if_neg hk]; rfl
theorem Of_spec12 {v : Val} (h : Mok v) (n : ByteArray) : gQ3c v n = some (getS v n) := by
 unfold gQ3c getS
 by_cases hk : v.kind = 5
 ·rw [decide_eq_true hk, Bool.not_true, cond_false, get07_full v n h.fits hk (h.len hk), Option.bind_some, if_pos hk]
  cases hh : hasB v.keys n with
  | true => rfl
  | false =>
   have : n ∉ v.keys := fun k => by rw [hasB_iff.2 k] at hh; cases hh
   rw [look_not _ _ _ this]; rfl
 ·rw [decide_eq_false hk, if_neg hk]; rfl
noncomputable def oneX (a : AttrG) (x : Val) : Val ⊕ Int :=
 if a.mode = 1 ∧ x.kind = 0 then .inr 12 else if a.mode = 3 ∧ x.kind ≠ 0 then .inr 13 else if (toE x a.type_).2 = 0 then .inl (toE x a.type_).1 else .inr (toE x a.type_).2
def enc : Val ⊕ Int → Val × Int
 | .inl y => (y, 0)
 | .inr e => (vZ, e)
theorem oneX_ne {a : AttrG} {x : Val} {e : Int} (h : oneX a x = .inr e) : e ≠ 0 := by
 unfold oneX at h
 split at h
 ·cases h; decide
 split at h
 ·cases h; decide
 split at h
 ·cases h
 ·rename_i k; cases h; exact k
theorem toE_bad1 (x : Val) (t : Ty) (h : (toE x t).2 ≠ 0) : toE x t = (vZ, (toE x t).2) := by
 unfold toE at h ⊢
 split
 ·split
  ·rename_i h1 h2; rw [if_pos h1, if_pos h2] at h; exact absurd rfl h
  ·rfl
 ·rfl
theorem oneX_in {a : AttrG} {x y : Val} (h : oneX a x = .inl y) : (a.mode = 1 → x.kind ≠ 0) ∧ (a.mode = 3 → x.kind = 0) ∧ toE x a.type_ = (y, 0) := by
 unfold oneX at h
 split at h
 ·cases h
 rename_i h1
 split at h
 ·cases h
 rename_i h2
 split at h
 ·rename_i h3
  cases h
  exact ⟨fun k e => h1 ⟨k, e⟩, fun k => Classical.byContradiction fun e => h2 ⟨k, e⟩, Prod.ext rfl h3⟩
 ·cases h
theorem toE_fits {v : Val} {t : Ty} (ht : Tok t) (hv : Vok v) : (toE v t).1.Fits := by
 unfold toE
 split
 ·split
  ·exact to_fits t v ht hv
  ·exact vZ_fits
 ·exact vZ_fits
theorem one_conv (a : AttrG) (x : Val) (ht : Tok a.type_) (hx : Vok x) :
  (bif (decide (a.mode = 1)) then bif (decide (x.kind = 0)) then some (vZ, (12 : Int)) else bif (decide (a.mode = 3)) then some (vZ, 13) else some (toE x a.type_) else bif (decide (a.mode = 3)) then bif (!decide (x.kind = 0)) then some (vZ, 13) else some (toE x a.type_) else some (toE x a.type_)) = some (enc (oneX a x)) := by
 have tl : some (toE x a.type_) = some (enc (if (toE x a.type_).2 = 0 then .inl (toE x a.type_).1 else .inr (toE x a.type_).2)) := by
  by_cases h : (toE x a.type_).2 = 0
  ·rw [if_pos h]; congr 1; exact Prod.ext rfl h
  ·rw [if_neg h]; congr 1; exact toE_bad1 _ _ h
 unfold oneX
 by_cases h1 : a.mode = 1
 ·have h3 : ¬ a.mode = 3 := by omega
  rw [decide_eq_true h1, cond_true, decide_eq_false h3, cond_false]
  by_cases h0 : x.kind = 0
  ·rw [decide_eq_true h0, cond_true, if_pos ⟨h1, h0⟩]; rfl
  ·rw [decide_eq_false h0, cond_false, if_neg (fun h => h0 h.2), if_neg (fun h => h3 h.1)]; exact tl
 ·rw [decide_eq_false h1, cond_false, if_neg (fun h => h1 h.1)]
  by_cases h3 : a.mode = 3
  ·rw [decide_eq_true h3, cond_true]
   by_cases h0 : x.kind = 0
   ·rw [decide_eq_true h0, Bool.not_true, cond_false, if_neg (fun h => h.2 h0)]; exact tl
   ·rw [decide_eq_false h0, Bool.not_false, cond_true, if_pos ⟨h3, h0⟩]; rfl
  ·rw [decide_eq_false h3, cond_false, if_neg (fun h => h3 h.1)]; exact tl
theorem converted_spec (a : AttrG) {v : Val} (hm : Mok v) (ht : Tok a.type_) (hx : Vok (getS v a.name)) : gQ4o a v = some (enc (oneX a (getS v a.name))) := by
 rw [← one_conv a _ ht hx]
 unfold gQ4o
 rw [get_spec12 hm, Option.bind_some, To_spec _ _ ht hx]
 rfl
section
variable {α δ : Type}
def eachX (f : α → Val ⊕ δ) : List α → List Val ⊕ δ
 | [] => .inl []
 | x :: r => match f x with
  | .inr e => .inr e
  | .inl y => match eachX f r with
   | .inr e => .inr e
   | .inl ys => .inl (y :: ys)
theorem eachX_in {f : α → Val ⊕ δ} : ∀ {l : List α} {ys : List Val}, eachX f l = .inl ys → ys.length = l.length ∧ ∀ (i : Nat) x y, l[i]? = some x → ys[i]? = some y → f x = .inl y
 | [], ys, h => by
  cases h; exact ⟨rfl, fun i x y h => by simp at h⟩
 | x :: r, ys, h => by
  unfold eachX at h
  split at h
  ·cases h
  rename_i y hy
  split at h
  ·cases h
  rename_i zs hz
  cases h
  obtain ⟨h1, h2⟩ := eachX_in hz
  refine ⟨by simp [h1], fun i a b ha hb => ?_⟩
  cases i with
  | zero => simp at ha hb; subst ha hb; exact hy
  | succ i => exact h2 i a b (by simpa using ha) (by simpa using hb)
theorem eachX_of {f : α → Val ⊕ δ} : ∀ {l : List α} {ys : List Val}, ys.length = l.length → (∀ (i : Nat) x y, l[i]? = some x → ys[i]? = some y → f x = .inl y) → eachX f l = .inl ys
 | [], ys, h, _ => by rw [List.length_eq_zero_iff.1 h]; rfl
 | x :: r, [], h, _ => by simp at h
 | x :: r, y :: ys, h, k => by
  unfold eachX
  rw [k 0 x y rfl rfl, eachX_of (l := r) (ys := ys) (by simpa using h) fun i a b ha hb => k (i + 1) a b (by simpa using ha) (by simpa using hb)]
theorem eachX_err {f : α → Val ⊕ δ} : ∀ {l : List α} {e : δ}, eachX f l = .inr e → ∃ x ∈ l, f x = .inr e
 | [], e, h => by cases h
 | x :: r, e, h => by
  unfold eachX at h
  split at h
  ·rename_i e' he; cases h; exact ⟨x, List.mem_cons_self, he⟩
  split at h
  ·rename_i e' he
   cases h
   obtain ⟨z, hz, k⟩ := eachX_err he
   exact ⟨z, List.mem_cons_of_mem _ hz, k⟩
  ·cases h
theorem loop_eachX {O St : Type} (l : List α) (f : α → Val ⊕ δ) (nm : α → ByteArray) (F : Nat → List Val → List ByteArray → St) {body : St → Option (St ⊕ O)} (vs0 : List Val) (ks0 : List ByteArray) (R : List Val → O) (E : δ → O)
  (step : ∀ (i : Nat) (x : α) (ys : List Val), i < l.length → l[i]? = some x → ys.length = i → (∀ y, f x = .inl y → body (F i (vs0 ++ ys) (ks0 ++ (l.take i).map nm)) = some (.inl (F (i + 1) (vs0 ++ ys ++ [y]) (ks0 ++ (l.take i).map nm ++ [nm x])))) ∧ (∀ e, f x = .inr e → body (F i (vs0 ++ ys) (ks0 ++ (l.take i).map nm)) = some (.inr (E e))))
  (stop : ∀ ys, eachX f l = .inl ys → body (F l.length (vs0 ++ ys) (ks0 ++ l.map nm)) = some (.inr (R ys))) :
  loopO body (F 0 vs0 ks0) = some (match eachX f l with | .inl ys => R ys | .inr e => E e) := by
 have key : ∀ (r : List α) (i : Nat) (ys : List Val), i ≤ l.length → l.drop i = r → ys.length = i → (eachX f l = match eachX f r with | .inl zs => .inl (ys ++ zs) | .inr e => .inr e) →
   loopO body (F i (vs0 ++ ys) (ks0 ++ (l.take i).map nm)) = some (match eachX f l with | .inl ys => R ys | .inr e => E e) := by
  intro r
  induction r with
  | nil =>
   intro i ys hi hd hl he
   have : i = l.length := by
    have := congrArg List.length hd
    rw [List.length_drop, List.length_nil] at this
    omega
   subst this
   have he' : eachX f l = .inl ys := by rw [he]; simp [eachX]
   rw [List.take_length, he']
   exact loop_done (stop ys he')
  | cons x r ih =>
   intro i ys hi hd hl he
   obtain ⟨h1, h2, h3⟩ := drop_facts hd
   obtain ⟨s1, s2⟩ := step i x ys h1 h2 hl
   cases hx : f x with
   | inr e =>
    rw [he]
    simp only [eachX, hx]
    exact loop_done (s2 e hx)
   | inl y =>
    rw [loop_next (s1 y hx)]
    have tk : ks0 ++ (l.take i).map nm ++ [nm x] = ks0 ++ (l.take (i + 1)).map nm := by
     rw [List.take_add_one, h2, List.map_append, List.append_assoc]; rfl
    rw [tk, List.append_assoc]
    refine ih (i + 1) (ys ++ [y]) h1 h3 (by simp [hl]) ?_
    rw [he]
    simp only [eachX, hx]
    cases eachX f r with
    | inl zs => simp
    | inr e => rfl
 have := key l 0 [] (Nat.zero_le _) rfl rfl (by cases eachX f l <;> rfl)
 simpa using this
end
noncomputable def elX (n : NestedG) (x : Val) : Val ⊕ Int :=
 if x.kind = 6 then .inl x else if x.kind ≠ 5 then .inr 6 else if ∃ k ∈ x.keys, (findA k n.attrs).2 = false then .inr 13 else
  match eachX (fun a => oneX a (getS x a.name)) n.attrs with
  | .inl ys => .inl (Val.mk 5 0 eS ys (n.attrs.map (·.name)))
  | .inr e => .inr e
noncomputable def nestX (n : NestedG) (x : Val) : Val ⊕ Int :=
 if x.kind = 6 then .inl x else if x.kind ≠ 0 ∧ x.kind ≠ 4 then .inr 6 else if (x.items.length : Int) < n.min then .inr 12 else if (x.items.length : Int) > n.max then .inr 14 else
  match eachX (elX n) x.items with
  | .inl ys => .inl (Val.mk 4 0 eS ys [])
  | .inr e => .inr e
theorem elX_ne {n : NestedG} {x : Val} {e : Int} (h : elX n x = .inr e) : e ≠ 0 := by
 unfold elX at h
 split at h
 ·cases h
 split at h
 ·cases h; decide
 split at h
 ·cases h; decide
 split at h
 ·cases h
 ·rename_i e' he
  cases h
  obtain ⟨a, _, k⟩ := eachX_err he
  exact oneX_ne k
theorem nestX_ne {n : NestedG} {x : Val} {e : Int} (h : nestX n x = .inr e) : e ≠ 0 := by
 unfold nestX at h
 split at h
 ·cases h
 split at h
 ·cases h; decide
 split at h
 ·cases h; decide
 split at h
 ·cases h; decide
 split at h
 ·cases h
 ·rename_i e' he
  cases h
  obtain ⟨a, _, k⟩ := eachX_err he
  exact elX_ne k
structure Kok (n : NestedG) : Prop where
 len : n.attrs.length ≤ 70
 tok : ∀ a ∈ n.attrs, Tok a.type_
 max : n.max ≤ 256
theorem findA_any (k : ByteArray) (l : List AttrG) : (l.any fun a => decide (a.name = k)) = (findA k l).2 := by
 induction l with
 | nil => rfl
 | cons a r ih =>
  rw [List.any_cons, ih, show findA k (a :: r) = if a.name = k then (a, true) else findA k r from rfl]
  by_cases h : a.name = k
  ·rw [decide_eq_true h, if_pos h]; rfl
  ·rw [decide_eq_false h, if_neg h]; rfl
theorem has_spec12 (n : NestedG) (v : Val) (k : ByteArray) (hl : n.attrs.length ≤ 1000) : gQ4v n v k = some (findA k n.attrs).2 := by
 unfold gQ4v gQ4x
 obtain ⟨q, h1, h2⟩ := loop_first (body := gQ4y n v k) n.attrs (fun a => decide (a.name = k)) (by omega) (fun i x hi hx => by
  simp only [gQ4y, gQ50, decide_eq_true (show (i : Int) < n.attrs.length by omega), cond_true, idx_nat, hx, Option.bind_some]
  by_cases h : x.name = k
  ·simp [h]
  ·simp [h]) (by simp only [gQ4y, decide_eq_false (show ¬ (n.attrs.length : Int) < n.attrs.length by omega), cond_false])
 rw [h1, Option.bind_some, h2, findA_any]
theorem element_spec (n : NestedG) (x : Val) (hn : Kok n) (hx : Vok x) : gQ4s n x = some (enc (elX n x)) := by
 have hl := hn.len
 have hf := len_i64 hx.1.parts.2.2.2.2.1 (by decide)
 unfold gQ4s elX
 by_cases h6 : x.kind = 6
 ·rw [decide_eq_true h6, cond_true, if_pos h6]; rfl
 rw [decide_eq_false h6, cond_false, if_neg h6]
 by_cases h5 : x.kind = 5
 rotate_left
 ·rw [decide_eq_false h5, if_pos h5]; rfl
 rw [decide_eq_true h5, Bool.not_true, cond_false, if_neg (fun h => h h5)]
 have inner : loopO (gQ4u n x) (0, [], []) = some (.inr (enc (match eachX (fun a => oneX a (getS x a.name)) n.attrs with
  | .inl ys => .inl (Val.mk 5 0 eS ys (n.attrs.map (·.name)))
  | .inr e => .inr e))) := by
  have := loop_eachX (body := gQ4u n x) n.attrs (fun a => oneX a (getS x a.name)) (·.name) (fun i vs ks => ((i : Int), vs, ks)) [] [] (fun ys => .inr (Val.mk 5 0 eS ys (n.attrs.map (·.name)), 0)) (fun e => .inr (vZ, e)) (fun i a ys hi ha hy => ?_) (fun ys hy => ?_)
  ·refine this.trans ?_
   cases eachX (fun a => oneX a (getS x a.name)) n.attrs <;> rfl
  ·have hc := converted_spec a hx.mok (hn.tok a (List.mem_of_getElem? ha)) (getS_vok hx _)
   have w := wrap_nat hi (show n.attrs.length ≤ 9223372036854775807 by omega)
   have n1 : ((n.attrs.take i).map (·.name)).length = i := by simp; omega
   simp only [List.nil_append]
   refine ⟨fun y hy2 => ?_, fun e he => ?_⟩
   ·rw [hy2] at hc
    simp only [gQ4u, decide_eq_true (show (i : Int) < n.attrs.length by omega), cond_true, idx_nat, ha, Option.bind_some, hc, enc, decide_true, Bool.not_true, cond_false, app_one _ a.name (m := 16) (n := 1001) (by decide) (show ((n.attrs.take i).map (·.name)).length < 1001 by omega) (by decide), app_one ys y (m := 80) (n := 1001) (by decide) (by omega) (by decide), w]
   ·rw [he] at hc
    simp only [gQ4u, decide_eq_true (show (i : Int) < n.attrs.length by omega), cond_true, idx_nat, ha, Option.bind_some, hc, enc, decide_eq_false (oneX_ne he), Bool.not_false, cond_true]
  ·simp only [gQ4u, decide_eq_false (show ¬ (n.attrs.length : Int) < n.attrs.length by omega), cond_false, List.nil_append]
 have step : ∀ i : Nat, i < x.keys.length → ((∀ k, x.keys[i]? = some k → (findA k n.attrs).2 = true) ∧ gQ4t n x (i : Int) = some (.inl (IntKind.i64.wrap ((i : Int) + 1)))) ∨ (¬ (∀ k, x.keys[i]? = some k → (findA k n.attrs).2 = true) ∧ gQ4t n x (i : Int) = some (.inr (vZ, 13))) := by
  intro i hi
  have hk := List.getElem?_eq_getElem hi
  cases hq : (findA x.keys[i] n.attrs).2 with
  | true => exact .inl ⟨(fun k e => by rw [hk] at e; cases e; exact hq), by simp only [gQ4t, decide_eq_true (show (i : Int) < x.keys.length by omega), cond_true, idx_nat, hk, Option.bind_some, has_spec12 n x _ (by omega), hq, Bool.not_true, cond_false]⟩
  | false => exact .inr ⟨(fun h => by have := h _ hk; rw [hq] at this; cases this), by simp only [gQ4t, decide_eq_true (show (i : Int) < x.keys.length by omega), cond_true, idx_nat, hk, Option.bind_some, has_spec12 n x _ (by omega), hq, Bool.not_false, cond_true]⟩
 rcases loop_ask x.keys.length _ _ _ (by omega) step (by simp only [gQ4t, decide_eq_false (show ¬ (x.keys.length : Int) < x.keys.length by omega), cond_false, inner]; rfl) with ⟨h1, h2⟩ | ⟨h1, i, h2, h3⟩
 ·rw [h1, if_neg]
  rintro ⟨k, hk, hf⟩
  obtain ⟨i, hi⟩ := List.getElem?_of_mem hk
  have := h2 i (List.getElem?_eq_some_iff.1 hi).1 k hi
  rw [hf] at this; cases this
 ·rw [h1, if_pos]
  ·rfl
  ·refine ⟨x.keys[i], List.getElem_mem h2, ?_⟩
   cases hq : (findA x.keys[i] n.attrs).2 with
   | false => rfl
   | true => exact absurd (fun k e => by rw [List.getElem?_eq_getElem h2] at e; cases e; exact hq) h3
theorem items_loop (n : NestedG) (x : Val) (hn : Kok n) (hx : Vok x) (hm : ¬ (x.items.length : Int) > n.max) {body : Int × List Val → Option ((Int × List Val) ⊕ (Val × Int))} (hb : body = gQ54 n x) :
  loopO body (0, []) = some (enc (match eachX (elX n) x.items with | .inl ys => .inl (Val.mk 4 0 eS ys []) | .inr e => .inr e)) := by
 subst hb
 have hmx := hn.max
 have := loop_eachX (body := gQ54 n x) x.items (elX n) (fun _ => eS) (fun i vs _ => ((i : Int), vs)) [] [] (fun ys => (Val.mk 4 0 eS ys [], 0)) (fun e => (vZ, e)) (fun i a ys hi ha hy => ?_) (fun ys hy => ?_)
 ·refine this.trans ?_
  cases eachX (elX n) x.items <;> rfl
 ·have hc := element_spec n a hn (hx.item a (List.mem_of_getElem? ha))
  have w := wrap_nat hi (show x.items.length ≤ 9223372036854775807 by omega)
  simp only [List.nil_append]
  refine ⟨fun y hy2 => ?_, fun e he => ?_⟩
  ·rw [hy2] at hc
   simp only [gQ54, decide_eq_true (show (i : Int) < x.items.length by omega), cond_true, idx_nat, ha, Option.bind_some, hc, enc, decide_true, Bool.not_true, cond_false, app_one ys y (m := 80) (n := 1001) (by decide) (by omega) (by decide), w]
  ·rw [he] at hc
   simp only [gQ54, decide_eq_true (show (i : Int) < x.items.length by omega), cond_true, idx_nat, ha, Option.bind_some, hc, enc, decide_eq_false (elX_ne he), Bool.not_false, cond_true]
 ·simp only [gQ54, decide_eq_false (show ¬ (x.items.length : Int) < x.items.length by omega), cond_false, List.nil_append]
theorem elements_spec (n : NestedG) (x : Val) (hn : Kok n) (hx : Vok x) : gQ53 n x = some (enc (nestX n x)) := by
 unfold gQ53 nestX gQ56 gQ58 gQ5a gQ5c
 by_cases h6 : x.kind = 6
 ·rw [decide_eq_true h6, cond_true, if_pos h6]; rfl
 rw [decide_eq_false h6, cond_false, if_neg h6]
 have tail : ∀ body : Int × List Val → Option ((Int × List Val) ⊕ (Val × Int)), body = gQ54 n x → (bif (decide ((x.items.length : Int) < n.min)) then some ((Val.mk 0 0 eS [] []), (12 : Int)) else bif (decide ((x.items.length : Int) > n.max)) then some ((Val.mk 0 0 eS [] []), 14) else loopO body (0, [])) =
   some (enc (if (x.items.length : Int) < n.min then .inr 12 else if (x.items.length : Int) > n.max then .inr 14 else match eachX (elX n) x.items with | .inl ys => .inl (Val.mk 4 0 eS ys []) | .inr e => .inr e)) := by
  intro body hb
  by_cases h1 : (x.items.length : Int) < n.min
  ·rw [decide_eq_true h1, if_pos h1]; rfl
  by_cases h2 : (x.items.length : Int) > n.max
  ·rw [decide_eq_false h1, decide_eq_true h2, if_neg h1, if_pos h2]; rfl
  rw [decide_eq_false h1, decide_eq_false h2, if_neg h1, if_neg h2, cond_false, cond_false, items_loop n x hn hx h2 hb]
 by_cases h0 : x.kind = 0
 ·rw [decide_eq_true h0, cond_true, if_neg (fun h => h.1 h0)]
  exact tail _ rfl
 ·rw [decide_eq_false h0, cond_false]
  by_cases h4 : x.kind = 4
  ·rw [decide_eq_true h4, cond_true, if_neg (fun h => h.2 h4)]
   exact tail _ rfl
  ·rw [decide_eq_false h4, cond_false, if_pos ⟨h0, h4⟩]; rfl
end Abs
end Go.Proofs.YtkffpfapfljinaaGreatDoor
namespace Go.Proofs.YtkffpfapfljinaaGreatDoor
set_option linter.unusedSimpArgs false
set_option linter.unusedVariables false
namespace Abs
open Go.RowKit
def allN (s : SchemaG) : List ByteArray := s.attrs.map (·.name) ++ s.nested.map (·.name)
theorem allN_len (s : SchemaG) : (allN s).length = s.attrs.length + s.nested.length := by simp [allN]
theorem nodup_of {α : Type} {nm : α → ByteArray} {l : List α} (h : l.Pairwise fun a b => Op.bytesLess (nm a).toList (nm b).toList = true) : (l.map nm).Nodup := by
 rw [List.nodup_iff_pairwise_ne]
 refine List.pairwise_map.2 (h.imp fun {a b} k e => ?_)
 rw [e, less_irrefl] at k; cases k
theorem allN_nodup {s : SchemaG} (h : NamesOk s) : (allN s).Nodup := by
 refine List.nodup_append.2 ⟨nodup_of h.ra, nodup_of h.rn, fun a ha b hb => ?_⟩
 obtain ⟨x, hx, rfl⟩ := List.mem_map.1 ha
 obtain ⟨y, hy, rfl⟩ := List.mem_map.1 hb
 exact h.dj x hx y hy
theorem typL_names {s : SchemaG} (h : NamesOk s) (k : ByteArray) : k ∈ (typL s).map (·.1) ↔ k ∈ allN s := by
 obtain ⟨t1, t2, t3⟩ := typL_facts h
 unfold allN
 rw [List.mem_append, List.mem_map, List.mem_map, List.mem_map]
 constructor
 ·rintro ⟨p, hp, rfl⟩
  rcases (t2 p).1 hp with ⟨a, ha, rfl⟩ | ⟨n, hn, rfl⟩
  ·exact .inl ⟨a, ha, rfl⟩
  ·exact .inr ⟨n, hn, rfl⟩
 ·rintro (⟨a, ha, rfl⟩ | ⟨n, hn, rfl⟩)
  ·exact ⟨ap a, (t2 _).2 (.inl ⟨a, ha, rfl⟩), rfl⟩
  ·exact ⟨np n, (t2 _).2 (.inr ⟨n, hn, rfl⟩), rfl⟩
def known (s : SchemaG) (k : ByteArray) : Bool := (findA k s.attrs).2 || (findN k s.nested).2
theorem known_iff {s : SchemaG} {k : ByteArray} : known s k = true ↔ k ∈ allN s := by
 unfold known allN
 rw [Bool.or_eq_true, findA_iff, findN_iff, List.mem_append, List.mem_map, List.mem_map]
theorem names_spec12 {s : SchemaG} (h : NamesOk s) (hf : SFits s) : gQ5n s = some ((typL s).map (·.1)) := by
 unfold gQ5n
 rw [Type_spec s h hf]; rfl
theorem rNames_spec12 {s : SchemaG} (h : NamesOk s) : gQ3a s = some ((typL s).map (·.1)) := by
 unfold gQ3a
 rw [rType_spec s h]; rfl
theorem known_has {s : SchemaG} (h : NamesOk s) (k : ByteArray) : hasB ((typL s).map (·.1)) k = known s k := by
 refine Bool.eq_iff_iff.2 ?_
 rw [hasB_iff, known_iff, typL_names h]
def tagD (who : ByteArray) : Val ⊕ Int → Val ⊕ DiagG
 | .inl y => .inl y
 | .inr e => .inr (DiagG.mk e 0 who)
noncomputable def fA (v : Val) (a : AttrG) : Val ⊕ DiagG := tagD a.name (oneX a (getS v a.name))
noncomputable def fN (v : Val) (n : NestedG) : Val ⊕ DiagG := tagD n.name (nestX n (getS v n.name))
noncomputable def partsX (s : SchemaG) (v : Val) : List Val ⊕ DiagG :=
 match eachX (fA v) s.attrs with
 | .inr d => .inr d
 | .inl xs => match eachX (fN v) s.nested with
  | .inr d => .inr d
  | .inl ns => .inl (xs ++ ns)
theorem fA_ne {v : Val} {a : AttrG} {d : DiagG} (h : fA v a = .inr d) : d.kind ≠ 0 ∧ oneX a (getS v a.name) = .inr d.kind ∧ d = DiagG.mk d.kind 0 a.name := by
 unfold fA at h
 cases k : oneX a (getS v a.name) with
 | inl y => rw [k] at h; cases h
 | inr e => rw [k] at h; cases h; exact ⟨oneX_ne k, rfl, rfl⟩
theorem fA_in {v : Val} {a : AttrG} {y : Val} (h : fA v a = .inl y) : oneX a (getS v a.name) = .inl y := by
 unfold fA at h
 cases k : oneX a (getS v a.name) with
 | inl y => rw [k] at h; cases h; rfl
 | inr e => rw [k] at h; cases h
theorem fN_ne {v : Val} {n : NestedG} {d : DiagG} (h : fN v n = .inr d) : d.kind ≠ 0 ∧ nestX n (getS v n.name) = .inr d.kind ∧ d = DiagG.mk d.kind 0 n.name := by
 unfold fN at h
 cases k : nestX n (getS v n.name) with
 | inl y => rw [k] at h; cases h
 | inr e => rw [k] at h; cases h; exact ⟨nestX_ne k, rfl, rfl⟩
theorem fN_in {v : Val} {n : NestedG} {y : Val} (h : fN v n = .inl y) : nestX n (getS v n.name) = .inl y := by
 unfold fN at h
 cases k : nestX n (getS v n.name) with
 | inl y => rw [k] at h; cases h; rfl
 | inr e => rw [k] at h; cases h
theorem partsX_ne {s : SchemaG} {v : Val} {d : DiagG} (h : partsX s v = .inr d) : d.kind ≠ 0 := by
 unfold partsX at h
 split at h
 ·rename_i d' hd
  cases h
  obtain ⟨a, _, k⟩ := eachX_err hd
  exact (fA_ne k).1
 split at h
 ·rename_i d' hd
  cases h
  obtain ⟨a, _, k⟩ := eachX_err hd
  exact (fN_ne k).1
 ·cases h
theorem partsX_len {s : SchemaG} {v : Val} {vs : List Val} (h : partsX s v = .inl vs) : vs.length = (allN s).length := by
 unfold partsX at h
 split at h
 ·cases h
 rename_i xs ha
 split at h
 ·cases h
 rename_i ns hn
 cases h
 rw [List.length_append, (eachX_in ha).1, (eachX_in hn).1, allN_len]
theorem mk_fits {k : Int} {items : List Val} {keys : List ByteArray} (hk : 0 ≤ k ∧ k ≤ 6) (hl : items.length ≤ 1000) (hk2 : keys.length ≤ 1000) (hs : ∀ s ∈ keys, s.size ≤ 140737488351232) (h : ∀ x ∈ items, x.Fits) : (Val.mk k 0 eS items keys).Fits :=
 .mk (by omega) (by decide) eS_size (by omega) (by omega) hs h
structure Kfit (n : NestedG) : Prop extends Kok n where
 nm : ∀ a ∈ n.attrs, a.name.size ≤ 140737488351232
theorem oneX_fits {a : AttrG} {x y : Val} (ht : Tok a.type_) (hx : Vok x) (h : oneX a x = .inl y) : y.Fits := by
 have := toE_fits ht hx
 rw [(oneX_in h).2.2] at this
 exact this
theorem elX_fits {n : NestedG} {x y : Val} (hn : Kfit n) (hx : Vok x) (h : elX n x = .inl y) : y.Fits := by
 unfold elX at h
 split at h
 ·cases h; exact hx.1
 split at h
 ·cases h
 split at h
 ·cases h
 split at h
 ·rename_i ys hy
  cases h
  obtain ⟨h1, h2⟩ := eachX_in hy
  have := hn.len
  refine mk_fits (by decide) (by omega) (by simp; omega) (fun s hs => ?_) fun z hz => ?_
  ·obtain ⟨a, ha, rfl⟩ := List.mem_map.1 hs
   exact hn.nm a ha
  ·obtain ⟨i, hi⟩ := List.getElem?_of_mem hz
   have hil : i < n.attrs.length := by rw [← h1]; exact (List.getElem?_eq_some_iff.1 hi).1
   exact oneX_fits (hn.tok _ (List.getElem_mem hil)) (getS_vok hx _) (h2 i _ z (List.getElem?_eq_getElem hil) hi)
 ·cases h
theorem nestX_fits {n : NestedG} {x y : Val} (hn : Kfit n) (hx : Vok x) (h : nestX n x = .inl y) : y.Fits := by
 unfold nestX at h
 split at h
 ·cases h; exact hx.1
 split at h
 ·cases h
 split at h
 ·cases h
 split at h
 ·cases h
 rename_i hm
 split at h
 ·rename_i ys hy
  cases h
  obtain ⟨h1, h2⟩ := eachX_in hy
  have := hn.max
  refine mk_fits (by decide) (by omega) (by simp) (fun s hs => absurd hs List.not_mem_nil) fun z hz => ?_
  obtain ⟨i, hi⟩ := List.getElem?_of_mem hz
  have hil : i < x.items.length := by rw [← h1]; exact (List.getElem?_eq_some_iff.1 hi).1
  exact elX_fits hn (hx.item _ (List.getElem_mem hil)) (h2 i _ z (List.getElem?_eq_getElem hil) hi)
 ·cases h
theorem SVal.tok {s : SchemaG} (h : SVal s) : ∀ a ∈ s.attrs, Tok a.type_ := fun a ha => by
 have hf := (h.fits.1.2 a ha).2.1
 obtain ⟨r, r1, r2⟩ := CheckT_spec a.type_ hf
 rw [(h.ok.attrs.1 a ha).1.2.1] at r1
 exact ⟨hf, (h.few.fa a ha).2, r2 (Option.some.inj r1).symm⟩
theorem SVal.kfit {s : SchemaG} (h : SVal s) : ∀ n ∈ s.nested, Kfit n := fun n hn => by
 obtain ⟨i, hi⟩ := List.getElem?_of_mem hn
 have hk := h.ok.kinds i n hi
 have hnf := h.fits.2.2 n hn
 refine ⟨⟨by have := hk.few; omega, fun a ha => ?_, hk.mx⟩, fun a ha => (hnf.2.2.2.1.2 a ha).1⟩
 have hf := (hnf.2.2.2.1.2 a ha).2.1
 obtain ⟨r, r1, r2⟩ := CheckT_spec a.type_ hf
 rw [(hk.attrs.1 a ha).1.2.1] at r1
 exact ⟨hf, ((h.few.fn n hn).2.2 a ha).2, r2 (Option.some.inj r1).symm⟩
theorem partsX_fits {s : SchemaG} {v : Val} {vs : List Val} (hs : SVal s) (hv : Vok v) (h : partsX s v = .inl vs) : ∀ x ∈ vs, x.Fits := by
 unfold partsX at h
 split at h
 ·cases h
 rename_i xs ha
 split at h
 ·cases h
 rename_i ns hn
 cases h
 obtain ⟨a1, a2⟩ := eachX_in ha
 obtain ⟨n1, n2⟩ := eachX_in hn
 intro x hx
 rcases List.mem_append.1 hx with hx | hx
 ·obtain ⟨i, hi⟩ := List.getElem?_of_mem hx
  have hil : i < s.attrs.length := by rw [← a1]; exact (List.getElem?_eq_some_iff.1 hi).1
  exact oneX_fits (hs.tok _ (List.getElem_mem hil)) (getS_vok hv _) (fA_in (a2 i _ x (List.getElem?_eq_getElem hil) hi))
 ·obtain ⟨i, hi⟩ := List.getElem?_of_mem hx
  have hil : i < s.nested.length := by rw [← n1]; exact (List.getElem?_eq_some_iff.1 hi).1
  exact nestX_fits (hs.kfit _ (List.getElem_mem hil)) (getS_vok hv _) (fN_in (n2 i _ x (List.getElem?_eq_getElem hil) hi))
theorem allN_size {s : SchemaG} (h : SFits s) : ∀ k ∈ allN s, k.size ≤ 140737488351232 := fun k hk => by
 rcases List.mem_append.1 hk with hk | hk
 ·obtain ⟨a, ha, rfl⟩ := List.mem_map.1 hk
  exact (h.1.2 a ha).1
 ·obtain ⟨n, hn, rfl⟩ := List.mem_map.1 hk
  exact (h.2.2 n hn).1
def outV (s : SchemaG) (vs : List Val) : Val := mapOf (foldP [] ((allN s).zip vs))
theorem fold_zip {ks : List ByteArray} {vs : List Val} (h : ks.length = vs.length) (hn : ks.Nodup) : SP (foldP [] (ks.zip vs)) ∧ (∀ p, p ∈ foldP [] (ks.zip vs) ↔ p ∈ ks.zip vs) ∧ (foldP [] (ks.zip vs)).length = ks.length := by
 obtain ⟨a, b, c⟩ := foldP_facts (ks.zip vs) ([] : List (ByteArray × Val)) List.Pairwise.nil (by rw [List.map_fst_zip (by omega)]; exact hn) (fun _ _ q hq => absurd hq List.not_mem_nil)
 refine ⟨a, fun p => (b p).trans ⟨fun k => k.elim (fun k => absurd k List.not_mem_nil) id, .inr⟩, ?_⟩
 rw [c, List.length_zip]; simp; omega
theorem outV_fits {s : SchemaG} (hs : SVal s) {vs : List Val} (hl : vs.length = (allN s).length) (hf : ∀ x ∈ vs, x.Fits) : (outV s vs).Fits := by
 obtain ⟨a, b, c⟩ := fold_zip hl.symm (allN_nodup hs.names)
 have h1 := hs.few.la
 have h2 := hs.few.ln
 have h3 := allN_len s
 refine mk_fits (by decide) (by simp; omega) (by simp; omega) (fun k hk => ?_) fun x hx => ?_
 ·obtain ⟨p, hp, rfl⟩ := List.mem_map.1 hk
  exact allN_size hs.fits _ (List.of_mem_zip (a := p.1) (b := p.2) ((b p).1 hp)).1
 ·obtain ⟨p, hp, rfl⟩ := List.mem_map.1 hx
  exact hf _ (List.of_mem_zip (a := p.1) (b := p.2) ((b p).1 hp)).2
noncomputable def finS (s : SchemaG) (vs : List Val) : Val × DiagG := if checkE (outV s vs) = 0 then (outV s vs, DiagG.mk 0 0 eS) else (vZ, DiagG.mk (checkE (outV s vs)) 0 eS)
noncomputable def bodyS (s : SchemaG) (v : Val) : Val × DiagG :=
 match partsX s v with
 | .inr d => (vZ, d)
 | .inl vs => finS s vs
noncomputable def coerceS (s : SchemaG) (v : Val) : Val × DiagG :=
 if checkE v ≠ 0 then (vZ, DiagG.mk 1 0 eS) else if v.kind ≠ 5 then (vZ, DiagG.mk 6 0 eS) else
  match v.keys.find? fun k => !known s k with
  | some k => (vZ, DiagG.mk 13 0 k)
  | none => bodyS s v
theorem entered_spec {s : SchemaG} (h : NamesOk s) (hf : SFits s) {v : Val} (hv : v.Fits) : gQ5f s v = some (if checkE v ≠ 0 then DiagG.mk 1 0 eS else if v.kind ≠ 5 then DiagG.mk 6 0 eS else match v.keys.find? fun k => !known s k with | some k => DiagG.mk 13 0 k | none => DiagG.mk 0 0 eS) := by
 have hl := len_i64 hv.parts.2.2.2.2.1 (by decide)
 have h1 := h.la
 have h2 := h.ln
 have h3 := (typL_facts h).2.2
 unfold gQ5f
 rw [show m_checkE v = some (checkE v) from gd_of hv, Option.bind_some]
 by_cases hc : checkE v = 0
 rotate_left
 ·rw [decide_eq_false hc, if_pos hc]; rfl
 rw [decide_eq_true hc, Bool.not_true, cond_false, if_neg (fun k => k hc)]
 by_cases h5 : v.kind = 5
 rotate_left
 ·rw [decide_eq_false h5, if_pos h5]; rfl
 rw [decide_eq_true h5, Bool.not_true, cond_false, if_neg (fun k => k h5), names_spec12 h hf, Option.bind_some]
 refine loop_list0 v.keys (fun i (_ : Unit) => (i : Int)) (fun _ l => match l.find? fun k => !known s k with | some k => DiagG.mk 13 0 k | none => DiagG.mk 0 0 eS) (fun _ _ => True) (a := ()) rfl trivial (fun _ _ => ?_) (fun i x r _ hi hx _ _ => ?_)
 ·simp only [gQ5g, decide_eq_false (show ¬ (v.keys.length : Int) < v.keys.length by omega), cond_false]; rfl
 ·have e1 : gQ5g v ((typL s).map (·.1)) (i : Int) = bif (!known s x) then some (.inr (DiagG.mk 13 0 x)) else some (.inl ((i + 1 : Nat) : Int)) := by
   simp only [gQ5g, decide_eq_true (show (i : Int) < v.keys.length by omega), cond_true, idx_nat, hx, Option.bind_some, contains_spec _ x (show ((typL s).map (·.1)).length ≤ 9223372036854775807 by rw [List.length_map]; omega), known_has h, wrap_nat hi (show v.keys.length ≤ 9223372036854775807 by omega)]
  cases e : known s x with
  | false => right; rw [e1, e]; simp [List.find?_cons, e]
  | true => left; exact ⟨(), trivial, by rw [e1, e]; rfl, by simp [List.find?_cons, e]⟩
theorem Coerce_spec {s : SchemaG} (hs : SVal s) {v : Val} (hv : v.Fits) : gQ3z s v = some (coerceS s v) := by
 have hN := hs.names
 have h1 := hs.few.la
 have h2 := hs.few.ln
 have hal := allN_len s
 unfold gQ3z coerceS
 rw [entered_spec hN hs.fits hv, Option.bind_some]
 by_cases hc : checkE v = 0
 rotate_left
 ·simp only [if_pos hc]; rfl
 simp only [if_neg (show ¬ checkE v ≠ 0 from fun k => k hc)]
 by_cases h5 : v.kind = 5
 rotate_left
 ·simp only [if_pos h5]; rfl
 simp only [if_neg (show ¬ v.kind ≠ 5 from fun k => k h5)]
 cases hfd : v.keys.find? fun k => !known s k with
 | some k => rfl
 | none =>
  show loopO (gQ40 s v) (0, [], []) = _
  have hvk := vok_of hv hc
  have L2 : ∀ xs : List Val, eachX (fA v) s.attrs = .inl xs → loopO (gQ41 s v) (0, s.attrs.map (·.name), xs) = some (.inr (bodyS s v)) := by
   intro xs ha
   have hla := (eachX_in ha).1
   have := loop_eachX (body := gQ41 s v) s.nested (fN v) (·.name) (fun i vs ks => ((i : Int), ks, vs)) xs (s.attrs.map (·.name)) (fun ns => .inr (finS s (xs ++ ns))) (fun d => .inr (vZ, d)) (fun i n ys hi hn hy => ?_) (fun ns hns => ?_)
   ·refine this.trans ?_
    unfold bodyS partsX
    rw [ha]
    cases eachX (fN v) s.nested <;> rfl
   ·have hmem := List.mem_of_getElem? hn
    have hc := elements_spec n (getS v n.name) (hs.kfit n hmem).toKok (getS_vok hvk _)
    have w := wrap_nat hi (show s.nested.length ≤ 9223372036854775807 by omega)
    refine ⟨fun y hy2 => ?_, fun d hd => ?_⟩
    ·rw [fN_in hy2] at hc
     simp only [gQ41, decide_eq_true (show (i : Int) < s.nested.length by omega), cond_true, idx_nat, hn, Option.bind_some, get_spec12 hvk.mok, hc, enc, decide_true, Bool.not_true, cond_false, app_one (s.attrs.map (·.name) ++ (s.nested.take i).map (·.name)) n.name (m := 16) (n := 1001) (by decide) (by simp; omega) (by decide), app_one (xs ++ ys) y (m := 80) (n := 1001) (by decide) (by simp; omega) (by decide), w]
    ·obtain ⟨d1, d2, d3⟩ := fN_ne hd
     rw [d2] at hc
     rw [d3]
     simp only [gQ41, decide_eq_true (show (i : Int) < s.nested.length by omega), cond_true, idx_nat, hn, Option.bind_some, get_spec12 hvk.mok, hc, enc, decide_eq_false d1, Bool.not_false, cond_true]
   ·have hp : partsX s v = .inl (xs ++ ns) := by unfold partsX; rw [ha, hns]
    have hl := partsX_len hp
    have hff := partsX_fits hs hvk hp
    have hm := map_pairs (allN s) (xs ++ ns) hl.symm (by omega) (allN_nodup hN) hff
    have hof := outV_fits hs hl hff
    simp only [gQ41, decide_eq_false (show ¬ (s.nested.length : Int) < s.nested.length by omega), cond_false]
    rw [show s.attrs.map (·.name) ++ s.nested.map (·.name) = allN s from rfl, hm, Option.bind_some, show m_checkE (mapOf (foldP [] ((allN s).zip (xs ++ ns)))) = some (checkE (outV s (xs ++ ns))) from gd_of hof, Option.bind_some]
    unfold finS
    by_cases hz : checkE (outV s (xs ++ ns)) = 0
    ·rw [decide_eq_true hz, if_pos hz]; rfl
    ·rw [decide_eq_false hz, if_neg hz]; rfl
  have := loop_eachX (body := gQ40 s v) s.attrs (fA v) (·.name) (fun i vs ks => ((i : Int), ks, vs)) [] [] (fun _ => bodyS s v) (fun d => (vZ, d)) (fun i a ys hi ha hy => ?_) (fun xs has => ?_)
  ·refine this.trans ?_
   cases hE : eachX (fA v) s.attrs with
   | inl xs => rfl
   | inr d => simp only [bodyS, partsX, hE]
  ·have hmem := List.mem_of_getElem? ha
   have hc := converted_spec a hvk.mok (hs.tok a hmem) (getS_vok hvk _)
   have w := wrap_nat hi (show s.attrs.length ≤ 9223372036854775807 by omega)
   simp only [List.nil_append]
   refine ⟨fun y hy2 => ?_, fun d hd => ?_⟩
   ·rw [fA_in hy2] at hc
    simp only [gQ40, decide_eq_true (show (i : Int) < s.attrs.length by omega), cond_true, idx_nat, ha, Option.bind_some, hc, enc, decide_true, Bool.not_true, cond_false, app_one ((s.attrs.take i).map (·.name)) a.name (m := 16) (n := 1001) (by decide) (by simp; omega) (by decide), app_one ys y (m := 80) (n := 1001) (by decide) (by omega) (by decide), w]
   ·obtain ⟨d1, d2, d3⟩ := fA_ne hd
    rw [d2] at hc
    rw [d3]
    simp only [gQ40, decide_eq_true (show (i : Int) < s.attrs.length by omega), cond_true, idx_nat, ha, Option.bind_some, hc, enc, decide_eq_false d1, Bool.not_false, cond_true]
  ·simp only [gQ40, decide_eq_false (show ¬ (s.attrs.length : Int) < s.attrs.length by omega), cond_false, List.nil_append]
   exact L2 xs has
end Abs
end Go.Proofs.YtkffpfapfljinaaGreatDoor
namespace Go.Proofs.YtkffpfapfljinaaGreatDoor
set_option linter.unusedSimpArgs false
set_option linter.unusedVariables false
namespace Abs
open Go.RowKit
open Classical in
theorem known_eq (x : Val) : tQ8z x = gQ79 (gQ7a (fun a0 => if relV a0 x then tQ8z a0 else none)) x := tieF_eq x ()
open Classical in
theorem known_spec (x : Val) : x.Fits → tQ8z x = some (knownV x) := by
 induction x using wfV.induction with
 | h x ih =>
  intro hf
  obtain ⟨f1, f2, f3, f4, f5, f6, f7⟩ := hf.parts
  have hn := len_i64 f4 (by decide)
  rw [known_eq, knownV_eq]
  unfold gQ79
  by_cases h6 : x.kind = 6
  ·rw [decide_eq_true h6]; simp [h6]
  rw [decide_eq_false h6, Bool.not_false, cond_true]
  obtain ⟨n, h1, h2⟩ := loop_first x.items (fun v => !knownV v) (body := gQ7g (gQ7a fun a0 => if relV a0 x then tQ8z a0 else none) x.items) (by omega) (fun i y hi hy => by
   have hm : y ∈ x.items := List.mem_of_getElem? hy
   simp only [gQ7g, decide_eq_true (show (i : Int) < x.items.length by omega), cond_true, idx_nat, hy, Option.bind_some, gQ7a, if_pos (show relV y x from hm), ih y hm (f7 y hm)]
   cases knownV y <;> rfl) (by simp [gQ7g])
  unfold gQ7d gQ7f
  rw [h1, Option.bind_some, Option.bind_some, h2]
  congr 1
  simp only [ne_eq, h6, not_false_eq_true, decide_true, Bool.true_and]
  rw [List.not_any_eq_all_not]; simp
open Classical in
noncomputable def eqB (a b : Val) : Bool := decide (a = b)
open Classical in
theorem eqB_iff {a b : Val} : eqB a b = true ↔ a = b := by unfold eqB; exact decide_eq_true_iff
theorem eqB_of {a b : Val} {q : Bool} (h : q = true ↔ a = b) : q = eqB a b := Bool.eq_iff_iff.2 (h.trans eqB_iff.symm)
noncomputable def difS (a b : Val) : Bool := !eqB a b || (!knownV a || !knownV b)
theorem eq_spec {a b : Val} (h : a.Fits) : tQ8w a b = some (eqB a b) := by
 obtain ⟨q, h1, h2⟩ := value_equal_spec a b h
 rw [h1, eqB_of h2]
theorem req_spec {a b : Val} (h : a.Fits) : tQ85 a b = some (eqB a b) := by
 obtain ⟨q, h1, h2⟩ := requal_spec a b h
 rw [h1, eqB_of h2]
theorem differ_spec {a b : Val} (ha : a.Fits) (hb : b.Fits) : gQ4q a b = some (difS a b) := by
 unfold gQ4q difS
 rw [eq_spec ha, known_spec a ha, known_spec b hb]
 simp only [Option.bind_some]
 cases eqB a b <;> cases knownV a <;> cases knownV b <;> rfl
theorem eqB_comm (a b : Val) : eqB a b = eqB b a := Bool.eq_iff_iff.2 (eqB_iff.trans (Iff.trans ⟨Eq.symm, Eq.symm⟩ eqB_iff.symm))
theorem difS_comm (a b : Val) : difS a b = difS b a := by
 unfold difS
 rw [eqB_comm, Bool.or_comm (!knownV a)]
theorem difS_self {a : Val} (h : knownV a = true) : difS a a = false := by
 unfold difS; rw [h, eqB_iff.2 rfl]; rfl
theorem getS_fits {v : Val} (h : Mok v) (n : ByteArray) : (getS v n).Fits := by
 unfold getS
 split
 ·rcases look_mem v.keys v.items n with k | k
  ·exact h.fits.parts.2.2.2.2.2.2 _ k
  ·rw [k]; exact vZ_fits
 ·exact vZ_fits
def nmS (s : SchemaG) : List ByteArray := (typL s).map (·.1)
theorem nmS_len {s : SchemaG} (h : NamesOk s) : (nmS s).length ≤ 140 := by
 have := (typL_facts h).2.2
 have h1 := h.la
 have h2 := h.ln
 unfold nmS
 rw [List.length_map]; omega
theorem nmS_rising {s : SchemaG} (h : NamesOk s) : Rising (nmS s) := rising_sp (typL_facts h).1
theorem nmS_size {s : SchemaG} (h : NamesOk s) (hf : SFits s) : ∀ k ∈ nmS s, k.size ≤ 140737488351232 := fun k hk => allN_size hf k ((typL_names h k).1 hk)
theorem loop_filter {O : Type} (l : List ByteArray) (p : ByteArray → Bool) {body : Int × List ByteArray → Option ((Int × List ByteArray) ⊕ O)} (R : List ByteArray → O)
  (step : ∀ (i : Nat) (x : ByteArray) (acc : List ByteArray), i < l.length → l[i]? = some x → acc.length ≤ i → body ((i : Int), acc) = some (.inl (((i + 1 : Nat) : Int), if p x then acc ++ [x] else acc)))
  (stop : ∀ acc, body ((l.length : Int), acc) = some (.inr (R acc))) : loopO body (0, []) = some (R (l.filter p)) := by
 have := loop_meas (body := body) (fun s => ∃ i : Nat, s = ((i : Int), (l.take i).filter p) ∧ i ≤ l.length) (fun s => l.length - s.1.toNat) (fun q => q = R (l.filter p)) (by
  rintro s ⟨i, rfl, hi⟩
  rcases Nat.eq_or_lt_of_le hi with h0 | h0
  ·subst h0
   exact .inr ⟨_, stop _, by rw [List.take_length]⟩
  ·have hx := List.getElem?_eq_getElem h0
   refine .inl ⟨_, step i _ _ h0 hx (Nat.le_trans (List.length_filter_le _ _) (by simp; omega)), ⟨i + 1, ?_, h0⟩, by simp only [Int.toNat_natCast]; omega⟩
   rw [List.take_succ_eq_append_getElem h0, List.filter_append]
   cases hp : p l[i] <;> simp [List.filter_cons, hp]) (0, []) ⟨0, by simp, Nat.zero_le _⟩
 obtain ⟨q, h, rfl⟩ := this
 exact h
noncomputable def chS (s : SchemaG) (b a : Val) : List ByteArray := (nmS s).filter fun n => difS (getS b n) (getS a n)
theorem chS_len {s : SchemaG} (h : NamesOk s) (b a : Val) : (chS s b a).length ≤ 140 := Nat.le_trans (List.length_filter_le _ _) (nmS_len h)
theorem Changed_spec {s : SchemaG} (h : NamesOk s) (hf : SFits s) {b a : Val} (hb : Mok b) (ha : Mok a) : gQ3t s b a = some (chS s b a) := by
 have hl := nmS_len h
 unfold gQ3t
 rw [names_spec12 h hf, Option.bind_some]
 refine loop_filter (nmS s) (fun n => difS (getS b n) (getS a n)) (fun l => l) (fun i x acc hi hx hacc => ?_) (fun acc => ?_)
 ·show gQ3u b a (nmS s) _ = _
  simp only [gQ3u, decide_eq_true (show (i : Int) < (nmS s).length by omega), cond_true, idx_nat, hx, Option.bind_some, get_spec12 hb, get_spec12 ha, differ_spec (getS_fits hb x) (getS_fits ha x), app_one acc x (m := 16) (n := 1001) (by decide) (by omega) (by decide), wrap_nat hi (show (nmS s).length ≤ 9223372036854775807 by omega)]
  cases difS (getS b x) (getS a x) <;> rfl
 ·show gQ3u b a (nmS s) _ = _
  simp only [gQ3u, decide_eq_false (show ¬ ((nmS s).length : Int) < (nmS s).length by omega), cond_false]
noncomputable def rpS (s : SchemaG) (b a : Val) : List ByteArray := (chS s b a).filter fun n => (findA n s.attrs).1.replace || (findN n s.nested).1.replace
theorem Replaced_spec {s : SchemaG} (h : NamesOk s) (hf : SFits s) {b a : Val} (hb : Mok b) (ha : Mok a) : gQ4a s b a = some (rpS s b a) := by
 have hl := chS_len h b a
 have h1 := h.la
 have h2 := h.ln
 unfold gQ4a
 rw [Changed_spec h hf hb ha, Option.bind_some]
 refine loop_filter (chS s b a) _ (fun l => l) (fun i x acc hi hx hacc => ?_) (fun acc => ?_)
 ·simp only [gQ4b, decide_eq_true (show (i : Int) < (chS s b a).length by omega), cond_true, idx_nat, hx, Option.bind_some, Find_spec s x (show s.attrs.length ≤ 9223372036854775807 by omega) (fun a ha => (hf.1.2 a ha).2.1), kind_spec s x (show s.nested.length ≤ 9223372036854775807 by omega), app_one acc x (m := 16) (n := 1001) (by decide) (by omega) (by decide), wrap_nat hi (show (chS s b a).length ≤ 9223372036854775807 by omega)]
  cases (findA x s.attrs).1.replace <;> cases (findN x s.nested).1.replace <;> rfl
 ·simp only [gQ4b, decide_eq_false (show ¬ ((chS s b a).length : Int) < (chS s b a).length by omega), cond_false]
theorem texts_same (a : List ByteArray) (hl : a.length ≤ 1000) : gQ1v a a = some true := by
 unfold gQ1v
 rw [decide_eq_true rfl, Bool.not_true, cond_false]
 have := loop_meas (body := gQ1w a a) (fun s => ∃ i : Nat, i ≤ a.length ∧ s = (i : Int)) (fun s => a.length - s.toNat) (fun r => r = true) (by
  rintro s ⟨i, hi, rfl⟩
  rcases Nat.eq_or_lt_of_le hi with h0 | h0
  ·subst h0
   exact .inr ⟨true, by simp only [gQ1w, decide_eq_false (show ¬ (a.length : Int) < a.length by omega), cond_false], rfl⟩
  ·exact .inl ⟨((i + 1 : Nat) : Int), by simp only [gQ1w, decide_eq_true (show (i : Int) < a.length by omega), cond_true, idx_nat, List.getElem?_eq_getElem h0, Option.bind_some, decide_true, Bool.not_true, cond_false, wrap_nat h0 (show a.length ≤ 9223372036854775807 by omega)], ⟨i + 1, h0, rfl⟩, by simp only [Int.toNat_natCast]; omega⟩) 0 ⟨0, Nat.zero_le _, rfl⟩
 obtain ⟨q, h, rfl⟩ := this
 exact h
def cfgS (s : SchemaG) (c : Val) (n : ByteArray) : Bool := !(findA n s.attrs).2 || (decide ((findA n s.attrs).1.mode = 1) || (decide ((findA n s.attrs).1.mode = 2) || (decide ((findA n s.attrs).1.mode = 4) && !decide ((getS c n).kind = 0))))
noncomputable def chg (s : SchemaG) (prior c : Val) (n : ByteArray) : Bool := cfgS s c n && difS (getS c n) (getS prior n)
noncomputable def anyC (s : SchemaG) (prior c : Val) : Bool := (nmS s).any (chg s prior c)
noncomputable def valP (s : SchemaG) (prior c : Val) (n : ByteArray) : Val :=
 if cfgS s c n = true then getS c n else if prior.kind = 0 then vU else if anyC s prior c = true ∧ (findA n s.attrs).1.volatile = true then vU else getS prior n
noncomputable def proposeS (s : SchemaG) (prior c : Val) : Val := Val.mk 5 0 eS ((nmS s).map (valP s prior c)) (nmS s)
noncomputable def val1 (s : SchemaG) (prior c : Val) (n : ByteArray) : Val := if cfgS s c n = true then getS c n else if prior.kind = 0 then vU else getS prior n
def volP (s : SchemaG) (prior c : Val) (n : ByteArray) : Bool := !cfgS s c n && (!decide (prior.kind = 0) && (findA n s.attrs).1.volatile)
theorem valP_eq (s : SchemaG) (prior c : Val) (n : ByteArray) : valP s prior c n = if anyC s prior c = true ∧ volP s prior c n = true then vU else val1 s prior c n := by
 unfold valP val1 volP
 by_cases h1 : cfgS s c n = true
 ·rw [if_pos h1, if_neg (by rw [h1]; simp), if_pos h1]
 ·rw [if_neg h1, if_neg h1]
  by_cases h2 : prior.kind = 0
  ·rw [if_pos h2, if_pos h2]; split <;> rfl
  ·rw [if_neg h2, if_neg h2]
   have e : (!cfgS s c n && (!decide (prior.kind = 0) && (findA n s.attrs).1.volatile)) = (findA n s.attrs).1.volatile := by
    rw [decide_eq_false h2, Bool.eq_false_iff.2 h1]; simp
   rw [e]
theorem mode_cases {s : SchemaG} (hs : SVal s) (c : Val) (n : ByteArray) : cfgS s c n = (!(findA n s.attrs).2 || !(decide ((findA n s.attrs).1.mode = 3) || (decide ((findA n s.attrs).1.mode = 4) && decide ((getS c n).kind = 0)))) := by
 unfold cfgS
 cases h : (findA n s.attrs).2 with
 | false => rfl
 | true =>
  have hm := (hs.ok.attrs.1 _ (findA_yes h).1).1
  rcases (show (findA n s.attrs).1.mode = 1 ∨ (findA n s.attrs).1.mode = 2 ∨ (findA n s.attrs).1.mode = 3 ∨ (findA n s.attrs).1.mode = 4 by have := hm.2.2.1; have := hm.2.2.2.1; omega) with k | k | k | k <;> rw [k] <;> cases decide ((getS c n).kind = 0) <;> rfl
theorem Propose_step {s : SchemaG} (hs : SVal s) {prior c : Val} (hp : Mok prior) (hc : Mok c) (i : Nat) (hi : i < (nmS s).length) (x : ByteArray) (hx : (nmS s)[i]? = some x) (ch : Bool) (vs : List Val) (ks : List ByteArray) (vo : List Int) (h1 : vs.length = i) (h2 : ks.length = i) (h3 : vo.length ≤ i) :
  gQ47 s prior c (nmS s) ((i : Int), ch, vs, ks, vo) = some (.inl (((i + 1 : Nat) : Int), ch || chg s prior c x, vs ++ [val1 s prior c x], ks ++ [x], if volP s prior c x then vo ++ [(i : Int)] else vo)) := by
 have hl := nmS_len hs.names
 have hla := hs.few.la
 have a1 := app_one ks x (m := 16) (n := 1001) (by decide) (by omega) (by decide)
 have a2 : ∀ y : Val, app 80 vs [y] = some (vs ++ [y]) := fun y => app_one vs y (m := 80) (n := 1001) (by decide) (by omega) (by decide)
 have a3 := app_one vo (i : Int) (m := 8) (n := 1001) (by decide) (by omega) (by decide)
 have hm := mode_cases hs c x
 simp only [gQ47, decide_eq_true (show (i : Int) < (nmS s).length by omega), cond_true, idx_nat, hx, Option.bind_some, get_spec12 hc, get_spec12 hp, Find_spec s x (show s.attrs.length ≤ 9223372036854775807 by omega) (fun a ha => (hs.fits.1.2 a ha).2.1), differ_spec (getS_fits hc x) (getS_fits hp x), a1, a2, a3, gQ7v, wrap_nat hi (show (nmS s).length ≤ 9223372036854775807 by omega)]
 unfold val1 volP chg
 rw [hm]
 generalize difS (getS c x) (getS prior x) = df
 cases (findA x s.attrs).2 with
 | false => cases ch <;> simp
 | true =>
  cases decide ((findA x s.attrs).1.mode = 3) with
  | true =>
   by_cases hk : prior.kind = 0
   ·simp [hk, vU]
   ·cases (findA x s.attrs).1.volatile <;> simp [hk]
  | false =>
   cases decide ((findA x s.attrs).1.mode = 4) with
   | false => cases ch <;> simp
   | true =>
    by_cases hk0 : (getS c x).kind = 0
    ·by_cases hk : prior.kind = 0
     ·simp [hk0, hk, vU]
     ·cases (findA x s.attrs).1.volatile <;> simp [hk0, hk]
    ·cases ch <;> simp [hk0]
theorem Propose_spec {s : SchemaG} (hs : SVal s) {prior c : Val} (hp : Mok prior) (hc : Mok c) : gQ46 s prior c = some (proposeS s prior c) := by
 have h := hs.names
 have hl := nmS_len h
 unfold gQ46
 rw [names_spec12 h hs.fits, Option.bind_some]
 show loopO (gQ47 s prior c (nmS s)) (0, false, [], [], []) = _
 -- the second loop
 have L2 : ∀ vo : List Int, (∀ x ∈ vo, ∃ j : Nat, x = (j : Int) ∧ ∃ n, (nmS s)[j]? = some n ∧ volP s prior c n = true) → (∀ (j : Nat) n, (nmS s)[j]? = some n → volP s prior c n = true → (j : Int) ∈ vo) → vo.length ≤ 140 →
   ∀ st : Int × Bool × List Val × List ByteArray × List Int, st.2.2.2.2 = vo → st.2.2.2.1 = nmS s → loopO (gQ48 st) (anyC s prior c, 0, (nmS s).map (val1 s prior c)) = some (.inr (proposeS s prior c)) := by
  intro vo v1 v2 v3 st e1 e2
  have := loop_meas (body := gQ48 st) (fun x => ∃ (k : Nat) (items : List Val), x = (anyC s prior c, (k : Int), items) ∧ k ≤ vo.length ∧ items.length = (nmS s).length ∧ ∀ (j : Nat) n, (nmS s)[j]? = some n → items[j]? = some (if anyC s prior c = true ∧ (j : Int) ∈ vo.take k then vU else val1 s prior c n)) (fun x => vo.length - x.2.1.toNat) (fun q => q = .inr (proposeS s prior c)) (by
   rintro x ⟨k, items, rfl, hk, hlen, hit⟩
   rcases Nat.eq_or_lt_of_le hk with h0 | h0
   ·subst h0
    refine .inr ⟨.inr (Val.mk 5 0 eS items (nmS s)), by simp only [gQ48, e1, decide_eq_false (show ¬ (vo.length : Int) < vo.length by omega), cond_false, e2], ?_⟩
    have : items = (nmS s).map (valP s prior c) := by
     apply List.ext_getElem?
     intro j
     rcases Nat.lt_or_ge j (nmS s).length with hj | hj
     ·have hn := List.getElem?_eq_getElem hj
      rw [hit j _ hn, List.getElem?_map, hn, Option.map_some, valP_eq, List.take_length]
      congr 1
      by_cases ha : anyC s prior c = true
      ·by_cases hv : volP s prior c (nmS s)[j] = true
       ·rw [if_pos ⟨ha, v2 j _ hn hv⟩, if_pos ⟨ha, hv⟩]
       ·rw [if_neg, if_neg (fun q => hv q.2)]
        rintro ⟨_, hm⟩
        obtain ⟨j', e, n, hn', hv'⟩ := v1 _ hm
        obtain rfl : j = j' := by omega
        rw [hn] at hn'; cases hn'
        exact hv hv'
      ·rw [if_neg (fun q => ha q.1), if_neg (fun q => ha q.1)]
     ·rw [List.getElem?_eq_none (by omega), List.getElem?_eq_none (by rw [List.length_map]; omega)]
    rw [this]; rfl
   ·have hx := List.getElem?_eq_getElem h0
    obtain ⟨j, ej, n, hn, hv⟩ := v1 _ (List.getElem_mem h0)
    have hj : j < (nmS s).length := (List.getElem?_eq_some_iff.1 hn).1
    have hij := List.getElem?_eq_getElem (show j < items.length by omega)
    have hw := wrap_nat h0 (show vo.length ≤ 9223372036854775807 by omega)
    left
    cases ha : anyC s prior c with
    | false =>
     refine ⟨(false, ((k + 1 : Nat) : Int), items), by simp only [gQ48, e1, decide_eq_true (show (k : Int) < vo.length by omega), cond_true, idx_nat, hx, Option.bind_some, cond_false, hw], ⟨k + 1, items, by rw [← ha], h0, hlen, fun j n hn => ?_⟩, by simp only [Int.toNat_natCast]; omega⟩
     rw [hit j n hn, if_neg (fun q => by rw [ha] at q; cases q.1), if_neg (fun q => by cases q.1)]
    | true =>
     refine ⟨(true, ((k + 1 : Nat) : Int), upd items (j : Int) vU), by simp only [gQ48, e1, decide_eq_true (show (k : Int) < vo.length by omega), cond_true, idx_nat, hx, ej, hij, Option.bind_some, gQ7v, hw, vU], ⟨k + 1, _, by rw [← ha], h0, by rw [upd_len]; exact hlen, fun j' n' hn' => ?_⟩, by simp only [Int.toNat_natCast]; omega⟩
     have tk : ((j' : Int) ∈ vo.take (k + 1)) ↔ ((j' : Int) ∈ vo.take k ∨ j' = j) := by
      rw [List.take_succ_eq_append_getElem h0, List.mem_append, List.mem_singleton, ej]
      exact or_congr Iff.rfl (by omega)
     unfold upd
     rw [Int.toNat_natCast]
     by_cases hjj : j' = j
     ·subst hjj
      rw [List.getElem?_set_self (by omega), if_pos ⟨rfl, tk.2 (.inr rfl)⟩]
     ·rw [List.getElem?_set_ne (by omega), hit j' n' hn', ha]
      congr 1
      by_cases hm : (j' : Int) ∈ vo.take k
      ·rw [if_pos ⟨rfl, hm⟩, if_pos ⟨rfl, tk.2 (.inl hm)⟩]
      ·rw [if_neg (fun q => hm q.2), if_neg (fun q => (tk.1 q.2).elim hm hjj)]) (anyC s prior c, 0, (nmS s).map (val1 s prior c)) ⟨0, _, rfl, Nat.zero_le _, by simp, fun j n hn => by
    rw [List.getElem?_map, hn, List.take_zero, if_neg (fun q => absurd q.2 List.not_mem_nil)]; rfl⟩
  obtain ⟨q, hq, rfl⟩ := this
  exact hq
 have := loop_meas (body := gQ47 s prior c (nmS s)) (fun x => ∃ (i : Nat) (vo : List Int), i ≤ (nmS s).length ∧ x = ((i : Int), ((nmS s).take i).any (chg s prior c), ((nmS s).take i).map (val1 s prior c), (nmS s).take i, vo) ∧ vo.length ≤ i ∧ (∀ x ∈ vo, ∃ j : Nat, x = (j : Int) ∧ ∃ n, (nmS s)[j]? = some n ∧ volP s prior c n = true) ∧ (∀ (j : Nat) n, j < i → (nmS s)[j]? = some n → volP s prior c n = true → (j : Int) ∈ vo)) (fun x => (nmS s).length - x.1.toNat) (fun q => q = proposeS s prior c) (by
  rintro x ⟨i, vo, hi, rfl, hvl, v1, v2⟩
  rcases Nat.eq_or_lt_of_le hi with h0 | h0
  ·subst h0
   refine .inr ⟨_, ?_, rfl⟩
   simp only [gQ47, decide_eq_false (show ¬ ((nmS s).length : Int) < (nmS s).length by omega), cond_false]
   rw [List.take_length]
   exact L2 vo v1 (fun j n hn => v2 j n (List.getElem?_eq_some_iff.1 hn).1 hn) (by omega) _ rfl rfl
  ·have hx := List.getElem?_eq_getElem h0
   refine .inl ⟨_, Propose_step hs hp hc i h0 _ hx _ _ _ vo (by simp; omega) (by simp; omega) hvl, ⟨i + 1, (if volP s prior c (nmS s)[i] = true then vo ++ [(i : Int)] else vo), h0, ?_, ?_, ?_, ?_⟩, by simp only [Int.toNat_natCast]; omega⟩
   ·rw [List.take_succ_eq_append_getElem h0, List.any_append, List.map_append]
    simp only [List.any_cons, List.any_nil, Bool.or_false, List.map_cons, List.map_nil]
   ·split
    ·rw [List.length_append, List.length_singleton]; omega
    ·omega
   ·intro y hy
    split at hy
    ·rename_i hv
     rcases List.mem_append.1 hy with hy | hy
     ·exact v1 y hy
     ·obtain rfl := List.mem_singleton.1 hy
      exact ⟨i, rfl, _, hx, hv⟩
    ·exact v1 y hy
   ·intro j n hj hn hv
    rcases Nat.eq_or_lt_of_le (Nat.le_of_lt_succ hj) with rfl | hj
    ·rw [hx] at hn; cases hn
     rw [if_pos hv]
     exact List.mem_append_right _ (List.mem_singleton.2 rfl)
    ·have := v2 j n hj hn hv
     split
     ·exact List.mem_append_left _ this
     ·exact this) (0, false, [], [], []) ⟨0, [], Nat.zero_le _, by simp, Nat.le_refl _, fun x hx => absurd hx List.not_mem_nil, fun j n hj => by omega⟩
 obtain ⟨q, h, rfl⟩ := this
 exact h
end Abs
end Go.Proofs.YtkffpfapfljinaaGreatDoor
namespace Go.Proofs.YtkffpfapfljinaaGreatDoor
set_option linter.unusedSimpArgs false
set_option linter.unusedVariables false
namespace Abs
open Go.RowKit
theorem m_checkE_eq {v : Val} (h : v.Fits) : m_checkE v = some (checkE v) := gd_of h
theorem shaped_simple {k : Int} (h : 0 ≤ k ∧ k ≤ 3) : gQ30 (Ty.mk k [] []) = some true := by
 have : k = 0 ∨ k = 1 ∨ k = 2 ∨ k = 3 := by omega
 rcases this with rfl | rfl | rfl | rfl <;> rfl
theorem rcheck_simple {k : Int} (h : 0 ≤ k ∧ k ≤ 3) (lv : Int) (hl : lv ≤ 32) : tQ8b (Ty.mk k [] []) lv = some 0 := by
 rw [checkT_eq]
 unfold gQ2n
 rw [decide_eq_false (show ¬ lv > 32 by omega), cond_false, shaped_simple h, Option.bind_some, Bool.not_true, cond_false]
 refine loop_done ?_
 unfold gQ2o
 rw [decide_eq_false (by simp), cond_false]
 refine loop_done ?_
 unfold gQ2p
 rw [decide_eq_false (by simp), cond_false]
def sN : ByteArray := ⟨#[110]⟩
def sNm : ByteArray := ⟨#[110, 97, 109, 101]⟩
def tTx : Ty := Ty.mk 3 [] []
def tNu : Ty := Ty.mk 2 [] []
def exA : AttrG := AttrG.mk sId tTx 3 false false false
def exB : AttrG := AttrG.mk sN tNu 2 false false false
def exC : AttrG := AttrG.mk sNm tTx 1 true false false
def exS : SchemaG := SchemaG.mk [exA, exB, exC] []
theorem lt_id_n : Op.bytesLess sId.toList sN.toList = true := by rw [ByteArray.toList_eq, ByteArray.toList_eq]; decide
theorem lt_n_nm : Op.bytesLess sN.toList sNm.toList = true := by rw [ByteArray.toList_eq, ByteArray.toList_eq]; decide
theorem lt_id_nm : Op.bytesLess sId.toList sNm.toList = true := less_trans lt_id_n lt_n_nm
theorem id_id : identS sId = true := by decide +kernel
theorem id_n : identS sN = true := by decide +kernel
theorem id_nm : identS sNm = true := by decide +kernel
theorem check_ex : gQ2g (Ty.mk 6 [tTx, tNu, tTx] [sId, sN, sNm]) = some 0 := by
 unfold gQ2g
 rw [checkT_eq]
 unfold gQ2n
 have w0 : IntKind.i64.wrap (0 + 1) = 1 := by decide
 have w1 : IntKind.i64.wrap (1 + 1) = 2 := by decide
 have w2 : IntKind.i64.wrap (2 + 1) = 3 := by decide
 have p1 : IntKind.i64.wrap (1 - 1) = 0 := by decide
 have p2 : IntKind.i64.wrap (2 - 1) = 1 := by decide
 have s1 : gQ24 sId = some true := by rw [ident_ref _ (by decide), id_id]
 have s2 : gQ24 sN = some true := by rw [ident_ref _ (by decide), id_n]
 have s3 : gQ24 sNm = some true := by rw [ident_ref _ (by decide), id_nm]
 have c1 : tQ8b tTx 2 = some 0 := rcheck_simple (by decide) 2 (by decide)
 have c2 : tQ8b tNu 2 = some 0 := rcheck_simple (by decide) 2 (by decide)
 have r1 : relT tTx (Ty.mk 6 [tTx, tNu, tTx] [sId, sN, sNm]) := by simp [relT, Ty.elems_mk]
 have r2 : relT tNu (Ty.mk 6 [tTx, tNu, tTx] [sId, sN, sNm]) := by simp [relT, Ty.elems_mk]
 rw [decide_eq_false (by decide), cond_false, show gQ30 (Ty.mk 6 [tTx, tNu, tTx] [sId, sN, sNm]) = some true from rfl, Option.bind_some, Bool.not_true, cond_false]
 have i0 : idx [sId, sN, sNm] 0 = some sId := rfl
 have i1 : idx [sId, sN, sNm] 1 = some sN := rfl
 have i2 : idx [sId, sN, sNm] 2 = some sNm := rfl
 have j0 : idx [tTx, tNu, tTx] 0 = some tTx := rfl
 have j1 : idx [tTx, tNu, tTx] 1 = some tNu := rfl
 have j2 : idx [tTx, tNu, tTx] 2 = some tTx := rfl
 have d0 : (decide ((0 : Int) < (([tTx, tNu, tTx] : List Ty).length : Int))) = true := by decide
 have d1 : (decide ((1 : Int) < (([tTx, tNu, tTx] : List Ty).length : Int))) = true := by decide
 have d2 : (decide ((2 : Int) < (([tTx, tNu, tTx] : List Ty).length : Int))) = true := by decide
 have d3 : (decide ((3 : Int) < (([tTx, tNu, tTx] : List Ty).length : Int))) = false := by decide
 have n0 : (decide ((0 : Int) < (([sId, sN, sNm] : List ByteArray).length : Int))) = true := by decide
 have n1 : (decide ((1 : Int) < (([sId, sN, sNm] : List ByteArray).length : Int))) = true := by decide
 have n2 : (decide ((2 : Int) < (([sId, sN, sNm] : List ByteArray).length : Int))) = true := by decide
 have n3 : (decide ((3 : Int) < (([sId, sN, sNm] : List ByteArray).length : Int))) = false := by decide
 rw [loop_next (s' := 1) (by unfold gQ2o; simp only [Ty.names_mk, n0, cond_true, i0, s1, Option.bind_some, Bool.not_true, cond_false, w0]; rfl)]
 rw [loop_next (s' := 2) (by unfold gQ2o; simp only [Ty.names_mk, n1, cond_true, i1, s2, Option.bind_some, Bool.not_true, cond_false, w1, p1, i0, lt_id_n]; rfl)]
 rw [loop_next (s' := 3) (by unfold gQ2o; simp only [Ty.names_mk, n2, cond_true, i2, s3, Option.bind_some, Bool.not_true, cond_false, w2, p2, i1, lt_n_nm]; rfl)]
 rw [loop_done (q := 0)]
 ·rfl
 unfold gQ2o
 simp only [Ty.names_mk, n3, cond_false]
 rw [loop_next (s' := 1) (by unfold gQ2p; simp only [Ty.elems_mk, d0, cond_true, j0, w1, if_pos r1, c1, Option.bind_some]; rfl)]
 rw [loop_next (s' := 2) (by unfold gQ2p; simp only [Ty.elems_mk, d1, cond_true, j1, w1, if_pos r2, c2, Option.bind_some]; rfl)]
 rw [loop_next (s' := 3) (by unfold gQ2p; simp only [Ty.elems_mk, d2, cond_true, j2, w1, if_pos r1, c1, Option.bind_some]; rfl)]
 refine loop_done ?_
 unfold gQ2p
 rfl
theorem exA_mem {a : AttrG} (h : a ∈ exS.attrs) : a = exA ∨ a = exB ∨ a = exC := by simpa [exS] using h
theorem exS_fits : SFits exS := by
 refine ⟨⟨by decide, fun y hy => ?_⟩, ⟨by decide, fun y hy => absurd hy List.not_mem_nil⟩⟩
 rcases exA_mem hy with rfl | rfl | rfl
 ·exact ⟨by decide, (tok_simple (by decide)).1, by decide, trivial, trivial, trivial⟩
 ·exact ⟨by decide, (tok_simple (by decide)).1, by decide, trivial, trivial, trivial⟩
 ·exact ⟨by decide, (tok_simple (by decide)).1, by decide, trivial, trivial, trivial⟩
theorem rCheck_simple {k : Int} (h : 0 ≤ k ∧ k ≤ 3) : gQ2g (Ty.mk k [] []) = some 0 := by
 unfold gQ2g
 rw [rcheck_simple h 1 (by decide)]; rfl
theorem exS_val : SVal exS where
 fits := exS_fits
 few := {
  la := by decide
  fa := fun a ha => by
   rcases exA_mem ha with rfl | rfl | rfl
   ·exact ⟨by decide, (tok_simple (by decide)).2.1⟩
   ·exact ⟨by decide, (tok_simple (by decide)).2.1⟩
   ·exact ⟨by decide, (tok_simple (by decide)).2.1⟩
  ln := by decide
  fn := fun n hn => absurd hn List.not_mem_nil }
 ok := {
  la := by decide
  ln := by decide
  attrs := by
   refine ⟨fun a ha => ⟨?_, fun h => by cases h⟩, ?_⟩
   ·rcases exA_mem ha with rfl | rfl | rfl
    ·exact ⟨id_id, rCheck_simple (by decide), by decide, by decide, fun h => by cases h⟩
    ·exact ⟨id_n, rCheck_simple (by decide), by decide, by decide, fun h => by cases h⟩
    ·exact ⟨id_nm, rCheck_simple (by decide), by decide, by decide, fun h => by cases h⟩
   ·refine List.pairwise_cons.2 ⟨fun a ha => ?_, List.pairwise_cons.2 ⟨fun a ha => ?_, List.pairwise_singleton _ _⟩⟩
    ·have : a = exB ∨ a = exC := by simpa using ha
     rcases this with rfl | rfl
     ·exact lt_id_n
     ·exact lt_id_nm
    ·have : a = exC := by simpa using ha
     subst this; exact lt_n_nm
  kinds := fun i n h => by simp [exS] at h
  has := by decide +kernel
  mode := by decide +kernel
  kind := by decide +kernel
  vol := by decide +kernel
  type := check_ex }
def s5 : ByteArray := ⟨#[53]⟩
def s1 : ByteArray := ⟨#[49]⟩
def sX : ByteArray := ⟨#[120]⟩
def sY : ByteArray := ⟨#[121]⟩
def v3 (a b c : Val) : Val := Val.mk 5 0 eS [a, b, c] [sId, sN, sNm]
theorem text_5 : vtext s5 = 0 := by decide
theorem text_1 : vtext s1 = 0 := by decide
theorem text_x : vtext sX = 0 := by decide
theorem text_y : vtext sY = 0 := by decide
theorem fits_v3 {a b c : Val} (ha : a.Fits) (hb : b.Fits) (hc : c.Fits) : (v3 a b c).Fits :=
 mk_fits (by decide) (by simp) (by simp) (fun s hs => by
  have : s = sId ∨ s = sN ∨ s = sNm := by simpa using hs
  rcases this with rfl | rfl | rfl <;> decide) (fun x hx => by
  have : x = a ∨ x = b ∨ x = c := by simpa using hx
  rcases this with rfl | rfl | rfl <;> assumption)
theorem rising_ex : Rising [sId, sN, sNm] := rising_of (List.pairwise_cons.2 ⟨fun a ha => by
 have : a = sN ∨ a = sNm := by simpa using ha
 rcases this with rfl | rfl
 ·exact lt_id_n
 ·exact lt_id_nm, List.pairwise_cons.2 ⟨fun a ha => by
  have : a = sNm := by simpa using ha
  subst this; exact lt_n_nm, List.pairwise_singleton _ _⟩⟩)
theorem mok_v3 {a b c : Val} (ha : a.Fits) (hb : b.Fits) (hc : c.Fits) : Mok (v3 a b c) := ⟨fits_v3 ha hb hc, fun _ => rfl, rising_ex⟩
theorem get_id (a b c : Val) : getS (v3 a b c) sId = a := by kernel_rfl
theorem get_n (a b c : Val) : getS (v3 a b c) sN = b := by kernel_rfl
theorem get_nm (a b c : Val) : getS (v3 a b c) sNm = c := by kernel_rfl
theorem nm_ex : nmS exS = [sId, sN, sNm] := rfl
theorem num_text5 : primS gQ0f (vText s5) = (vNum 5, 0) := by
 unfold primS gQ0f
 rw [decide_eq_false (show ¬ (vText s5).kind = 2 by decide), decide_eq_true (show (vText s5).kind = 3 by decide)]
 simp only [cond_false, Bool.not_true]
 rw [show m_parse (vText s5).str = some (5, 0) by unfold m_parse; rw [gd_of (by decide)]; decide]
 rfl
theorem toE_null (t : Ty) : toE vZ t = (vZ, 0) := by
 have h : toS t vZ = (vZ, 0) := by rw [toS_eq, if_pos (.inr (.inl rfl))]
 rw [toE_good (by rw [h]) (by rw [h]; exact check_simple vZ_good.node), h]
theorem toE_five : toE (vText s5) tNu = (vNum 5, 0) := by
 have h : toS tNu (vText s5) = (vNum 5, 0) := by unfold tNu; rw [toS_num _ (by decide) (by decide), num_text5]
 rw [toE_good (by rw [h]) (by rw [h]; exact check_simple (node_number (by decide))), h]
theorem toE_text {s : ByteArray} (h : vtext s = 0) (hs : s.size ≤ 4096) : toE (vText s) tTx = (vText s, 0) := by
 have h2 : toS tTx (vText s) = (vText s, 0) := to_keeps _ _ (tok_simple (by decide)) (vText_ok h hs) (.prim (.inr (.inr rfl)) rfl)
 rw [toE_good (by rw [h2]) (by rw [h2]; exact check_simple (node_text h)), h2]
def v2 : Val := Val.mk 5 0 eS [vText s5, vText sX] [sN, sNm]
theorem out_ex (a b c : Val) : outV exS [a, b, c] = v3 a b c := by
 have h := fold_zip (ks := allN exS) (vs := [a, b, c]) rfl (allN_nodup exS_val.names)
 have hs : SP ([(sId, a), (sN, b), (sNm, c)] : List (ByteArray × Val)) := by
  refine List.pairwise_cons.2 ⟨fun p hp => ?_, List.pairwise_cons.2 ⟨fun p hp => ?_, List.pairwise_singleton _ _⟩⟩
  ·have : p = (sN, b) ∨ p = (sNm, c) := by simpa using hp
   rcases this with rfl | rfl
   ·exact lt_id_n
   ·exact lt_id_nm
  ·have : p = (sNm, c) := by simpa using hp
   subst this; exact lt_n_nm
 have e := sp_unique h.1 hs h.2.1
 show mapOf (foldP [] ((allN exS).zip [a, b, c])) = _
 rw [e]; rfl
theorem check_v2 : checkE v2 = 0 := by decide +kernel
theorem check_v3a : checkE (v3 vZ (vNum 5) (vText sX)) = 0 := by decide +kernel
theorem check_m0 : checkE (Val.mk 5 0 eS [] []) = 0 := by decide +kernel
theorem fits_v2 : v2.Fits := mk_fits (by decide) (by decide) (by decide) (fun s hs => by
  have : s = sN ∨ s = sNm := by simpa [v2] using hs
  rcases this with rfl | rfl <;> decide) (fun x hx => by
  have : x = vText s5 ∨ x = vText sX := by simpa [v2] using hx
  rcases this with rfl | rfl
  ·exact (vText_ok text_5 (by decide)).1
  ·exact (vText_ok text_x (by decide)).1)
theorem one_of {a : AttrG} {x y : Val} (h1 : ¬ (a.mode = 1 ∧ x.kind = 0)) (h2 : ¬ (a.mode = 3 ∧ x.kind ≠ 0)) (h : toE x a.type_ = (y, 0)) : oneX a x = .inl y := by
 unfold oneX
 rw [if_neg h1, if_neg h2, h, if_pos rfl]
theorem coerce_ex : coerceS exS v2 = (v3 vZ (vNum 5) (vText sX), DiagG.mk 0 0 eS) := by
 have g1 : getS v2 sId = vZ := by kernel_rfl
 have g2 : getS v2 sN = vText s5 := by kernel_rfl
 have g3 : getS v2 sNm = vText sX := by kernel_rfl
 have a1 : fA v2 exA = .inl vZ := by
  show tagD sId (oneX exA (getS v2 sId)) = _
  rw [g1, one_of (by decide) (by decide) (toE_null _)]; rfl
 have a2 : fA v2 exB = .inl (vNum 5) := by
  show tagD sN (oneX exB (getS v2 sN)) = _
  rw [g2, one_of (by decide) (by decide) toE_five]; rfl
 have a3 : fA v2 exC = .inl (vText sX) := by
  show tagD sNm (oneX exC (getS v2 sNm)) = _
  rw [g3, one_of (by decide) (by decide) (toE_text text_x (by decide))]; rfl
 have hp : partsX exS v2 = .inl [vZ, vNum 5, vText sX] := by
  have he : eachX (fA v2) exS.attrs = .inl [vZ, vNum 5, vText sX] := by
   show eachX (fA v2) [exA, exB, exC] = _
   simp only [eachX, a1, a2, a3]
  unfold partsX
  rw [he]; rfl
 unfold coerceS
 rw [if_neg (by rw [check_v2]; decide), if_neg (by decide), show v2.keys.find? (fun k => !known exS k) = none by decide +kernel]
 show bodyS exS v2 = _
 unfold bodyS
 rw [hp]
 show finS exS [vZ, vNum 5, vText sX] = _
 unfold finS
 rw [out_ex, if_pos check_v3a]
theorem coerce_none : coerceS exS (Val.mk 5 0 eS [] []) = (vZ, DiagG.mk 12 0 sNm) := by
 have g1 : ∀ k, getS (Val.mk 5 0 eS [] []) k = vZ := fun k => rfl
 have a1 : fA (Val.mk 5 0 eS [] []) exA = .inl vZ := by
  show tagD sId (oneX exA (getS _ sId)) = _
  rw [g1, one_of (by decide) (by decide) (toE_null _)]; rfl
 have a2 : fA (Val.mk 5 0 eS [] []) exB = .inl vZ := by
  show tagD sN (oneX exB (getS _ sN)) = _
  rw [g1, one_of (by decide) (by decide) (toE_null _)]; rfl
 have a3 : fA (Val.mk 5 0 eS [] []) exC = .inr (DiagG.mk 12 0 sNm) := by
  show tagD sNm (oneX exC (getS _ sNm)) = _
  rw [g1]; unfold oneX; rw [if_pos (by decide)]; rfl
 have hp : partsX exS (Val.mk 5 0 eS [] []) = .inr (DiagG.mk 12 0 sNm) := by
  have he : eachX (fA (Val.mk 5 0 eS [] [])) exS.attrs = .inr (DiagG.mk 12 0 sNm) := by
   show eachX (fA (Val.mk 5 0 eS [] [])) [exA, exB, exC] = _
   simp only [eachX, a1, a2, a3]
  unfold partsX
  rw [he]
 unfold coerceS
 rw [if_neg (by rw [check_m0]; decide), if_neg (by decide), show (Val.mk 5 0 eS [] []).keys.find? (fun k => !known exS k) = none from rfl]
 show bodyS exS _ = _
 unfold bodyS
 rw [hp]
theorem propose_ex : proposeS exS vZ (v3 vZ (vNum 5) (vText sX)) = v3 vU (vNum 5) (vText sX) := by
 have c1 : cfgS exS (v3 vZ (vNum 5) (vText sX)) sId = false := by kernel_rfl
 have c2 : cfgS exS (v3 vZ (vNum 5) (vText sX)) sN = true := by kernel_rfl
 have c3 : cfgS exS (v3 vZ (vNum 5) (vText sX)) sNm = true := by kernel_rfl
 have e1 : valP exS vZ (v3 vZ (vNum 5) (vText sX)) sId = vU := by unfold valP; rw [c1, if_neg (by decide), if_pos (by decide)]
 have e2 : valP exS vZ (v3 vZ (vNum 5) (vText sX)) sN = vNum 5 := by unfold valP; rw [c2, if_pos rfl, get_n]
 have e3 : valP exS vZ (v3 vZ (vNum 5) (vText sX)) sNm = vText sX := by unfold valP; rw [c3, if_pos rfl, get_nm]
 unfold proposeS
 rw [nm_ex, List.map_cons, List.map_cons, List.map_cons, List.map_nil, e1, e2, e3]; rfl
theorem replaced_ex : rpS exS (v3 (vText s1) (vNum 5) (vText sX)) (v3 (vText s1) (vNum 5) (vText sY)) = [sNm] := by
 have d1 : difS (vText s1) (vText s1) = false := difS_self (by decide)
 have d2 : difS (vNum 5) (vNum 5) = false := difS_self (by decide)
 have d3 : difS (vText sX) (vText sY) = true := by
  unfold difS
  have : eqB (vText sX) (vText sY) = false := by
   rw [Bool.eq_false_iff]
   intro h
   have := congrArg Val.str (eqB_iff.1 h)
   exact absurd this (by decide)
  rw [this]; rfl
 have hc : chS exS (v3 (vText s1) (vNum 5) (vText sX)) (v3 (vText s1) (vNum 5) (vText sY)) = [sNm] := by
  unfold chS
  rw [nm_ex]
  simp only [List.filter_cons, List.filter_nil, get_id, get_n, get_nm, d1, d2, d3, if_true, if_false, Bool.false_eq_true]
 unfold rpS
 rw [hc]
 decide +kernel
theorem check_none : gQ3w (SchemaG.mk [] []) = some 12 := by
 obtain ⟨r, r1, _, r3⟩ := attrs_spec [] false (by decide) (fun a ha => absurd ha List.not_mem_nil)
 have h0 : r = 0 := r3.2 ⟨fun a ha => absurd ha List.not_mem_nil, List.Pairwise.nil⟩
 unfold gQ3w
 rw [decide_eq_false (by decide), cond_false, r1, h0, Option.bind_some, decide_eq_true rfl, Bool.not_true, cond_false]
 refine loop_done ?_
 unfold gQ3x
 rw [decide_eq_false (by decide), cond_false, Find_spec _ _ (by decide) (fun a ha => absurd ha List.not_mem_nil), Option.bind_some]
 rfl
theorem schema_ex : gQ3w exS = some 0 := by
 obtain ⟨r, r1, _, r3⟩ := Check_spec12 exS exS_fits (by decide) (by decide)
 rw [r1, r3.2 exS_val.ok]
theorem accepts_ex : gQ3r exS (v3 vU (vNum 5) (vText sX)) (v3 (vText s1) (vNum 5) (vText sX)) = some true := by
 have ft : (vText s1).Fits := (vText_ok text_1 (by decide)).1
 have fx : (vText sX).Fits := (vText_ok text_x (by decide)).1
 have fn : (vNum 5).Fits := (vNum_ok (by decide)).1
 have hf := fits_v3 ft fn fx
 unfold gQ3r
 rw [m_checkE_eq hf, show checkE (v3 (vText s1) (vNum 5) (vText sX)) = 0 by decide +kernel, Option.bind_some, decide_eq_true rfl, cond_true, known_spec _ hf, show knownV (v3 (vText s1) (vNum 5) (vText sX)) = true by kernel_rfl, Option.bind_some, cond_true, Type_spec _ exS_val.names exS_fits, Option.bind_some]
 obtain ⟨q, h1, h2⟩ := types_fits_spec (v3 (vText s1) (vNum 5) (vText sX)) (tyOf (typL exS)) hf
 have hq : q = true := h2.2 (.obj (by decide) rfl rfl rfl fun i x e hx he => by
  have hi : i < 3 := (List.getElem?_eq_some_iff.1 hx).1
  have : i = 0 ∨ i = 1 ∨ i = 2 := by omega
  rcases this with rfl | rfl | rfl
  ·cases hx; cases he; exact .prim (.inr (.inr rfl)) rfl
  ·cases hx; cases he; exact .prim (.inr (.inl rfl)) rfl
  ·cases hx; cases he; exact .prim (.inr (.inr rfl)) rfl)
 rw [h1, hq, Option.bind_some, cond_true]
 obtain ⟨p, k1, k2⟩ := value_refines_spec (v3 (vText s1) (vNum 5) (vText sX)) (v3 vU (vNum 5) (vText sX)) hf
 have hp : p = true := k2.2 (.node rfl rfl rfl rfl rfl fun i x y hx hy => by
  have hi : i < 3 := (List.getElem?_eq_some_iff.1 hx).1
  have : i = 0 ∨ i = 1 ∨ i = 2 := by omega
  rcases this with rfl | rfl | rfl
  ·cases hx; cases hy; exact .unk rfl
  ·cases hx; cases hy; exact Refs.refl _
  ·cases hx; cases hy; exact Refs.refl _)
 rw [k1, hp]; rfl
theorem awake12 : gQ1g = some true := by
 have ft : (vText s1).Fits := (vText_ok text_1 (by decide)).1
 have fx : (vText sX).Fits := (vText_ok text_x (by decide)).1
 have fy : (vText sY).Fits := (vText_ok text_y (by decide)).1
 have fn : (vNum 5).Fits := (vNum_ok (by decide)).1
 have y1 : gQ1j = some exS := rfl
 have y4 : gQ3z exS (Val.mk 5 0 eS [vText s5, vText sX] [sN, sNm]) = some (v3 vZ (vNum 5) (vText sX), DiagG.mk 0 0 eS) := by
  rw [← coerce_ex]; exact Coerce_spec exS_val fits_v2
 have y5 : gQ3z exS (Val.mk 5 0 eS [] []) = some (vZ, DiagG.mk 12 0 sNm) := by
  rw [Coerce_spec exS_val (mk_fits (by decide) (by decide) (by decide) (fun s h => absurd h List.not_mem_nil) (fun s h => absurd h List.not_mem_nil)), coerce_none]
 have y6 : gQ46 exS vZ (v3 vZ (vNum 5) (vText sX)) = some (v3 vU (vNum 5) (vText sX)) := by
  rw [Propose_spec exS_val (vZ_ok.mok) (mok_v3 vZ_fits fn fx), propose_ex]
 have y13 : gQ4a exS (v3 (vText s1) (vNum 5) (vText sX)) (v3 (vText s1) (vNum 5) (vText sY)) = some [sNm] := by
  rw [Replaced_spec exS_val.names exS_fits (mok_v3 ft fn fx) (mok_v3 ft fn fy), replaced_ex]
 have e1 : tQ85 (v3 vZ (vNum 5) (vText sX)) (v3 vZ (vNum 5) (vText sX)) = some true := by rw [req_spec (fits_v3 vZ_fits fn fx), eqB_iff.2 rfl]
 have e2 : tQ85 (v3 vU (vNum 5) (vText sX)) (v3 vU (vNum 5) (vText sX)) = some true := by rw [req_spec (fits_v3 vU_fits fn fx), eqB_iff.2 rfl]
 unfold gQ1g
 rw [y1, Option.bind_some]
 show ((gQ3z exS (Val.mk 5 0 eS [vText s5, vText sX] [sN, sNm])).bind fun y4 => _) = _
 rw [y4, Option.bind_some]
 show ((gQ3z exS (Val.mk 5 0 eS [] [])).bind fun y4 => _) = _
 rw [y5, Option.bind_some]
 show ((gQ46 exS vZ (v3 vZ (vNum 5) (vText sX))).bind fun y4 => _) = _
 rw [y6, Option.bind_some]
 show ((gQ4a exS (v3 (vText s1) (vNum 5) (vText sX)) (v3 (vText s1) (vNum 5) (vText sY))).bind fun y4 => _) = _
 rw [y13, Option.bind_some, schema_ex, Option.bind_some, decide_eq_true rfl, cond_true, check_none, Option.bind_some, decide_eq_true rfl, cond_true]
 show ((tQ85 (v3 vZ (vNum 5) (vText sX)) (v3 vZ (vNum 5) (vText sX))).bind fun y4 => _) = _
 rw [e1, Option.bind_some, cond_true]
 show ((tQ85 (v3 vU (vNum 5) (vText sX)) (v3 vU (vNum 5) (vText sX))).bind fun y4 => _) = _
 rw [e2, Option.bind_some, cond_true]
 show ((gQ3r exS (v3 vU (vNum 5) (vText sX)) (v3 (vText s1) (vNum 5) (vText sX))).bind fun y4 => _) = _
 rw [accepts_ex]; rfl
end Abs
end Go.Proofs.YtkffpfapfljinaaGreatDoor
namespace Go.Proofs.YtkffpfapfljinaaGreatDoor
set_option linter.unusedSimpArgs false
set_option linter.unusedVariables false
namespace Abs
open Go.RowKit
theorem law_Checks (s : SchemaG) (hf : SFits s) : gQ0u s = some true := law_Checks0 awake12 s hf
theorem loop_run {O : Type} {body : Int → Option (Int ⊕ O)} (n : Nat) (q : O) (step : ∀ i : Nat, i < n → body (i : Int) = some (.inl ((i + 1 : Nat) : Int))) (stop : body (n : Int) = some (.inr q)) : loopO body 0 = some q := by
 obtain ⟨p, h1, h2⟩ := loop_meas (body := body) (fun s => ∃ i : Nat, s = (i : Int) ∧ i ≤ n) (fun s => n - s.toNat) (fun p => p = q) (by
  rintro s ⟨i, rfl, hi⟩
  rcases Nat.eq_or_lt_of_le hi with h0 | h0
  ·subst h0; exact .inr ⟨q, stop, rfl⟩
  ·exact .inl ⟨_, step i h0, ⟨i + 1, rfl, h0⟩, by simp only [Int.toNat_natCast]; omega⟩) 0 ⟨0, rfl, Nat.zero_le _⟩
 rw [h1, h2]
open Classical in
theorem tequal_eq (a b : Ty) : tQ8n a b = gQ6d (fun a0 a1 => if relT a0 a then tQ8n a0 a1 else none) a b := tieF_eq a b
open Classical in
theorem tequal_refl (a : Ty) : a.Fits → tQ8n a a = some true := by
 induction a using wfT.induction with
 | h a ih =>
  intro hf
  obtain ⟨f1, f2, f3, f4, f5⟩ := hf.parts
  have hn := tlen f2
  rw [tequal_eq]
  unfold gQ6d
  rw [decide_eq_true rfl, cond_true, equal_spec _ _ (by have := len_i64 f3 (by decide); omega), decide_eq_true rfl, Option.bind_some, cond_true]
  unfold gQ6f
  rw [decide_eq_true rfl, Bool.not_true, cond_false]
  rw [loop_run a.elems.length true (fun i h0 => by
   have hx := List.getElem?_eq_getElem h0
   have hr : relT a.elems[i] a := List.getElem_mem h0
   have hq := ih _ hr (f5 _ hr)
   simp only [gQ6g, decide_eq_true (show (i : Int) < a.elems.length by omega), cond_true, idx_nat, hx, Option.bind_some, if_pos hr, hq, Bool.not_true, cond_false, wrap_nat h0 (show a.elems.length ≤ 9223372036854775807 by omega)]) (by
   unfold gQ6g
   rw [decide_eq_false (by omega), cond_false])]
  rfl
theorem same_refl (l : List ByteArray) (hl : l.length ≤ 9223372036854775807) : gQ2x l l = some true := by
 unfold gQ2x
 rw [decide_eq_true rfl, Bool.not_true, cond_false]
 exact loop_run l.length true (fun i h0 => by
   have hx := List.getElem?_eq_getElem h0
   simp only [gQ2y, decide_eq_true (show (i : Int) < l.length by omega), cond_true, idx_nat, hx, Option.bind_some, decide_true, Bool.not_true, cond_false, wrap_nat h0 hl]) (by
   unfold gQ2y
   rw [decide_eq_false (by omega), cond_false])
open Classical in
theorem rtequal_eq (a b : Ty) : tQ88 a b = gQ2i (fun a0 a1 => if relT a0 a then tQ88 a0 a1 else none) a b := tieF_eq a b
open Classical in
theorem rtequal_refl (a : Ty) : a.Fits → tQ88 a a = some true := by
 induction a using wfT.induction with
 | h a ih =>
  intro hf
  obtain ⟨f1, f2, f3, f4, f5⟩ := hf.parts
  have hn := tlen f2
  rw [rtequal_eq]
  unfold gQ2i
  rw [decide_eq_true rfl, Bool.not_true, cond_false, decide_eq_true rfl, Bool.not_true, cond_false, same_refl _ (by have := len_i64 f3 (by decide); omega), Option.bind_some, Bool.not_true, cond_false]
  exact loop_run a.elems.length true (fun i h0 => by
   have hx := List.getElem?_eq_getElem h0
   have hr : relT a.elems[i] a := List.getElem_mem h0
   have hq := ih _ hr (f5 _ hr)
   simp only [gQ2j, decide_eq_true (show (i : Int) < a.elems.length by omega), cond_true, idx_nat, hx, Option.bind_some, if_pos hr, hq, Bool.not_true, cond_false, wrap_nat h0 (show a.elems.length ≤ 9223372036854775807 by omega)]) (by
   unfold gQ2j
   rw [decide_eq_false (by omega), cond_false])
theorem aZ_fits : aZ.type_.Fits := (tok_simple (by decide)).1
theorem findA_fits {s : SchemaG} (hf : SFits s) (n : ByteArray) : (findA n s.attrs).1.type_.Fits := by
 cases h : (findA n s.attrs).2 with
 | true => exact (hf.1.2 _ (findA_yes h).1).2.1
 | false => rw [(findA_no h).1]; exact aZ_fits
theorem law_Finds (s : SchemaG) (nm : ByteArray) (hf : SFits s) : gQ0w s nm = some true := by
 unfold gQ0w
 obtain ⟨b, b1, b2⟩ := valid_spec12 s hf
 rw [b1, Option.bind_some]
 cases b with
 | false => rw [Bool.not_false, cond_true, awake12]; rfl
 | true =>
  have hv := b2 rfl
  have hl := hv.few.la
  rw [Bool.not_true, cond_false, Find_spec s nm (by omega) (fun a ha => (hf.1.2 a ha).2.1), Option.bind_some, rFind_spec s nm (by omega), Option.bind_some, decide_eq_true rfl, cond_true]
  rw [tequal_refl _ (findA_fits hf nm), Option.bind_some, cond_true, decide_eq_true rfl, cond_true]
  simp only [beq_self_eq_true, cond_true]
  unfold gQ0x
  simp only [beq_self_eq_true, cond_true]
  rw [Type_spec s hv.names hf, Option.bind_some, rType_spec s hv.names, Option.bind_some, rtequal_refl _ (ty_fits hv.names hf), Option.bind_some, cond_true, awake12]; rfl
theorem small_spec12 {v : Val} (hv : v.Fits) : ∃ b, gQ1r v = some b ∧ (b = true → Ck v) := by
 unfold gQ1r
 rw [show m_small v 150 = some (smallV v 150) from gd_of ⟨hv, by decide, by decide⟩, Option.bind_some]
 cases smallV v 150 with
 | false => exact ⟨false, rfl, fun h => by cases h⟩
 | true =>
  rw [cond_true, m_checkE_eq hv, Option.bind_some]
  exact ⟨_, rfl, fun h => ck_of hv (of_decide_eq_true h)⟩
structure Cok (s : SchemaG) (v : Val) (vs : List Val) : Prop where
 ck : Ck v
 kind : v.kind = 5
 parts : partsX s v = .inl vs
 res : coerceS s v = (outV s vs, DiagG.mk 0 0 eS)
 out : Ck (outV s vs)
theorem coerce_ok {s : SchemaG} {v : Val} (hs : SVal s) (hv : v.Fits) (h : (coerceS s v).2.kind = 0) : ∃ vs, Cok s v vs := by
 have h0 := h
 unfold coerceS at h
 by_cases hc : checkE v = 0
 case neg => rw [if_pos hc] at h; cases h
 rw [if_neg (by simp [hc])] at h
 by_cases hk : v.kind = 5
 case neg => rw [if_pos hk] at h; cases h
 rw [if_neg (by simp [hk])] at h
 have hck := ck_of hv hc
 cases hfd : v.keys.find? fun k => !known s k with
 | some k => rw [hfd] at h; cases h
 | none =>
  rw [hfd] at h
  have h1 : (bodyS s v).2.kind = 0 := h
  unfold bodyS at h1
  cases hp : partsX s v with
  | inr d => rw [hp] at h1; exact absurd h1 (partsX_ne hp)
  | inl vs =>
   rw [hp] at h1
   have h2 : (finS s vs).2.kind = 0 := h1
   unfold finS at h2
   by_cases hq : checkE (outV s vs) = 0
   case neg => rw [if_neg hq] at h2; exact absurd h2 hq
   refine ⟨vs, hck, hk, hp, ?_, ck_of (outV_fits hs (partsX_len hp) (partsX_fits hs hck.ok hp)) hq⟩
   unfold coerceS
   rw [if_neg (by simp [hc]), if_neg (by simp [hk]), hfd]
   show bodyS s v = _
   unfold bodyS
   rw [hp]
   show finS s vs = _
   unfold finS
   rw [if_pos hq]
theorem m_small_150 {v : Val} (hv : v.Fits) : m_small v 150 = some (smallV v 150) := gd_of ⟨hv, by decide, by decide⟩
theorem valP_fits {s : SchemaG} {prior c : Val} (hp : Mok prior) (hc : Mok c) (n : ByteArray) : (valP s prior c n).Fits := by
 unfold valP
 split
 ·exact getS_fits hc n
 ·split
  ·exact vU_fits
  ·split
   ·exact vU_fits
   ·exact getS_fits hp n
theorem propose_mok {s : SchemaG} (hs : SVal s) {prior c : Val} (hp : Mok prior) (hc : Mok c) : Mok (proposeS s prior c) := by
 have hl := nmS_len hs.names
 refine ⟨mk_fits (by decide) (by simp; omega) (by omega) (nmS_size hs.names hs.fits) fun x hx => ?_, fun _ => by simp [proposeS], nmS_rising hs.names⟩
 obtain ⟨n, _, rfl⟩ := List.mem_map.1 hx
 exact valP_fits hp hc n
theorem chS_small {s : SchemaG} (hs : SVal s) (b a : Val) : (chS s b a).length ≤ 1000 := by have := chS_len hs.names b a; omega
theorem rpS_small {s : SchemaG} (hs : SVal s) (b a : Val) : (rpS s b a).length ≤ 1000 := by
 have := chS_len hs.names b a
 have := List.length_filter_le (fun n => (findA n s.attrs).1.replace || (findN n s.nested).1.replace) (chS s b a)
 unfold rpS; omega
theorem full_spec12 {s : SchemaG} (hs : SVal s) (v : Val) : ∃ b, gQ1o s v = some b ∧ (b = true → v.kind = 5 ∧ v.keys = nmS s) := by
 have hl := nmS_len hs.names
 unfold gQ1o
 rw [rNames_spec12 hs.names, Option.bind_some]
 show ∃ b, (bif _ then _ else bif (!decide ((v.keys.length : Int) = ((nmS s).length : Int))) then some false else loopO (gQ1p v (nmS s)) 0) = _ ∧ _
 by_cases h5 : v.kind = 5
 case neg => rw [decide_eq_false h5]; exact ⟨false, rfl, fun h => by cases h⟩
 by_cases hn : v.keys.length = (nmS s).length
 case neg => rw [decide_eq_true h5, decide_eq_false (show ¬ (v.keys.length : Int) = (nmS s).length by omega)]; exact ⟨false, rfl, fun h => by cases h⟩
 rw [decide_eq_true h5, decide_eq_true (show (v.keys.length : Int) = (nmS s).length by omega), Bool.not_true, cond_false, cond_false]
 rcases loop_ask (body := gQ1p v (nmS s)) (nmS s).length (fun i => v.keys[i]? = (nmS s)[i]?) true false (by omega) (fun i h0 => by
  have hx := List.getElem?_eq_getElem h0
  have hy := List.getElem?_eq_getElem (show i < v.keys.length by omega)
  by_cases he : v.keys[i] = (nmS s)[i]
  ·refine .inl ⟨by rw [hx, hy, he], ?_⟩
   simp only [gQ1p, decide_eq_true (show (i : Int) < (nmS s).length by omega), cond_true, idx_nat, hx, hy, Option.bind_some, decide_eq_true he, Bool.not_true, cond_false]
  ·refine .inr ⟨fun k => he (by rw [hx, hy] at k; exact Option.some.inj k), ?_⟩
   simp only [gQ1p, decide_eq_true (show (i : Int) < (nmS s).length by omega), cond_true, idx_nat, hx, hy, Option.bind_some, decide_eq_false he, Bool.not_false]) (by
  unfold gQ1p
  rw [decide_eq_false (by omega), cond_false]) with ⟨h1, h2⟩ | ⟨h1, _⟩
 ·exact ⟨true, h1, fun _ => ⟨h5, list_ext hn fun i hi => h2 i (by omega)⟩⟩
 ·exact ⟨false, h1, fun h => by cases h⟩
theorem chS_comm (s : SchemaG) (a b : Val) : chS s a b = chS s b a := by
 unfold chS
 congr 1
 funext n
 exact difS_comm _ _
theorem rpS_comm (s : SchemaG) (a b : Val) : rpS s a b = rpS s b a := by unfold rpS; rw [chS_comm]
theorem chS_pair {s : SchemaG} (hs : SVal s) (a b : Val) : (chS s a b).Pairwise fun a b => Op.bytesLess a.toList b.toList = true :=
 (pair_of_rising (nmS_rising hs.names)).sublist List.filter_sublist
theorem tail_Changes {s : SchemaG} (hs : SVal s) {a b : Val} (ha : Mok a) (hb : Mok b) (z : Bool) : gQ0r s a b z = some true := by
 unfold gQ0r
 cases z with
 | true => rw [cond_true, awake12]; rfl
 | false =>
  rw [cond_false, Changed_spec hs.names hs.fits ha hb, Option.bind_some, Replaced_spec hs.names hs.fits ha hb, Option.bind_some, Changed_spec hs.names hs.fits hb ha, Option.bind_some, chS_comm s b a, texts_same _ (chS_small hs _ _), Option.bind_some, Bool.not_true, cond_false, Replaced_spec hs.names hs.fits hb ha, Option.bind_some, rpS_comm s b a, texts_same _ (rpS_small hs _ _), Option.bind_some, Bool.not_true, cond_false]
  have hpw := chS_pair hs a b
  have hris : Rising (chS s a b) := rising_of hpw
  have hl := chS_small hs a b
  have hr : rpS s a b = (chS s a b).filter fun n => (findA n s.attrs).1.replace || (findN n s.nested).1.replace := rfl
  generalize hp : (fun n : ByteArray => (findA n s.attrs).1.replace || (findN n s.nested).1.replace) = p at hr
  rw [hr]
  generalize chS s a b = l at hpw hris hl hr ⊢
  clear hr
  have key : ∀ i (hi : i < l.length), (l.filter p)[((l.take i).filter p).length]? = (if p l[i] then some l[i] else ((l.drop (i + 1)).filter p)[0]?) := fun i hi => by
   have : l.filter p = (l.take i).filter p ++ (l.drop i).filter p := by rw [← List.filter_append, List.take_append_drop]
   rw [this, List.getElem?_append_right (Nat.le_refl _), Nat.sub_self, List.drop_eq_getElem_cons hi, List.filter_cons]
   split <;> simp
  have hfl := List.length_filter_le p l
  have inner : ∀ (i : Nat) (hi : i < l.length), (bif (decide ((((l.take i).filter p).length : Int) < ((l.filter p).length : Int))) then (idx (l.filter p) (((l.take i).filter p).length : Int)).bind fun x17 => (idx l (i : Int)).bind fun x18 => bif (decide (x17 = x18)) then some (.inl ((IntKind.i64.wrap ((i : Int) + 1)), (IntKind.i64.wrap ((((l.take i).filter p).length : Int) + 1)))) else some (.inl ((IntKind.i64.wrap ((i : Int) + 1)), (((l.take i).filter p).length : Int))) else some (.inl ((IntKind.i64.wrap ((i : Int) + 1)), (((l.take i).filter p).length : Int))) : Option ((Int × Int) ⊕ Bool)) = some (.inl (((i + 1 : Nat) : Int), (((l.take (i + 1)).filter p).length : Int))) := by
   intro i hi
   have hx := List.getElem?_eq_getElem hi
   have hk := key i hi
   have w := wrap_nat hi (show l.length ≤ 9223372036854775807 by omega)
   have ht : ((l.take (i + 1)).filter p).length = ((l.take i).filter p).length + (if p l[i] then 1 else 0) := by
    rw [List.take_succ_eq_append_getElem hi, List.filter_append, List.length_append, List.filter_cons]
    cases p l[i] <;> simp
   by_cases hpx : p l[i] = true
   ·rw [if_pos hpx] at hk
    rw [if_pos hpx] at ht
    have hlt : ((l.take i).filter p).length < (l.filter p).length := (List.getElem?_eq_some_iff.1 hk).1
    rw [decide_eq_true (show (((l.take i).filter p).length : Int) < (l.filter p).length by omega), cond_true, idx_nat, hk, Option.bind_some, idx_nat, hx, Option.bind_some, decide_eq_true rfl, cond_true, w, wrap_nat hlt (by omega), ht]
   ·rw [if_neg hpx] at hk
    have ht : ((l.take (i + 1)).filter p).length = ((l.take i).filter p).length := by rw [if_neg hpx] at ht; exact ht
    rw [ht]
    by_cases hlt : ((l.take i).filter p).length < (l.filter p).length
    ·rw [decide_eq_true (show (((l.take i).filter p).length : Int) < (l.filter p).length by omega), cond_true, idx_nat, List.getElem?_eq_getElem hlt, Option.bind_some, idx_nat, hx, Option.bind_some]
     rw [List.getElem?_eq_getElem hlt] at hk
     have hmem := List.mem_of_getElem? hk.symm
     have hne : ¬ (l.filter p)[((l.take i).filter p).length] = l[i] := fun e => by
      rw [e] at hmem
      exact hpx (List.mem_filter.1 hmem).2
     rw [decide_eq_false hne, cond_false, w]
    ·rw [decide_eq_false (show ¬ (((l.take i).filter p).length : Int) < (l.filter p).length by omega), cond_false, w]
  obtain ⟨q, h1, rfl⟩ := loop_meas (body := gQ0s l (l.filter p)) (fun s => ∃ i : Nat, s = ((i : Int), (((l.take i).filter p).length : Int)) ∧ i ≤ l.length) (fun s => l.length - s.1.toNat) (fun q => q = true) (by
   rintro s ⟨i, rfl, hi⟩
   rcases Nat.eq_or_lt_of_le hi with h0 | h0
   ·subst h0
    refine .inr ⟨true, ?_, rfl⟩
    unfold gQ0s
    rw [List.take_length]
    simp only [decide_eq_false (show ¬ (l.length : Int) < l.length by omega), cond_false, decide_true, cond_true, awake12, Option.bind_some]
   ·refine .inl ⟨_, ?_, ⟨i + 1, rfl, h0⟩, by simp only [Int.toNat_natCast]; omega⟩
    unfold gQ0s
    rw [decide_eq_true (show (((i : Int), (((l.take i).filter p).length : Int)).1 < (l.length : Int)) by show (i : Int) < _; omega), cond_true]
    by_cases hi0 : 0 < i
    ·have e1 : IntKind.i64.wrap ((i : Int) - 1) = ((i - 1 : Nat) : Int) := by rw [wrap_in (by omega) (by omega)]; omega
     have hy := List.getElem?_eq_getElem (show i - 1 < l.length by omega)
     have hx := List.getElem?_eq_getElem h0
     have hb2 := hris (i - 1) i (by omega) _ _ hy hx
     simp only [decide_eq_true (show (i : Int) > 0 by omega), cond_true]
     have hxi : idx l (i : Int) = some l[i] := by rw [idx_nat]; exact hx
     have hyi : idx l ((i - 1 : Nat) : Int) = some l[i - 1] := by rw [idx_nat]; exact hy
     have inn := inner i h0
     rw [hxi] at inn
     rw [hxi, Option.bind_some, e1, hyi, Option.bind_some, leq_not, hb2, Bool.not_true, cond_false]
     exact inn
    ·simp only [decide_eq_false (show ¬ (i : Int) > 0 by omega), cond_false]
     exact inner i h0) (0, 0) ⟨0, rfl, Nat.zero_le _⟩
  exact h1
theorem law_Changes (s : SchemaG) (a b : Val) (hf : SFits s) (ha : a.Fits) (hb : b.Fits) : gQ0q s a b = some true := by
 unfold gQ0q
 obtain ⟨q, b1, b2⟩ := valid_spec12 s hf
 rw [b1, Option.bind_some]
 have hT : gQ0r s a b true = some true := by unfold gQ0r; rw [cond_true, awake12]; rfl
 cases q with
 | false => rw [Bool.not_false, cond_true, hT]
 | true =>
  have hs := b2 rfl
  rw [Bool.not_true, cond_false]
  obtain ⟨c, c1, c2⟩ := small_spec12 ha
  rw [c1, Option.bind_some]
  cases c with
  | false => rw [Bool.not_false, cond_true, hT]
  | true =>
   have hA := (c2 rfl).ok.mok
   rw [Bool.not_true, cond_false]
   obtain ⟨d, d1, d2⟩ := small_spec12 hb
   rw [d1, Option.bind_some]
   cases d with
   | false => rw [Bool.not_false, cond_true, hT]
   | true =>
    have hB := (d2 rfl).ok.mok
    have hJ := tail_Changes hs hA hB
    rw [Bool.not_true, cond_false]
    simp only [hJ]
    cases decide (a.kind = 0) <;> cases decide (a.kind = 5) <;> cases decide (b.kind = 0) <;> rfl
end Abs
end Go.Proofs.YtkffpfapfljinaaGreatDoor
namespace Go.Proofs.YtkffpfapfljinaaGreatDoor
set_option linter.unusedSimpArgs false
set_option linter.unusedVariables false
namespace Abs
open Go.RowKit
theorem not6 : ¬ ((6 : Int) = 0 ∨ (6 : Int) = 1 ∨ (6 : Int) = 2 ∨ (6 : Int) = 3 ∨ (6 : Int) = 4 ∨ (6 : Int) = 5) := by decide
theorem toE_nn {x y : Val} {t : Ty} (ht : Tok t) (hx : Vok x) (h : toE x t = (y, 0)) (h0 : x.kind ≠ 0) : y.kind ≠ 0 := by
 obtain ⟨e1, _, e3⟩ := toE_ok (show (toE x t).2 = 0 by rw [h])
 obtain rfl : (toS t x).1 = y := by rw [e3] at h; exact congrArg Prod.fst h
 cases toC t x ht with
 | same hc k => rw [k]; exact h0
 | prim f hp t0 v0 v6 tk k => rw [k] at e1 ⊢; rw [(hp.eq hx.1).2.2.2.1 e1]; exact t0
 | coll e he hk hk2 k =>
  rw [k] at e1 ⊢
  rw [colR_col (eachS_ok _ _ (colR_ok.1 e1))]; exact h0
 | obj hk hk2 hn k =>
  rw [k] at e1 ⊢
  rw [colR_col (eachS_ok _ _ (colR_ok.1 e1))]; exact (by decide : (5 : Int) ≠ 0)
 | bad hk v0 v6 hb k => rcases k with k | k <;> rw [k] at e1 <;> cases e1
theorem toE_null2 {x : Val} {t : Ty} (h : x.kind = 0) (he : (toE x t).2 = 0) : (toE x t).1 = x := by
 obtain ⟨_, _, e3⟩ := toE_ok he
 rw [e3, toS_eq, if_pos (.inr (.inl h))]
theorem toE_res {x y : Val} {t : Ty} (ht : Tok t) (hx : Vok x) (h : toE x t = (y, 0)) : Ck y ∧ Conf y t ∧ toE y t = (y, 0) := by
 obtain ⟨e1, e2, e3⟩ := toE_ok (show (toE x t).2 = 0 by rw [h])
 obtain rfl : (toS t x).1 = y := by rw [e3] at h; exact congrArg Prod.fst h
 have hc := to_conf t x ht hx e1
 have hk := ck_of (to_fits t x ht hx) e2
 refine ⟨hk, hc, ?_⟩
 have k := to_keeps t _ ht hk.ok hc
 rw [toE_good (by rw [k]) (by rw [k]; exact e2), k]
theorem oneX_res {a : AttrG} {x y : Val} (ht : Tok a.type_) (hx : Vok x) (h : oneX a x = .inl y) : Ck y ∧ Conf y a.type_ ∧ oneX a y = .inl y := by
 obtain ⟨m1, m3, hE⟩ := oneX_in h
 obtain ⟨r1, r2, r3⟩ := toE_res ht hx hE
 refine ⟨r1, r2, one_of (fun k => toE_nn ht hx hE (m1 k.1) k.2) (fun k => ?_) r3⟩
 have := toE_null2 (m3 k.1) (show (toE x a.type_).2 = 0 by rw [hE])
 rw [hE] at this
 have e : y = x := this
 exact k.2 (by rw [e]; exact m3 k.1)
theorem uniq_attr {l : List AttrG} (h : l.Pairwise fun a b => Op.bytesLess a.name.toList b.name.toList = true) {a b : AttrG} (ha : a ∈ l) (hb : b ∈ l) (e : a.name = b.name) : a = b := by
 have hr : Rising (l.map (·.name)) := rising_of (List.pairwise_map.2 h)
 obtain ⟨i, hi⟩ := List.getElem?_of_mem ha
 obtain ⟨j, hj⟩ := List.getElem?_of_mem hb
 have := rising_nodup hr (i := i) (j := j) (a := a.name) (by rw [List.getElem?_map, hi]; rfl) (by rw [List.getElem?_map, hj, e]; rfl)
 subst this
 rw [hi] at hj; exact Option.some.inj hj
theorem uniq_nest {l : List NestedG} (h : l.Pairwise fun a b => Op.bytesLess a.name.toList b.name.toList = true) {a b : NestedG} (ha : a ∈ l) (hb : b ∈ l) (e : a.name = b.name) : a = b := by
 have hr : Rising (l.map (·.name)) := rising_of (List.pairwise_map.2 h)
 obtain ⟨i, hi⟩ := List.getElem?_of_mem ha
 obtain ⟨j, hj⟩ := List.getElem?_of_mem hb
 have := rising_nodup hr (i := i) (j := j) (a := a.name) (by rw [List.getElem?_map, hi]; rfl) (by rw [List.getElem?_map, hj, e]; rfl)
 subst this
 rw [hi] at hj; exact Option.some.inj hj
structure Kasc (n : NestedG) : Prop extends Kfit n where
 ra : n.attrs.Pairwise fun a b => Op.bytesLess a.name.toList b.name.toList = true
theorem SVal.kasc {s : SchemaG} (h : SVal s) : ∀ n ∈ s.nested, Kasc n := fun n hn => by
 obtain ⟨i, hi⟩ := List.getElem?_of_mem hn
 exact { toKfit := h.kfit n hn, ra := (h.ok.kinds i n hi).attrs.2 }
theorem getS_of {items : List Val} {keys : List ByteArray} (hr : Rising keys) {i : Nat} {k : ByteArray} {y : Val} (hk : keys[i]? = some k) (hy : items[i]? = some y) : getS (Val.mk 5 0 eS items keys) k = y := by
 unfold getS
 rw [if_pos (show (Val.mk 5 0 eS items keys).kind = 5 from rfl)]
 exact look_at keys items k i y hr hk hy
theorem elX_res {n : NestedG} {x y : Val} (hn : Kasc n) (hx : Vok x) (h : elX n x = .inl y) : elX n y = .inl y ∧ (y.kind = 6 ∨ Conf y (objT n.attrs)) := by
 have h' := h
 unfold elX at h
 by_cases h6 : x.kind = 6
 ·rw [if_pos h6] at h; cases h
  exact ⟨h', .inl h6⟩
 rw [if_neg h6] at h
 by_cases h5 : x.kind ≠ 5
 ·rw [if_pos h5] at h; cases h
 rw [if_neg h5] at h
 by_cases hk : ∃ k ∈ x.keys, (findA k n.attrs).2 = false
 ·rw [if_pos hk] at h; cases h
 rw [if_neg hk] at h
 cases hE : eachX (fun a => oneX a (getS x a.name)) n.attrs with
 | inr e => rw [hE] at h; cases h
 | inl ys =>
  rw [hE] at h; cases h
  obtain ⟨l1, l2⟩ := eachX_in hE
  have hr : Rising (n.attrs.map (·.name)) := rising_of (List.pairwise_map.2 hn.ra)
  have each : ∀ (i : Nat) a y, n.attrs[i]? = some a → ys[i]? = some y → Conf y a.type_ ∧ oneX a (getS (Val.mk 5 0 eS ys (n.attrs.map (·.name))) a.name) = .inl y := fun i a y ha hy => by
   obtain ⟨r1, r2, r3⟩ := oneX_res (hn.tok a (List.mem_of_getElem? ha)) (getS_vok hx _) (l2 i a y ha hy)
   rw [getS_of hr (i := i) (by rw [List.getElem?_map, ha]; rfl) hy]
   exact ⟨r2, r3⟩
  refine ⟨?_, .inr (.obj not6 rfl rfl (by show ys.length = (n.attrs.map (·.type_)).length; simp [l1]) fun i z e hz he => ?_)⟩
  ·unfold elX
   rw [if_neg (show ¬ (Val.mk 5 0 eS ys (n.attrs.map (·.name))).kind = 6 from (by decide : ¬ (5 : Int) = 6)), if_neg (show ¬ (Val.mk 5 0 eS ys (n.attrs.map (·.name))).kind ≠ 5 from (by decide : ¬ (5 : Int) ≠ 5)), if_neg]
   ·rw [eachX_of l1 fun i a y ha hy => (each i a y ha hy).2]
   ·rintro ⟨k, hk1, hk2⟩
    obtain ⟨a, ha, rfl⟩ := List.mem_map.1 hk1
    rw [findA_iff.2 ⟨a, ha, rfl⟩] at hk2; cases hk2
  ·have he2 : (n.attrs.map (·.type_))[i]? = some e := he
   rw [List.getElem?_map] at he2
   obtain ⟨a, ha, rfl⟩ := Option.map_eq_some_iff.1 he2
   exact (each i a z ha hz).1
theorem nestX_res {n : NestedG} {x y : Val} (hn : Kasc n) (hx : Vok x) (h : nestX n x = .inl y) : nestX n y = .inl y ∧ Conf y (nt n) := by
 have h' := h
 unfold nestX at h
 by_cases h6 : x.kind = 6
 ·rw [if_pos h6] at h; cases h
  exact ⟨h', .any (.inr (.inl h6))⟩
 rw [if_neg h6] at h
 by_cases h5 : x.kind ≠ 0 ∧ x.kind ≠ 4
 ·rw [if_pos h5] at h; cases h
 rw [if_neg h5] at h
 by_cases hm : (x.items.length : Int) < n.min
 ·rw [if_pos hm] at h; cases h
 rw [if_neg hm] at h
 by_cases hM : (x.items.length : Int) > n.max
 ·rw [if_pos hM] at h; cases h
 rw [if_neg hM] at h
 cases hE : eachX (elX n) x.items with
 | inr e => rw [hE] at h; cases h
 | inl ys =>
  rw [hE] at h; cases h
  obtain ⟨l1, l2⟩ := eachX_in hE
  have each : ∀ (i : Nat) y, ys[i]? = some y → elX n y = .inl y ∧ (y.kind = 6 ∨ Conf y (objT n.attrs)) := fun i y hy => by
   have hi : i < x.items.length := by rw [← l1]; exact (List.getElem?_eq_some_iff.1 hy).1
   exact elX_res hn (hx.item _ (List.getElem_mem hi)) (l2 i _ y (List.getElem?_eq_getElem hi) hy)
  refine ⟨?_, .coll (.inl rfl) rfl rfl fun y hy => ?_⟩
  ·unfold nestX
   rw [if_neg (show ¬ (Val.mk 4 0 eS ys []).kind = 6 from (by decide : ¬ (4 : Int) = 6)), if_neg (show ¬ ((Val.mk 4 0 eS ys []).kind ≠ 0 ∧ (Val.mk 4 0 eS ys []).kind ≠ 4) from (by decide : ¬ ((4 : Int) ≠ 0 ∧ (4 : Int) ≠ 4))), if_neg (by rw [items_mk, l1]; exact hm), if_neg (by rw [items_mk, l1]; exact hM), items_mk]
   rw [eachX_of rfl fun i a y ha hy => by rw [ha] at hy; cases hy; exact (each i a ha).1]
  ·obtain ⟨i, hi⟩ := List.getElem?_of_mem hy
   rcases (each i y hi).2 with k | k
   ·exact .any (.inr (.inl k))
   ·exact k
theorem parts_in {s : SchemaG} {v : Val} {vs : List Val} (h : partsX s v = .inl vs) : ∃ xs ns, vs = xs ++ ns ∧ eachX (fA v) s.attrs = .inl xs ∧ eachX (fN v) s.nested = .inl ns := by
 unfold partsX at h
 split at h
 ·cases h
 rename_i xs ha
 split at h
 ·cases h
 rename_i ns hn
 cases h
 exact ⟨xs, ns, rfl, ha, hn⟩
theorem zip_cases {s : SchemaG} {v : Val} {xs ns : List Val} (ha : eachX (fA v) s.attrs = .inl xs) (hn : eachX (fN v) s.nested = .inl ns) {k : ByteArray} {y : Val} (h : (k, y) ∈ (allN s).zip (xs ++ ns)) :
  (∃ a ∈ s.attrs, k = a.name ∧ oneX a (getS v a.name) = .inl y) ∨ ∃ n ∈ s.nested, k = n.name ∧ nestX n (getS v n.name) = .inl y := by
 obtain ⟨a1, a2⟩ := eachX_in ha
 obtain ⟨n1, n2⟩ := eachX_in hn
 unfold allN at h
 rw [List.zip_append (by simp [a1])] at h
 rcases List.mem_append.1 h with h | h
 ·obtain ⟨i, hi⟩ := List.getElem?_of_mem h
  obtain ⟨e1, e2⟩ := zip_at hi
  rw [List.getElem?_map] at e1
  obtain ⟨a, ha', rfl⟩ := Option.map_eq_some_iff.1 e1
  exact .inl ⟨a, List.mem_of_getElem? ha', rfl, fA_in (a2 i a y ha' e2)⟩
 ·obtain ⟨i, hi⟩ := List.getElem?_of_mem h
  obtain ⟨e1, e2⟩ := zip_at hi
  rw [List.getElem?_map] at e1
  obtain ⟨a, ha', rfl⟩ := Option.map_eq_some_iff.1 e1
  exact .inr ⟨a, List.mem_of_getElem? ha', rfl, fN_in (n2 i a y ha' e2)⟩
theorem get_out {s : SchemaG} (hs : SVal s) {vs : List Val} (hl : vs.length = (allN s).length) {k : ByteArray} {y : Val} (h : (k, y) ∈ (allN s).zip vs) : getS (outV s vs) k = y := by
 obtain ⟨a, b, c⟩ := fold_zip hl.symm (allN_nodup hs.names)
 obtain ⟨i, hi⟩ := List.getElem?_of_mem ((b (k, y)).2 h)
 unfold outV mapOf
 exact getS_of (rising_sp a) (i := i) (by rw [List.getElem?_map, hi]; rfl) (by rw [List.getElem?_map, hi]; rfl)
theorem zip_left {s : SchemaG} {xs ns : List Val} (hl : xs.length = s.attrs.length) {i : Nat} {a : AttrG} {y : Val} (ha : s.attrs[i]? = some a) (hy : xs[i]? = some y) : (a.name, y) ∈ (allN s).zip (xs ++ ns) := by
 unfold allN
 rw [List.zip_append (by simp [hl])]
 refine List.mem_append_left _ (List.mem_of_getElem? (i := i) ?_)
 rw [List.getElem?_zip_eq_some]
 exact ⟨by rw [List.getElem?_map, ha]; rfl, hy⟩
theorem zip_right {s : SchemaG} {xs ns : List Val} (hl : xs.length = s.attrs.length) {i : Nat} {a : NestedG} {y : Val} (ha : s.nested[i]? = some a) (hy : ns[i]? = some y) : (a.name, y) ∈ (allN s).zip (xs ++ ns) := by
 unfold allN
 rw [List.zip_append (by simp [hl])]
 refine List.mem_append_right _ (List.mem_of_getElem? (i := i) ?_)
 rw [List.getElem?_zip_eq_some]
 exact ⟨by rw [List.getElem?_map, ha]; rfl, hy⟩
theorem keys_of_sp {α β : Type} {l : List (ByteArray × α)} {m : List (ByteArray × β)} (hl : SP l) (hm : SP m) (h : ∀ k, k ∈ l.map (·.1) ↔ k ∈ m.map (·.1)) : l.map (·.1) = m.map (·.1) := by
 have h1 : SP (l.map fun p => (p.1, ())) := by unfold SP; rw [List.pairwise_map]; exact hl
 have h2 : SP (m.map fun p => (p.1, ())) := by unfold SP; rw [List.pairwise_map]; exact hm
 have e := sp_unique (l := l.map fun p => (p.1, ())) (m := m.map fun p => (p.1, ())) h1 h2 (fun ⟨k, _⟩ => by
  have h1 := h k
  simp only [List.mem_map, Prod.mk.injEq, and_true] at h1 ⊢
  exact h1)
 have := congrArg (List.map (·.1)) e
 simpa [List.map_map, Function.comp_def] using this
theorem out_keys {s : SchemaG} (hs : SVal s) {vs : List Val} (hl : vs.length = (allN s).length) : (foldP [] ((allN s).zip vs)).map (·.1) = nmS s := by
 obtain ⟨a, b, c⟩ := fold_zip hl.symm (allN_nodup hs.names)
 obtain ⟨t1, t2, t3⟩ := typL_facts hs.names
 refine keys_of_sp a t1 fun k => ?_
 rw [typL_names hs.names]
 constructor
 ·intro h
  obtain ⟨p, hp, rfl⟩ := List.mem_map.1 h
  exact (List.of_mem_zip (a := p.1) (b := p.2) ((b p).1 hp)).1
 ·intro h
  obtain ⟨i, hi⟩ := List.getElem?_of_mem h
  have hil : i < vs.length := by rw [hl]; exact (List.getElem?_eq_some_iff.1 hi).1
  exact List.mem_map.2 ⟨(k, vs[i]), (b _).2 (List.mem_of_getElem? (i := i) (List.getElem?_zip_eq_some.2 ⟨hi, List.getElem?_eq_getElem hil⟩)), rfl⟩
theorem coerce_again {s : SchemaG} {v : Val} {vs : List Val} (hs : SVal s) (h : Cok s v vs) : coerceS s (outV s vs) = (outV s vs, DiagG.mk 0 0 eS) ∧ Conf (outV s vs) (tyOf (typL s)) := by
 have hl := partsX_len h.parts
 obtain ⟨xs, ns, rfl, ha, hn⟩ := parts_in h.parts
 obtain ⟨a1, a2⟩ := eachX_in ha
 obtain ⟨n1, n2⟩ := eachX_in hn
 have hg : ∀ k, Vok (getS v k) := fun k => getS_vok h.ck.ok k
 have hp : partsX s (outV s (xs ++ ns)) = .inl (xs ++ ns) := by
  have e1 : eachX (fA (outV s (xs ++ ns))) s.attrs = .inl xs := eachX_of a1 fun i a y h1 h2 => by
   unfold fA
   rw [get_out hs hl (zip_left a1 h1 h2), (oneX_res (hs.tok a (List.mem_of_getElem? h1)) (hg _) (fA_in (a2 i a y h1 h2))).2.2]; rfl
  have e2 : eachX (fN (outV s (xs ++ ns))) s.nested = .inl ns := eachX_of n1 fun i a y h1 h2 => by
   unfold fN
   rw [get_out hs hl (zip_right a1 h1 h2), (nestX_res (hs.kasc a (List.mem_of_getElem? h1)) (hg _) (fN_in (n2 i a y h1 h2))).1]; rfl
  unfold partsX
  rw [e1, e2]
 obtain ⟨b1, b2, b3⟩ := fold_zip hl.symm (allN_nodup hs.names)
 obtain ⟨t1, t2, t3⟩ := typL_facts hs.names
 have hk := out_keys hs hl
 constructor
 ·have hfd : (outV s (xs ++ ns)).keys.find? (fun k => !known s k) = none := by
   rw [List.find?_eq_none]
   intro k hk1
   have hk2 : k ∈ nmS s := by rw [← hk]; exact hk1
   have := known_iff.2 ((typL_names hs.names k).1 hk2)
   simp [this]
  unfold coerceS
  rw [if_neg (by simp [h.out.ck]), if_neg (show ¬ (outV s (xs ++ ns)).kind ≠ 5 from (by decide : ¬ (5 : Int) ≠ 5)), hfd]
  show bodyS s _ = _
  unfold bodyS
  rw [hp]
  show finS s _ = _
  unfold finS
  rw [if_pos h.out.ck]
 ·have hll : (foldP [] ((allN s).zip (xs ++ ns))).length = (typL s).length := by
   have := congrArg List.length hk
   simpa [nmS] using this
  refine .obj not6 rfl hk (by simp [outV, mapOf, tyOf, hll]) fun i x e hx he => ?_
  have hx2 : ((foldP [] ((allN s).zip (xs ++ ns))).map (·.2))[i]? = some x := hx
  have he2 : ((typL s).map (·.2))[i]? = some e := he
  rw [List.getElem?_map] at hx2 he2
  obtain ⟨p, hp1, rfl⟩ := Option.map_eq_some_iff.1 hx2
  obtain ⟨q, hq1, rfl⟩ := Option.map_eq_some_iff.1 he2
  have hpq : p.1 = q.1 := by
   have := congrArg (fun l => l[i]?) hk
   simp only [nmS, List.getElem?_map, hp1, hq1, Option.map_some] at this
   exact Option.some.inj this
  have hpm : (p.1, p.2) ∈ (allN s).zip (xs ++ ns) := (b2 p).1 (List.mem_of_getElem? hp1)
  have hqm := (t2 q).1 (List.mem_of_getElem? hq1)
  rcases zip_cases ha hn hpm with ⟨a, ham, e1, e2⟩ | ⟨n, hnm, e1, e2⟩
  ·rcases hqm with ⟨a', ha', rfl⟩ | ⟨n', hn', rfl⟩
   ·obtain rfl := uniq_attr hs.names.ra ham ha' (e1.symm.trans hpq)
    exact (oneX_res (hs.tok a ham) (hg _) e2).2.1
   ·exact absurd (e1.symm.trans hpq) (hs.names.dj a ham n' hn')
  ·rcases hqm with ⟨a', ha', rfl⟩ | ⟨n', hn', rfl⟩
   ·exact absurd (hpq.symm.trans e1) (hs.names.dj a' ha' n hnm)
   ·obtain rfl := uniq_nest hs.names.rn hnm hn' (e1.symm.trans hpq)
    exact (nestX_res (hs.kasc n hnm) (hg _) e2).2
theorem law_Again (s : SchemaG) (v : Val) (hf : SFits s) (hv : v.Fits) : gQ0o s v = some true := by
 unfold gQ0o
 obtain ⟨b, b1, b2⟩ := valid_spec12 s hf
 rw [b1, Option.bind_some]
 cases b with
 | false => rw [Bool.not_false, cond_true, awake12]; rfl
 | true =>
  have hs := b2 rfl
  rw [Bool.not_true, cond_false, m_small_150 hv, Option.bind_some]
  cases smallV v 150 with
  | false => rw [Bool.not_false, cond_true, awake12]; rfl
  | true =>
   rw [Bool.not_true, cond_false, Coerce_spec hs hv, Option.bind_some]
   by_cases h : (coerceS s v).2.kind = 0
   case neg => rw [decide_eq_false h, Bool.not_false, cond_true, awake12]; rfl
   rw [decide_eq_true h, Bool.not_true, cond_false]
   obtain ⟨vs, hc⟩ := coerce_ok hs hv h
   obtain ⟨r1, r2⟩ := coerce_again hs hc
   rw [hc.res]
   rw [Coerce_spec hs hc.out.ok.1, Option.bind_some, r1]
   simp only [decide_true, Bool.and_true, cond_true]
   rw [eq_spec hc.out.ok.1, eqB_iff.2 rfl, Option.bind_some, cond_true, Type_spec s hs.names hf, Option.bind_some]
   obtain ⟨q, q1, q2⟩ := types_fits_spec (outV s vs) (tyOf (typL s)) hc.out.ok.1
   rw [q1, q2.2 r2, Option.bind_some, cond_true, awake12]; rfl
end Abs
end Go.Proofs.YtkffpfapfljinaaGreatDoor
namespace Go.Proofs.YtkffpfapfljinaaGreatDoor
set_option linter.unusedSimpArgs false
set_option linter.unusedVariables false
namespace Abs
open Go.RowKit
theorem getS_propose {s : SchemaG} (hs : SVal s) {prior c : Val} {n : ByteArray} (h : n ∈ nmS s) : getS (proposeS s prior c) n = valP s prior c n := by
 obtain ⟨i, hi⟩ := List.getElem?_of_mem h
 unfold proposeS
 exact getS_of (nmS_rising hs.names) hi (by rw [List.getElem?_map, hi]; rfl)
theorem attr_mem_nm {s : SchemaG} (hs : SVal s) {a : AttrG} (h : a ∈ s.attrs) : a.name ∈ nmS s := (typL_names hs.names a.name).2 (List.mem_append_left _ (List.mem_map.2 ⟨a, h, rfl⟩))
theorem findA_self {l : List AttrG} (h : l.Pairwise fun a b => Op.bytesLess a.name.toList b.name.toList = true) {a : AttrG} (ha : a ∈ l) : findA a.name l = (a, true) := by
 have h2 : (findA a.name l).2 = true := findA_iff.2 ⟨a, ha, rfl⟩
 obtain ⟨h3, h4⟩ := findA_yes h2
 exact Prod.ext (uniq_attr h h3 ha h4) h2
theorem getS_known {v : Val} (h : knownV v = true) (n : ByteArray) : knownV (getS v n) = true := by
 unfold getS
 split
 ·rcases look_mem v.keys v.items n with k | k
  ·exact knownV_item h _ k
  ·rw [k]; rfl
 ·rfl
def cfgA (c : Val) (a : AttrG) : Prop := a.mode ≠ 3 ∧ (a.mode ≠ 4 ∨ (getS c a.name).kind ≠ 0)
theorem plan_same {s : SchemaG} (hs : SVal s) {prior c : Val} (hp : Ck prior) (h5 : prior.kind = 5) (hk : prior.keys = nmS s) (hn : knownV prior = true)
  (ha : ∀ a ∈ s.attrs, cfgA c a → getS c a.name = getS prior a.name) (hb : ∀ n ∈ s.nested, getS c n.name = getS prior n.name) : proposeS s prior c = prior ∧ chS s prior prior = [] := by
 have hcfg : ∀ n ∈ nmS s, cfgS s c n = true → getS c n = getS prior n := by
  intro n hnm h
  rcases List.mem_append.1 ((typL_names hs.names n).1 hnm) with k | k
  ·obtain ⟨a, ham, rfl⟩ := List.mem_map.1 k
   refine ha a ham ?_
   unfold cfgS at h
   rw [findA_self hs.names.ra ham] at h
   simp only [Bool.not_true, Bool.false_or, Bool.or_eq_true, decide_eq_true_eq, Bool.and_eq_true, Bool.not_eq_true', decide_eq_false_iff_not] at h
   unfold cfgA
   rcases h with h | h | h
   ·exact ⟨by omega, .inl (by omega)⟩
   ·exact ⟨by omega, .inl (by omega)⟩
   ·exact ⟨by omega, .inr h.2⟩
  ·obtain ⟨m, hm, rfl⟩ := List.mem_map.1 k
   exact hb m hm
 have hany : anyC s prior c = false := by
  unfold anyC
  rw [List.any_eq_false]
  intro n hnm
  unfold chg
  cases e : cfgS s c n with
  | false => simp
  | true => rw [hcfg n hnm e, difS_self (getS_known hn n)]; decide
 have hval : ∀ n ∈ nmS s, valP s prior c n = getS prior n := by
  intro n hnm
  unfold valP
  by_cases e : cfgS s c n = true
  ·rw [if_pos e, hcfg n hnm e]
  ·rw [if_neg e, if_neg (by omega), hany, if_neg (by simp)]
 obtain ⟨s0, s1, s2, s3, s4, s5, s6, s7⟩ := hp.ok.shape
 have hl : prior.items.length = (nmS s).length := by rw [← hk]; exact (s6 h5).symm
 constructor
 ·unfold proposeS
  rw [List.map_congr_left hval]
  refine val_ext h5.symm (s2 (by omega) (by omega)).symm (s4 (by omega)).symm (list_ext (by simp [hl]) fun i hi => ?_) hk.symm
  have hi2 : i < (nmS s).length := by simpa using hi
  show ((nmS s).map (getS prior))[i]? = prior.items[i]?
  rw [List.getElem?_map, List.getElem?_eq_getElem hi2, Option.map_some]
  have hx := List.getElem?_eq_getElem (show i < prior.items.length by omega)
  rw [hx]
  unfold getS
  rw [if_pos h5, look_at prior.keys prior.items _ i _ hp.ok.rising (by rw [hk, List.getElem?_eq_getElem hi2]) hx]
 ·unfold chS
  rw [List.filter_eq_nil_iff]
  intro n _
  rw [difS_self (getS_known hn n)]; decide
theorem tail_Plans {s : SchemaG} (hs : SVal s) {prior v final : Val} (hp : Ck prior) (hv : v.Fits) (hF : final.Fits) (hfull : prior.kind ≠ 0 → prior.kind = 5 ∧ prior.keys = nmS s) : gQ11 s prior v final false = some true := by
 have hf := hs.fits
 have hla := hs.few.la
 have hln := hs.few.ln
 unfold gQ11
 rw [cond_false, Coerce_spec hs hv, Option.bind_some]
 by_cases h : (coerceS s v).2.kind = 0
 case neg => rw [decide_eq_false h, Bool.not_false, cond_true, awake12]; rfl
 obtain ⟨vs, hc⟩ := coerce_ok hs hv h
 have hm : Mok (coerceS s v).1 := by rw [hc.res]; exact hc.out.ok.mok
 have hpm := propose_mok hs hp.ok.mok hm
 rw [decide_eq_true h, Bool.not_true, cond_false, Propose_spec hs hp.ok.mok hm, Option.bind_some]
 generalize coerceS s v = y3 at hm hpm ⊢
 have hJ : ∀ z, gQ3r s (proposeS s prior y3.1) final = some z → gQ13 s prior final y3 (proposeS s prior y3.1) z = some true := by
  intro z hz
  unfold gQ13
  rw [hz, Option.bind_some, beq_self_eq_true, Bool.not_true, cond_false]
  refine loop_run s.attrs.length true (fun i h0 => ?_) ?_
  ·have hx := List.getElem?_eq_getElem h0
   have w := wrap_nat h0 (show s.attrs.length ≤ 9223372036854775807 by omega)
   have hmem : s.attrs[i] ∈ s.attrs := List.getElem_mem h0
   unfold gQ18
   rw [decide_eq_true (show (i : Int) < s.attrs.length by omega), cond_true, idx_nat, hx, Option.bind_some]
   generalize s.attrs[i] = a at hmem
   have hJ4 : gQ14 (i : Int) false = some (.inl ((i + 1 : Nat) : Int)) := by unfold gQ14; rw [cond_false, w]
   by_cases h3 : a.mode = 3
   case neg => rw [decide_eq_false h3, cond_false, hJ4]
   rw [decide_eq_true h3, cond_true]
   cases hvol : a.volatile with
   | true => rw [Bool.not_true, cond_false, hJ4]
   | false =>
    rw [Bool.not_false, cond_true]
    by_cases h0 : prior.kind = 0
    ·rw [decide_eq_true h0, Bool.not_true, cond_false, hJ4]
    ·rw [decide_eq_false h0, Bool.not_false, cond_true, Of_spec12 hpm, Option.bind_some, Of_spec12 hp.ok.mok, Option.bind_some, req_spec (getS_fits hpm _), Option.bind_some]
     have e : getS (proposeS s prior y3.1) a.name = getS prior a.name := by
      rw [getS_propose hs (attr_mem_nm hs hmem)]
      unfold valP cfgS
      rw [findA_self hs.names.ra hmem]
      simp only [h3, hvol]
      rw [if_neg (by simp), if_neg h0, if_neg (by simp)]
     rw [eqB_iff.2 e, Bool.not_true, hJ4]
  ·unfold gQ18
   rw [decide_eq_false (by omega), cond_false]
   by_cases h0 : prior.kind = 0
   ·rw [decide_eq_true h0, Bool.not_true, cond_false]
    refine loop_run s.attrs.length (Sum.inr true) (fun i h0 => ?_) ?_
    ·have hx := List.getElem?_eq_getElem h0
     have w := wrap_nat h0 (show s.attrs.length ≤ 9223372036854775807 by omega)
     unfold gQ1b
     rw [decide_eq_true (show (i : Int) < s.attrs.length by omega), cond_true]
     simp only [idx_nat, hx, Option.bind_some, Of_spec12 hm]
     have hJ : ∀ b, gQ12 (i : Int) b = some (.inl ((i + 1 : Nat) : Int)) := fun b => by unfold gQ12; rw [w]; cases b <;> rfl
     rw [hJ, hJ, hJ]
     cases (!decide (s.attrs[i].mode = 3)) <;> cases (!decide (s.attrs[i].mode = 4)) <;> rfl
    ·unfold gQ1b
     rw [decide_eq_false (by omega), cond_false]
     refine loop_run s.nested.length (Sum.inr (Sum.inr true)) (fun i h0 => ?_) ?_
     ·unfold gQ17
      rw [decide_eq_true (show (i : Int) < s.nested.length by omega), cond_true, wrap_nat h0 (show s.nested.length ≤ 9223372036854775807 by omega)]
     ·unfold gQ17
      rw [decide_eq_false (by omega), cond_false, awake12]; rfl
   ·rw [decide_eq_false h0, Bool.not_false, cond_true, known_spec _ hp.ok.1, Option.bind_some]
    obtain ⟨h5, hk⟩ := hfull h0
    have l7 : ∀ b, (b = true → knownV prior = true ∧ ∀ a ∈ s.attrs, cfgA y3.1 a → getS y3.1 a.name = getS prior a.name) → loopO (gQ1a s prior y3 (proposeS s prior y3.1)) (b, 0) = some (.inr (.inr true)) := by
     intro b hb
     obtain ⟨q, q1, rfl⟩ := loop_meas (body := gQ1a s prior y3 (proposeS s prior y3.1)) (fun t => ∃ (b : Bool) (i : Nat), t = (b, (i : Int)) ∧ i ≤ s.nested.length ∧ (b = true → (knownV prior = true ∧ ∀ a ∈ s.attrs, cfgA y3.1 a → getS y3.1 a.name = getS prior a.name) ∧ ∀ (j : Nat) n, j < i → s.nested[j]? = some n → getS y3.1 n.name = getS prior n.name)) (fun t => s.nested.length - t.2.toNat) (fun q => q = .inr (.inr true)) (by
      rintro t ⟨b, i, rfl, hi, hb⟩
      rcases Nat.eq_or_lt_of_le hi with e0 | e0
      ·subst e0
       refine .inr ⟨_, ?_, rfl⟩
       unfold gQ1a
       simp only [decide_eq_false (show ¬ (s.nested.length : Int) < s.nested.length by omega), cond_false]
       have hJ8 : gQ16 false = some (.inr (.inr (.inr true))) := by unfold gQ16; rw [cond_false, awake12]; rfl
       cases b with
       | false => rw [cond_false, hJ8]
       | true =>
        obtain ⟨⟨k1, k2⟩, k3⟩ := hb rfl
        obtain ⟨p1, p2⟩ := plan_same (c := y3.1) hs hp h5 hk k1 k2 (fun n hn => by
         obtain ⟨j, hj⟩ := List.getElem?_of_mem hn
         exact k3 j n (List.getElem?_eq_some_iff.1 hj).1 hj)
        rw [cond_true, eq_spec hpm.fits, eqB_iff.2 p1, Option.bind_some, Bool.not_true, cond_false, Changed_spec hs.names hf hp.ok.mok hpm, Option.bind_some, p1, p2, decide_eq_true (by rfl), Bool.not_true, hJ8]
      ·have hx := List.getElem?_eq_getElem e0
       have w := wrap_nat e0 (show s.nested.length ≤ 9223372036854775807 by omega)
       cases b with
       | false =>
        refine .inl ⟨(false, ((i + 1 : Nat) : Int)), ?_, ⟨false, i + 1, rfl, e0, fun k => by cases k⟩, by simp only [Int.toNat_natCast]; omega⟩
        unfold gQ1a
        simp only [decide_eq_true (show (i : Int) < s.nested.length by omega), cond_true, cond_false, w]
       | true =>
        obtain ⟨k1, k3⟩ := hb rfl
        refine .inl ⟨(eqB (getS y3.1 s.nested[i].name) (getS prior s.nested[i].name), ((i + 1 : Nat) : Int)), ?_, ⟨_, i + 1, rfl, e0, fun k => ⟨k1, fun j n hj hn => ?_⟩⟩, by simp only [Int.toNat_natCast]; omega⟩
        ·unfold gQ1a
         simp only [decide_eq_true (show (i : Int) < s.nested.length by omega), cond_true, idx_nat, hx, Option.bind_some, Of_spec12 hm, Of_spec12 hp.ok.mok, eq_spec (getS_fits hm _), w]
        ·rcases Nat.eq_or_lt_of_le (Nat.le_of_lt_succ hj) with rfl | hj
         ·rw [hx] at hn; cases hn; exact eqB_iff.1 k
         ·exact k3 j n hj hn) (b, 0) ⟨b, 0, rfl, Nat.zero_le _, fun k => ⟨hb k, fun j n hj => by omega⟩⟩
     exact q1
    obtain ⟨q, q1, rfl⟩ := loop_meas (body := gQ19 s prior y3 (proposeS s prior y3.1)) (fun t => ∃ (b : Bool) (i : Nat), t = (b, (i : Int)) ∧ i ≤ s.attrs.length ∧ (b = true → knownV prior = true ∧ ∀ (j : Nat) a, j < i → s.attrs[j]? = some a → cfgA y3.1 a → getS y3.1 a.name = getS prior a.name)) (fun t => s.attrs.length - t.2.toNat) (fun q => q = .inr true) (by
      rintro t ⟨b, i, rfl, hi, hb⟩
      rcases Nat.eq_or_lt_of_le hi with e0 | e0
      ·subst e0
       refine .inr ⟨_, ?_, rfl⟩
       unfold gQ19
       simp only [decide_eq_false (show ¬ (s.attrs.length : Int) < s.attrs.length by omega), cond_false]
       exact l7 b fun k => ⟨(hb k).1, fun a ha => by
        obtain ⟨j, hj⟩ := List.getElem?_of_mem ha
        exact (hb k).2 j a (List.getElem?_eq_some_iff.1 hj).1 hj⟩
      ·have hx := List.getElem?_eq_getElem e0
       have w := wrap_nat e0 (show s.attrs.length ≤ 9223372036854775807 by omega)
       have go : ∀ z : Bool, (z = true ↔ cfgA y3.1 s.attrs[i]) → ∃ b', gQ15 s prior (getS y3.1 s.attrs[i].name) (b, (i : Int)) z = some (.inl (b', ((i + 1 : Nat) : Int))) ∧ (b' = true → knownV prior = true ∧ ∀ (j : Nat) a, j < i + 1 → s.attrs[j]? = some a → cfgA y3.1 a → getS y3.1 a.name = getS prior a.name) := by
        intro z hz
        unfold gQ15
        cases z with
        | false =>
         refine ⟨b, by rw [cond_false, w], fun k => ⟨(hb k).1, fun j a hj ha hcf => ?_⟩⟩
         rcases Nat.eq_or_lt_of_le (Nat.le_of_lt_succ hj) with rfl | hj
         ·rw [hx] at ha; cases ha
          exact absurd (hz.2 hcf) (by simp)
         ·exact (hb k).2 j a hj ha hcf
        | true =>
         cases b with
         | false => exact ⟨false, by simp only [cond_true, cond_false, w], fun k => by cases k⟩
         | true =>
          refine ⟨eqB (getS y3.1 s.attrs[i].name) (getS prior s.attrs[i].name), by simp only [cond_true, idx_nat, hx, Option.bind_some, Of_spec12 hp.ok.mok, eq_spec (getS_fits hm _), w], fun k => ⟨(hb rfl).1, fun j a hj ha hcf => ?_⟩⟩
          rcases Nat.eq_or_lt_of_le (Nat.le_of_lt_succ hj) with rfl | hj
          ·rw [hx] at ha; cases ha
           exact eqB_iff.1 k
          ·exact (hb rfl).2 j a hj ha hcf
       have step : ∃ b', gQ19 s prior y3 (proposeS s prior y3.1) (b, (i : Int)) = some (.inl (b', ((i + 1 : Nat) : Int))) ∧ (b' = true → knownV prior = true ∧ ∀ (j : Nat) a, j < i + 1 → s.attrs[j]? = some a → cfgA y3.1 a → getS y3.1 a.name = getS prior a.name) := by
        unfold gQ19
        simp only [decide_eq_true (show (i : Int) < s.attrs.length by omega), cond_true, idx_nat, hx, Option.bind_some, Of_spec12 hm]
        by_cases h3 : s.attrs[i].mode = 3
        ·rw [decide_eq_true h3, Bool.not_true, cond_false]
         exact go false ⟨(fun k => by cases k), fun k => absurd h3 k.1⟩
        rw [decide_eq_false h3, Bool.not_false, cond_true]
        by_cases h4 : s.attrs[i].mode = 4
        ·rw [decide_eq_true h4, Bool.not_true, cond_false]
         refine go _ ?_
         unfold cfgA
         simp [h3, h4]
        ·rw [decide_eq_false h4, Bool.not_false, cond_true]
         exact go true ⟨fun _ => ⟨h3, .inl h4⟩, fun _ => rfl⟩
       obtain ⟨b', e1, e2⟩ := step
       exact .inl ⟨_, e1, ⟨b', i + 1, rfl, e0, e2⟩, by simp only [Int.toNat_natCast]; omega⟩) (knownV prior, 0) ⟨_, 0, rfl, Nat.zero_le _, fun k => ⟨k, fun j n hj => by omega⟩⟩
    exact q1
 have hA : gQ3r s (proposeS s prior y3.1) final = (m_checkE final).bind fun y1 => bif (decide (y1 = 0)) then (tQ8z final).bind fun b3 => bif b3 then (gQ4d s).bind fun y5 => (tQ8q final y5).bind fun y6 => bif y6 then (tQ92 final (proposeS s prior y3.1)).bind fun y8 => some (y8) else some (false) else some (false) else some (false) := rfl
 rw [m_checkE_eq hF, Option.bind_some] at hA ⊢
 by_cases h1 : checkE final = 0
 case neg =>
  rw [decide_eq_false h1, cond_false] at hA ⊢
  exact hJ false hA
 rw [decide_eq_true h1, cond_true, known_spec final hF, Option.bind_some] at hA ⊢
 cases hk : knownV final with
 | false => rw [hk, cond_false] at hA; rw [cond_false]; exact hJ false hA
 | true =>
  obtain ⟨q, q1, q2⟩ := types_fits_spec final (tyOf (typL s)) hF
  rw [hk, cond_true, Type_spec s hs.names hf, Option.bind_some, q1, Option.bind_some] at hA
  rw [cond_true, Type_spec s hs.names hf, Option.bind_some, q1, Option.bind_some]
  cases q with
  | false => rw [cond_false] at hA ⊢; exact hJ false hA
  | true =>
   obtain ⟨r, r1, r2⟩ := value_refines_spec final (proposeS s prior y3.1) hF
   rw [cond_true, r1, Option.bind_some] at hA ⊢
   exact hJ r hA
theorem law_Plans (s : SchemaG) (prior v final : Val) (hf : SFits s) (hp : prior.Fits) (hv : v.Fits) (hF : final.Fits) : gQ10 s prior v final = some true := by
 unfold gQ10
 obtain ⟨b, b1, b2⟩ := valid_spec12 s hf
 rw [b1, Option.bind_some]
 have hT : gQ11 s prior v final true = some true := by unfold gQ11; rw [cond_true, awake12]; rfl
 cases b with
 | false => rw [Bool.not_false, cond_true, hT]
 | true =>
  have hs := b2 rfl
  rw [Bool.not_true, cond_false]
  obtain ⟨c, c1, c2⟩ := small_spec12 hp
  rw [c1, Option.bind_some]
  cases c with
  | false => rw [Bool.not_false, cond_true, hT]
  | true =>
   have hP := c2 rfl
   rw [Bool.not_true, cond_false]
   obtain ⟨d, d1, d2⟩ := small_spec12 hv
   rw [d1, Option.bind_some]
   cases d with
   | false => rw [Bool.not_false, cond_true, hT]
   | true =>
    rw [Bool.not_true, cond_false, m_small_150 hF, Option.bind_some]
    cases smallV final 150 with
    | false => rw [Bool.not_false, cond_true, hT]
    | true =>
     rw [Bool.not_true, cond_false]
     by_cases h0 : prior.kind = 0
     ·rw [decide_eq_true h0, Bool.not_true, cond_false]
      exact tail_Plans hs hP hv hF fun k => absurd h0 k
     ·rw [decide_eq_false h0, Bool.not_false, cond_true]
      obtain ⟨e, e1, e2⟩ := full_spec12 hs prior
      rw [e1, Option.bind_some]
      cases e with
      | false => rw [Bool.not_false, hT]
      | true => exact tail_Plans hs hP hv hF fun _ => e2 rfl
end Abs
end Go.Proofs.YtkffpfapfljinaaGreatDoor
