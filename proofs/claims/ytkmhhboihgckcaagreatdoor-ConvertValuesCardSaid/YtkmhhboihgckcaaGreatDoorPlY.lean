/-
  The types of values; the law about converted values and lossless conversions.
-/
import Derived.Test.YtkmhhboihgckcaaGreatDoorPlZ
import Derived.Test.YtkmhhboihgckcaaGreatDoorGzD
namespace Go.Proofs.YtkmhhboihgckcaaGreatDoor
set_option linter.unusedSimpArgs false
set_option linter.unusedVariables false
namespace Abs
open Go.RowKit
/-! ### Identifiers -/
def letB (c : Int) : Bool := (decide (97 ≤ c) && decide (c ≤ 122)) || (decide (65 ≤ c) && decide (c ≤ 90)) || decide (c = 95)
def digB (c : Int) : Bool := decide (48 ≤ c) && decide (c ≤ 57)
theorem letter_eq (c : Int) : g_r06_letter c = some (letB c) := by
  unfold g_r06_letter letB
  by_cases a : 97 ≤ c <;> by_cases b : c ≤ 122 <;> by_cases d : 65 ≤ c <;> by_cases e : c ≤ 90 <;> simp [a, b, d, e] <;> omega
theorem low_eq : ∀ c : Fin 256, (!decide ((c.val : Int) = 95) && (decide ((IntKind.u8.wrap ((BitVec.ofInt IntKind.u8.bits (c.val : Int) ||| BitVec.ofInt IntKind.u8.bits 32).toNat : Int)) < 97) || decide ((IntKind.u8.wrap ((BitVec.ofInt IntKind.u8.bits (c.val : Int) ||| BitVec.ofInt IntKind.u8.bits 32).toNat : Int)) > 122))) = !letB (c.val : Int) := by decide +kernel
/-- What an identifier is. -/
def IsId (s : ByteArray) : Prop := s ≠ eS ∧ s.size ≤ 64 ∧ (∀ (h : 0 < s.size), letB ((s[0].toNat : Nat) : Int) = true) ∧ ∀ (i : Nat) (h : i < s.size), letB ((s[i].toNat : Nat) : Int) = true ∨ digB ((s[i].toNat : Nat) : Int) = true
theorem size_pos {s : ByteArray} (h0 : s ≠ eS) : 0 < s.size := by
  rcases Nat.eq_zero_or_pos s.size with h | h
  · exfalso; apply h0
    exact ByteArray.ext (Array.eq_empty_of_size_eq_zero h)
  · exact h
theorem ident06 (s : ByteArray) (hs : s.size ≤ 140737488351232) : ∃ b, g_r06_Identifier s = some b ∧ (b = true ↔ IsId s) := by
  unfold g_r06_Identifier
  by_cases h0 : s = eS
  · rw [decide_eq_true h0]; exact ⟨false, rfl, ⟨fun h => (by cases h), fun h => absurd h0 h.1⟩⟩
  rw [decide_eq_false h0, cond_false]
  by_cases h64 : (s.size : Int) > 64
  · rw [decide_eq_true h64]; exact ⟨false, rfl, ⟨fun h => (by cases h), fun h => by have := h.2.1; omega⟩⟩
  rw [decide_eq_false h64, cond_false]
  have hp := size_pos h0
  have h3 := sidx_nat hp
  rw [show sidx s 0 = sidx s ((0 : Nat) : Int) from rfl, h3, Option.bind_some, letter_eq, Option.bind_some]
  cases hl : letB ((s[0].toNat : Nat) : Int)
  · exact ⟨false, rfl, ⟨fun h => (by cases h), fun h => by have := h.2.2.1 hp; rw [hl] at this; cases this⟩⟩
  rw [Bool.not_true, cond_false]
  have := loop_meas (body := g_r06_Identifier_L1 s) (fun k => ∃ i : Nat, k = (i : Int) ∧ i ≤ s.size ∧ ∀ (j : Nat) (h : j < s.size), j < i → letB ((s[j].toNat : Nat) : Int) = true ∨ digB ((s[j].toNat : Nat) : Int) = true) (fun k => s.size - k.toNat) (fun b => b = true ↔ IsId s) (by
    rintro k ⟨i, rfl, hi, hp2⟩
    rcases Nat.eq_or_lt_of_le hi with h0' | h0'
    · subst h0'
      exact .inr ⟨true, by simp only [g_r06_Identifier_L1, decide_eq_false (show ¬ (s.size : Int) < s.size by omega), cond_false], ⟨fun _ => ⟨h0, by omega, fun _ => hl, fun i h => hp2 i h h⟩, fun _ => rfl⟩⟩
    · have e1 : g_r06_Identifier_L1 s (i : Int) = bif (!letB ((s[i].toNat : Nat) : Int)) then bif (decide (((s[i].toNat : Nat) : Int) < 48)) then some (.inr false) else bif (decide (((s[i].toNat : Nat) : Int) > 57)) then some (.inr false) else some (.inl ((i + 1 : Nat) : Int)) else some (.inl ((i + 1 : Nat) : Int)) := by
        simp only [g_r06_Identifier_L1, decide_eq_true (show (i : Int) < s.size by omega), cond_true, sidx_nat h0', Option.bind_some, letter_eq, wrap_nat h0' (show s.size ≤ 9223372036854775807 by omega)]
      have next : (letB ((s[i].toNat : Nat) : Int) = true ∨ digB ((s[i].toNat : Nat) : Int) = true) → ∃ s' : Int, some (Sum.inl (β := Bool) ((i + 1 : Nat) : Int)) = some (.inl s') ∧ (∃ j : Nat, s' = (j : Int) ∧ j ≤ s.size ∧ ∀ (k : Nat) (h : k < s.size), k < j → letB ((s[k].toNat : Nat) : Int) = true ∨ digB ((s[k].toNat : Nat) : Int) = true) ∧ s.size - s'.toNat < s.size - (i : Int).toNat := by
        intro hc
        refine ⟨_, rfl, ⟨i + 1, rfl, h0', fun k hk hk2 => ?_⟩, by simp only [Int.toNat_natCast]; omega⟩
        rcases Nat.eq_or_lt_of_le (Nat.le_of_lt_succ hk2) with rfl | h
        · exact hc
        · exact hp2 k hk h
      have stop : letB ((s[i].toNat : Nat) : Int) = false → digB ((s[i].toNat : Nat) : Int) = false → (false = true ↔ IsId s) := fun h1 h2 => ⟨fun h => (by cases h), fun h => by
        rcases h.2.2.2 i h0' with k | k
        · rw [h1] at k; cases k
        · rw [h2] at k; cases k⟩
      rw [e1]
      cases hlt : letB ((s[i].toNat : Nat) : Int)
      · rw [Bool.not_false, cond_true]
        by_cases h48 : ((s[i].toNat : Nat) : Int) < 48
        · rw [decide_eq_true h48, cond_true]
          exact .inr ⟨false, rfl, stop hlt (by unfold digB; rw [decide_eq_false (by omega)]; rfl)⟩
        · rw [decide_eq_false h48, cond_false]
          by_cases h57 : ((s[i].toNat : Nat) : Int) > 57
          · rw [decide_eq_true h57, cond_true]
            exact .inr ⟨false, rfl, stop hlt (by unfold digB; rw [decide_eq_false (show ¬ ((s[i].toNat : Nat) : Int) ≤ 57 by omega), Bool.and_false])⟩
          · rw [decide_eq_false h57, cond_false]
            exact .inl (next (.inr (by unfold digB; rw [decide_eq_true (by omega), decide_eq_true (by omega)]; rfl)))
      · exact .inl (next (.inl hlt))) 0 ⟨0, rfl, Nat.zero_le _, fun j _ h => by omega⟩
  obtain ⟨q, h, hq⟩ := this
  exact ⟨q, h, hq⟩
theorem identA (s : ByteArray) (hs : s.size ≤ 140737488351232) : ∃ b, g_address_Identifier s = some b ∧ (b = true ↔ IsId s) := by
  unfold g_address_Identifier
  refine loop_meas (body := g_address_Identifier_L1 s) (fun k => ∃ i : Nat, k = (i : Int) ∧ i ≤ s.size ∧ ∀ (j : Nat) (h : j < s.size), j < i → letB ((s[j].toNat : Nat) : Int) = true ∨ j ≠ 0 ∧ digB ((s[j].toNat : Nat) : Int) = true) (fun k => s.size - k.toNat) (fun b => b = true ↔ IsId s) ?_ 0 ⟨0, rfl, Nat.zero_le _, fun j _ h => by omega⟩
  rintro k ⟨i, rfl, hi, hp2⟩
  rcases Nat.eq_or_lt_of_le hi with h0' | h0'
  · subst h0'
    right
    by_cases h0 : s = eS
    · exact ⟨false, by simp only [g_address_Identifier_L1, decide_eq_false (show ¬ (s.size : Int) < s.size by omega), cond_false, decide_eq_true h0, Bool.not_true], ⟨fun h => (by cases h), fun h => absurd h0 h.1⟩⟩
    · refine ⟨decide ((s.size : Int) ≤ 64), by simp only [g_address_Identifier_L1, decide_eq_false (show ¬ (s.size : Int) < s.size by omega), cond_false, decide_eq_false h0, Bool.not_false, cond_true], ?_⟩
      rw [decide_eq_true_eq]
      refine ⟨fun h => ⟨h0, by omega, fun hp => ?_, fun i hi => ?_⟩, fun h => by have := h.2.1; omega⟩
      · rcases hp2 0 hp hp with h | h
        · exact h
        · exact absurd rfl h.1
      · rcases hp2 i hi hi with h | h
        · exact .inl h
        · exact .inr h.2
  · have hc256 : s[i].toNat < 256 := UInt8.toNat_lt s[i]
    have hlow := low_eq ⟨s[i].toNat, hc256⟩
    simp only at hlow
    generalize hC : ((s[i].toNat : Nat) : Int) = c at *
    have e0 : sidx s (i : Int) = some c := by rw [sidx_nat h0', hC]
    have next : (letB c = true ∨ i ≠ 0 ∧ digB c = true) → ∃ s' : Int, some (Sum.inl (β := Bool) ((i + 1 : Nat) : Int)) = some (.inl s') ∧ (∃ j : Nat, s' = (j : Int) ∧ j ≤ s.size ∧ ∀ (k : Nat) (h : k < s.size), k < j → letB ((s[k].toNat : Nat) : Int) = true ∨ k ≠ 0 ∧ digB ((s[k].toNat : Nat) : Int) = true) ∧ s.size - s'.toNat < s.size - (i : Int).toNat := by
      intro hc
      refine ⟨_, rfl, ⟨i + 1, rfl, h0', fun k hk hk2 => ?_⟩, by simp only [Int.toNat_natCast]; omega⟩
      rcases Nat.eq_or_lt_of_le (Nat.le_of_lt_succ hk2) with rfl | h
      · rw [hC]; exact hc
      · exact hp2 k hk h
    have stop : letB c = false → (i = 0 ∨ digB c = false) → (false = true ↔ IsId s) := fun h1 h2 => ⟨fun h => (by cases h), fun h => by
      rcases h2 with h2 | h2
      · subst h2
        have := h.2.2.1 h0'
        rw [hC, h1] at this; cases this
      · rcases h.2.2.2 i h0' with k | k
        · rw [hC, h1] at k; cases k
        · rw [hC, h2] at k; cases k⟩
    have hw := wrap_nat h0' (show s.size ≤ 9223372036854775807 by omega)
    have e1 : g_address_Identifier_L1 s (i : Int) = bif letB c then some (.inl ((i + 1 : Nat) : Int)) else bif decide ((i : Int) = 0) then some (.inr false) else bif decide (c < 48) then some (.inr false) else bif decide (c > 57) then some (.inr false) else some (.inl ((i + 1 : Nat) : Int)) := by
      simp only [g_address_Identifier_L1, decide_eq_true (show (i : Int) < s.size by omega), cond_true, e0, Option.bind_some, hw]
      generalize decide ((IntKind.u8.wrap ((BitVec.ofInt IntKind.u8.bits c ||| BitVec.ofInt IntKind.u8.bits 32).toNat : Int)) < 97) = A at hlow ⊢
      generalize decide ((IntKind.u8.wrap ((BitVec.ofInt IntKind.u8.bits c ||| BitVec.ofInt IntKind.u8.bits 32).toNat : Int)) > 122) = B at hlow ⊢
      generalize letB c = L at hlow ⊢
      generalize decide (c = 95) = F at hlow ⊢
      generalize decide ((i : Int) = 0) = Z
      cases A <;> cases B <;> cases L <;> cases F <;> cases Z <;> first | rfl | cases hlow
    rw [e1]
    cases hlt : letB c
    · rw [cond_false]
      by_cases hz : i = 0
      · subst hz
        exact .inr ⟨false, rfl, stop hlt (.inl rfl)⟩
      · rw [decide_eq_false (show ¬ (i : Int) = 0 by omega), cond_false]
        by_cases h48 : c < 48
        · rw [decide_eq_true h48, cond_true]
          exact .inr ⟨false, rfl, stop hlt (.inr (by unfold digB; rw [decide_eq_false (by omega)]; rfl))⟩
        · rw [decide_eq_false h48, cond_false]
          by_cases h57 : c > 57
          · rw [decide_eq_true h57, cond_true]
            exact .inr ⟨false, rfl, stop hlt (.inr (by unfold digB; rw [decide_eq_false (show ¬ c ≤ 57 by omega), Bool.and_false]))⟩
          · rw [decide_eq_false h57, cond_false]
            exact .inl (next (.inr ⟨hz, by unfold digB; rw [decide_eq_true (by omega), decide_eq_true (by omega)]; rfl⟩))
    · exact .inl (next (.inl hlt))
/-! ### Unify -/
abbrev tZ : Ty := Ty.mk 0 [] []
mutual
def uniS : Ty → Ty → Ty
  | .mk k es ns, b => if k = b.kind ∧ ns = b.names ∧ es.length = b.elems.length then .mk k (uniL es b.elems) ns else tZ
def uniL : List Ty → List Ty → List Ty
  | e :: es, f :: fs => uniS e f :: uniL es fs
  | [], _ => []
  | _ :: _, [] => []
end
theorem uniL_zip : ∀ (es fs : List Ty), uniL es fs = (es.zip fs).map fun p => uniS p.1 p.2
  | [], _ => by simp [uniL]
  | _ :: _, [] => by simp [uniL]
  | e :: es, f :: fs => by rw [uniL, uniL_zip es fs]; rfl
theorem uniS_eq (a b : Ty) : uniS a b = if a.kind = b.kind ∧ a.names = b.names ∧ a.elems.length = b.elems.length then .mk a.kind ((a.elems.zip b.elems).map fun p => uniS p.1 p.2) a.names else tZ := by
  cases a; simp only [uniS, uniL_zip]; rfl
open Classical in
theorem tuni_eq (a b : Ty) : t_types_Unify a b = g_types_Unify (fun a0 a1 => if relT a0 a then t_types_Unify a0 a1 else none) a b := tieF_eq a b
open Classical in
theorem runi_eq (a b : Ty) : t_r10_Unify a b = g_r10_Unify (fun a0 a1 => if relT a0 a then t_r10_Unify a0 a1 else none) a b := tieF_eq a b
theorem same_spec (a b : List ByteArray) (ha : a.length ≤ 9223372036854775807) : g_r10_same a b = some (decide (a = b)) := by
  unfold g_r10_same
  by_cases hl : a.length = b.length
  · obtain ⟨q, h1, h2⟩ := loop_all (body := g_r10_same_L1 a b) a.length (fun i => a[i]? = b[i]?) (by
      intro i hi
      have hx := List.getElem?_eq_getElem hi
      have hy := List.getElem?_eq_getElem (show i < b.length by omega)
      by_cases he : a[i] = b[i]
      · exact .inl ⟨by rw [hx, hy, he], by simp only [g_r10_same_L1, decide_eq_true (show (i : Int) < a.length by omega), cond_true, idx_nat, hx, hy, Option.bind_some, decide_eq_true he, Bool.not_true, cond_false, wrap_nat hi ha]⟩
      · exact .inr ⟨by rw [hx, hy]; simp [he], by simp only [g_r10_same_L1, decide_eq_true (show (i : Int) < a.length by omega), cond_true, idx_nat, hx, hy, Option.bind_some, decide_eq_false he, Bool.not_false]⟩) (by simp only [g_r10_same_L1, decide_eq_false (show ¬ (a.length : Int) < a.length by omega), cond_false])
    rw [decide_eq_true (show (a.length : Int) = b.length by omega), Bool.not_true, cond_false, h1]
    congr 1
    rw [Bool.eq_iff_iff, h2, decide_eq_true_eq]
    exact ⟨fun h => list_ext hl h, fun h i _ => by rw [h]⟩
  · rw [decide_eq_false (show ¬ (a.length : Int) = b.length by omega), Bool.not_false, cond_true, decide_eq_false (fun h => hl (by rw [h]))]
theorem zip_get {a b : List Ty} {i : Nat} {p : Ty × Ty} (h : (a.zip b)[i]? = some p) : a[i]? = some p.1 ∧ b[i]? = some p.2 := zip_at h
open Classical in
theorem tuni_spec (a : Ty) : ∀ b : Ty, a.Fits → t_types_Unify a b = some (uniS a b) := by
  induction a using tyWf_ind with
  | h a ih =>
    intro b hf
    obtain ⟨f1, f2, f3, f4, f5⟩ := hf.parts
    rw [tuni_eq, uniS_eq]
    unfold g_types_Unify
    by_cases h1 : a.kind = b.kind
    case neg => rw [decide_eq_false h1, if_neg (fun h => h1 h.1)]; rfl
    rw [decide_eq_true h1, Bool.not_true, cond_false, equal_spec _ _ (by have := len_i64 f3 (by decide); omega), Option.bind_some]
    by_cases h2 : a.names = b.names
    case neg => rw [decide_eq_false h2, if_neg (fun h => h2 h.2.1)]; rfl
    rw [decide_eq_true h2, Bool.not_true, cond_false]
    by_cases h3 : a.elems.length = b.elems.length
    case neg => rw [decide_eq_false (show ¬ (a.elems.length : Int) = b.elems.length by omega), if_neg (fun h => h3 h.2.2)]; rfl
    rw [decide_eq_true (show (a.elems.length : Int) = b.elems.length by omega), Bool.not_true, cond_false, if_pos ⟨h1, h2, h3⟩, clone_of f3, Option.bind_some]
    have hz : (a.elems.zip b.elems).length = a.elems.length := by rw [List.length_zip]; omega
    have hn := tlen f2
    refine loop_map (a.elems.zip b.elems) (fun p => uniS p.1 p.2) (fun acc => Ty.mk a.kind acc a.names) (fun i acc p hi hp ha => ?_) (fun acc ha => ?_)
    · obtain ⟨e1, e2⟩ := zip_get hp
      have hm : p.1 ∈ a.elems := List.mem_of_getElem? e1
      simp only [g_types_Unify_L1, decide_eq_true (show (i : Int) < a.elems.length by omega), cond_true, idx_nat, e1, e2, Option.bind_some, if_pos (show relT p.1 a from hm), ih p.1 hm p.2 (f5 _ hm), app_one acc _ (m := 56) (by decide) (show acc.length < a.elems.length by omega) f2, wrap_nat (show i < a.elems.length by omega) (show a.elems.length ≤ 9223372036854775807 by omega)]
    · rw [hz]; simp only [g_types_Unify_L1, decide_eq_false (show ¬ (a.elems.length : Int) < a.elems.length by omega), cond_false]
open Classical in
theorem runi_spec (a : Ty) : ∀ b : Ty, a.Fits → t_r10_Unify a b = some (uniS a b) := by
  induction a using tyWf_ind with
  | h a ih =>
    intro b hf
    obtain ⟨f1, f2, f3, f4, f5⟩ := hf.parts
    rw [runi_eq, uniS_eq]
    unfold g_r10_Unify
    by_cases h1 : a.kind = b.kind
    case neg => rw [decide_eq_false h1, if_neg (fun h => h1 h.1)]; rfl
    rw [decide_eq_true h1, Bool.not_true, cond_false]
    by_cases h3 : a.elems.length = b.elems.length
    case neg => rw [decide_eq_false (show ¬ (a.elems.length : Int) = b.elems.length by omega), if_neg (fun h => h3 h.2.2)]; rfl
    rw [decide_eq_true (show (a.elems.length : Int) = b.elems.length by omega), Bool.not_true, cond_false, same_spec _ _ (by have := len_i64 f3 (by decide); omega), Option.bind_some]
    by_cases h2 : a.names = b.names
    case neg => rw [decide_eq_false h2, if_neg (fun h => h2 h.2.1)]; rfl
    rw [decide_eq_true h2, Bool.not_true, cond_false, if_pos ⟨h1, h2, h3⟩]
    have hz : (a.elems.zip b.elems).length = a.elems.length := by rw [List.length_zip]; omega
    have hn := tlen f2
    refine loop_map (a.elems.zip b.elems) (fun p => uniS p.1 p.2) (fun acc => Ty.mk a.kind acc a.names) (fun i acc p hi hp ha => ?_) (fun acc ha => ?_)
    · obtain ⟨e1, e2⟩ := zip_get hp
      have hm : p.1 ∈ a.elems := List.mem_of_getElem? e1
      simp only [g_r10_Unify_L1, decide_eq_true (show (i : Int) < a.elems.length by omega), cond_true, idx_nat, e1, e2, Option.bind_some, if_pos (show relT p.1 a from hm), ih p.1 hm p.2 (f5 _ hm), app_one acc _ (m := 56) (by decide) (show acc.length < a.elems.length by omega) f2, wrap_nat (show i < a.elems.length by omega) (show a.elems.length ≤ 9223372036854775807 by omega)]
    · rw [hz]; simp only [g_r10_Unify_L1, decide_eq_false (show ¬ (a.elems.length : Int) < a.elems.length by omega), cond_false]
theorem tok_Z : Tok tZ := tok_simple (by decide)
theorem uni_tok (a : Ty) : ∀ b : Ty, Tok a → Tok (uniS a b) := by
  induction a using tyWf_ind with
  | h a ih =>
    intro b ha
    rw [uniS_eq]
    split
    · rename_i hc
      obtain ⟨g1, g2, g3, g4, g5, g6⟩ := ha.facts
      obtain ⟨f1, f2, f3, f4, f5⟩ := ha.1.parts
      have hz : (a.elems.zip b.elems).length = a.elems.length := by rw [List.length_zip]; omega
      have hel : ∀ e ∈ (a.elems.zip b.elems).map (fun p => uniS p.1 p.2), Tok e := by
        intro e he
        obtain ⟨p, hp, rfl⟩ := List.mem_map.1 he
        have hm := (List.of_mem_zip hp).1
        exact ih p.1 hm p.2 (ha.elem _ hm)
      refine ⟨.mk f1 (by rw [List.length_map, hz]; exact f2) f3 f4 fun e he => (hel e he).1, .mk (by simp only [Ty.elems_mk, List.length_map, hz]; exact g1) fun e he => (hel e he).2.1, .mk g2 g3 (fun h => by simp only [Ty.elems_mk, Ty.names_mk, List.length_map, hz]; exact g4 h) (fun h => by simp only [Ty.elems_mk, List.length_map, hz]; exact g5 h) g6 fun e he => (hel e he).2.2⟩
    · exact tok_Z
/-! ### The type of a value -/
open Classical in
/-- The common type of values, from what was found so far on. -/
noncomputable def comS (f : Val → Ty) : List Val → Option Ty → Option Ty
  | [], a => a
  | x :: r, a => if x.kind = 0 ∨ x.kind = 6 then comS f r a else comS f r (some (match a with | none => f x | some t => uniS t (f x)))
open Classical in
noncomputable def ofS (v : Val) : Int → Ty :=
  wfV.fix (C := fun _ => Int → Ty) (fun v rec lv =>
    if v.kind = 1 then .mk 1 [] [] else if v.kind = 2 then .mk 2 [] [] else if v.kind = 3 then .mk 3 [] []
    else if ¬ (v.kind = 4 ∨ v.kind = 5) then tZ else if 32 ≤ lv then tZ
    else if v.kind = 4 then .mk 4 [(comS (fun y => if h : relV y v then rec y h (lv + 1) else tZ) v.items none).getD tZ] []
    else if ∀ k ∈ v.keys, IsId k then .mk 6 (v.items.map fun y => if h : relV y v then rec y h (lv + 1) else tZ) v.keys
    else .mk 5 [(comS (fun y => if h : relV y v then rec y h (lv + 1) else tZ) v.items none).getD tZ] []) v
theorem comS_congr (f g : Val → Ty) : ∀ (l : List Val) (a : Option Ty), (∀ x ∈ l, f x = g x) → comS f l a = comS g l a
  | [], _, _ => rfl
  | x :: r, a, h => by
    have h1 := h x (List.mem_cons_self ..)
    have h2 := fun y hy => h y (List.mem_cons_of_mem _ hy)
    simp only [comS, h1, comS_congr f g r _ h2]
open Classical in
theorem ofS_eq (v : Val) (lv : Int) : ofS v lv = if v.kind = 1 then .mk 1 [] [] else if v.kind = 2 then .mk 2 [] [] else if v.kind = 3 then .mk 3 [] []
    else if ¬ (v.kind = 4 ∨ v.kind = 5) then tZ else if 32 ≤ lv then tZ
    else if v.kind = 4 then .mk 4 [(comS (fun y => ofS y (lv + 1)) v.items none).getD tZ] []
    else if ∀ k ∈ v.keys, IsId k then .mk 6 (v.items.map fun y => ofS y (lv + 1)) v.keys
    else .mk 5 [(comS (fun y => ofS y (lv + 1)) v.items none).getD tZ] [] := by
  have e : ∀ y ∈ v.items, (if h : relV y v then ofS y (lv + 1) else tZ) = ofS y (lv + 1) := fun y hy => by rw [dif_pos (show relV y v from hy)]
  rw [ofS, wfV.fix_eq]
  have e1 := comS_congr _ (fun y => ofS y (lv + 1)) v.items none e
  have e2 : (v.items.map fun y => if h : relV y v then ofS y (lv + 1) else tZ) = v.items.map fun y => ofS y (lv + 1) := List.map_congr_left e
  rw [← e1, ← e2]
  rfl
/-- No value in it has many items. -/
inductive FewV : Val → Prop
  | mk {v : Val} : v.items.length ≤ 1000 → (∀ x ∈ v.items, FewV x) → FewV v
theorem nodesL_le : ∀ l : List Val, l.length ≤ nodesL l ∧ ∀ x ∈ l, nodesV x ≤ nodesL l
  | [] => ⟨by simp [nodesL], fun x h => absurd h List.not_mem_nil⟩
  | x :: r => by
    have ⟨h1, h2⟩ := nodesL_le r
    have hx : 1 ≤ nodesV x := by cases x; simp only [nodesV]; omega
    simp only [nodesL, List.length_cons]
    refine ⟨by omega, fun y hy => ?_⟩
    rcases List.mem_cons.1 hy with rfl | hy
    · omega
    · have := h2 y hy; omega
theorem few_of (v : Val) : nodesV v ≤ 1000 → FewV v := by
  induction v using wfV.induction with
  | h v ih =>
    intro h
    have e : nodesV v = 1 + nodesL v.items := by cases v; simp only [nodesV, Val.items]
    have ⟨h1, h2⟩ := nodesL_le v.items
    exact .mk (by omega) fun x hx => ih x hx (by have := h2 x hx; omega)
theorem few_small {v : Val} (h : smallV v 200 = true) : FewV v := by
  rw [smallV_eq, Bool.and_eq_true, decide_eq_true_eq] at h
  rcases leftV_cases v 200 40 with k | ⟨_, k⟩
  · omega
  · exact few_of v (by omega)
theorem com_tok (f : Val → Ty) : ∀ (l : List Val) (a : Option Ty), (∀ x ∈ l, Tok (f x)) → (∀ t, a = some t → Tok t) → ∀ t, comS f l a = some t → Tok t
  | [], a, _, ha, t, h => ha t h
  | x :: r, a, hl, ha, t, h => by
    have h2 := fun y hy => hl y (List.mem_cons_of_mem _ hy)
    simp only [comS] at h
    split at h
    · exact com_tok f r a h2 ha t h
    · refine com_tok f r _ h2 ?_ t h
      intro t' he
      cases a with
      | none => cases he; exact hl x (List.mem_cons_self ..)
      | some u => cases he; exact uni_tok u _ (ha u rfl)
theorem com_getD (f : Val → Ty) (l : List Val) (h : ∀ x ∈ l, Tok (f x)) : Tok ((comS f l none).getD tZ) := by
  cases hc : comS f l none with
  | none => exact tok_Z
  | some t => exact com_tok f l none h (fun t h => by cases h) t hc
theorem tok_one {k : Int} {t : Ty} (hk : k = 4 ∨ k = 5) (h : Tok t) : Tok (Ty.mk k [t] []) :=
  ⟨.mk (by omega) (by simp) (by simp) (fun _ h => absurd h List.not_mem_nil) (fun e he => by rw [List.mem_singleton.1 he]; exact h.1), .mk (by simp) (fun e he => by rw [show e = _ from List.mem_singleton.1 he]; exact h.2.1),
   .mk (show 0 ≤ k by omega) (show k ≤ 6 by omega) (fun hh => by have : k = 6 := hh; omega) (fun _ => rfl) (fun i j _ a b ha => by simp at ha) (fun e he => by rw [show e = _ from List.mem_singleton.1 he]; exact h.2.2)⟩
theorem of_tok (v : Val) : ∀ lv : Int, Vok v → FewV v → Tok (ofS v lv) := by
  induction v using wfV.induction with
  | h v ih =>
    intro lv hv hw
    obtain ⟨f1, f2, f3, f4, f5, f6, f7⟩ := hv.1.parts
    have hwi : v.items.length ≤ 1000 ∧ ∀ x ∈ v.items, FewV x := by cases hw with | mk a b => exact ⟨a, b⟩
    have hel : ∀ x ∈ v.items, Tok (ofS x (lv + 1)) := fun x hx => ih x hx (lv + 1) (hv.item x hx) (hwi.2 x hx)
    rw [ofS_eq]
    split
    · exact tok_simple (by decide)
    split
    · exact tok_simple (by decide)
    split
    · exact tok_simple (by decide)
    split
    · exact tok_Z
    split
    · exact tok_Z
    split
    · exact tok_one (.inl rfl) (com_getD _ _ hel)
    rename_i h45 _ h4
    have h5 : v.kind = 5 := by omega
    split
    · have hlen := hv.shape.2.2.2.2.2.2.1 h5
      have hel2 : ∀ e ∈ v.items.map (fun y => ofS y (lv + 1)), Tok e := fun e he => by
        obtain ⟨x, hx, rfl⟩ := List.mem_map.1 he; exact hel x hx
      exact ⟨.mk (by omega) (by rw [List.length_map]; omega) f5 f6 fun e he => (hel2 e he).1, .mk (by simpa using hwi.1) fun e he => (hel2 e he).2.1, .mk (show (0 : Int) ≤ 6 by decide) (show (6 : Int) ≤ 6 by decide) (fun _ => by simpa using hlen.symm) (fun h => by have : (6 : Int) = 4 ∨ (6 : Int) = 5 := h; omega) hv.rising fun e he => (hel2 e he).2.2⟩
    · exact tok_one (.inr rfl) (com_getD _ _ hel)
open Classical in
theorem tof_eq (v : Val) (lv : Int) : t_types_of v lv = g_types_of (g_types_common fun a0 a1 => if relV a0 v then t_types_of a0 a1 else none) (fun a0 a1 => if relV a0 v then t_types_of a0 a1 else none) v lv := tieF_eq v lv
open Classical in
theorem rof_eq (v : Val) (lv : Int) : t_r10_of v lv = g_r10_of (g_r10_common fun a0 a1 => if relV a0 v then t_r10_of a0 a1 else none) (fun a0 a1 => if relV a0 v then t_r10_of a0 a1 else none) v lv := tieF_eq v lv
theorem tcom_spec (rec : Val → Int → Option Ty) (l : List Val) (lv : Int) (hn : l.length ≤ 140737488351232) (h : ∀ x ∈ l, rec x lv = some (ofS x lv) ∧ Tok (ofS x lv)) :
    g_types_common rec l lv = some ((comS (fun y => ofS y lv) l none).getD tZ) := by
  unfold g_types_common
  have := loop_meas (body := g_types_common_L1 rec l lv) (fun s => ∃ (i : Nat) (a : Option Ty), s = ((a.getD tZ).kind, (a.getD tZ).elems, (a.getD tZ).names, (i : Int), a.isNone) ∧ i ≤ l.length ∧ (∀ t, a = some t → Tok t) ∧ comS (fun y => ofS y lv) (l.drop i) a = comS (fun y => ofS y lv) l none) (fun s => l.length - s.2.2.2.1.toNat) (fun r => r = (comS (fun y => ofS y lv) l none).getD tZ) (by
    rintro s ⟨i, a, rfl, hi, ha, hc⟩
    rcases Nat.eq_or_lt_of_le hi with h0 | h0
    · subst h0
      rw [List.drop_length] at hc
      refine .inr ⟨_, by simp only [g_types_common_L1, decide_eq_false (show ¬ (l.length : Int) < l.length by omega), cond_false]; rfl, ?_⟩
      rw [← hc]
      show Ty.mk (a.getD tZ).kind (a.getD tZ).elems (a.getD tZ).names = a.getD tZ
      cases a.getD tZ; rfl
    · left
      have hx := List.getElem?_eq_getElem h0
      have hm : l[i] ∈ l := List.getElem_mem h0
      have hlt : decide ((i : Int) < l.length) = true := decide_eq_true (by omega)
      have hw := wrap_nat h0 (show l.length ≤ 9223372036854775807 by omega)
      have hmeas : ∀ k : Nat, k = i + 1 → l.length - ((k : Nat) : Int).toNat < l.length - ((i : Nat) : Int).toNat := fun k hk => by simp only [Int.toNat_natCast]; omega
      rw [List.drop_eq_getElem_cons h0] at hc
      simp only [comS] at hc
      by_cases hz : l[i].kind = 0
      · rw [if_pos (.inl hz)] at hc
        exact ⟨_, by simp only [g_types_common_L1, hlt, cond_true, idx_nat, hx, Option.bind_some, decide_eq_true hz, hw], ⟨i + 1, a, rfl, h0, ha, hc⟩, hmeas _ rfl⟩
      by_cases hz6 : l[i].kind = 6
      · rw [if_pos (.inr hz6)] at hc
        exact ⟨_, by simp only [g_types_common_L1, hlt, cond_true, idx_nat, hx, Option.bind_some, decide_eq_false hz, decide_eq_true hz6, cond_false, hw], ⟨i + 1, a, rfl, h0, ha, hc⟩, hmeas _ rfl⟩
      rw [if_neg (by omega)] at hc
      obtain ⟨hr, ht⟩ := h _ hm
      cases a with
      | none =>
        refine ⟨_, by simp only [g_types_common_L1, hlt, cond_true, idx_nat, hx, Option.bind_some, decide_eq_false hz, decide_eq_false hz6, cond_false, hr, Option.isNone_none, Bool.not_true, hw]; rfl, ⟨i + 1, some (ofS l[i] lv), rfl, h0, fun t he => by cases he; exact ht, hc⟩, hmeas _ rfl⟩
      | some t =>
        have hu := tuni_spec t (ofS l[i] lv) (ha t rfl).1
        have hmk : Ty.mk t.kind t.elems t.names = t := by cases t; rfl
        refine ⟨_, by simp only [g_types_common_L1, hlt, cond_true, idx_nat, hx, Option.bind_some, decide_eq_false hz, decide_eq_false hz6, cond_false, hr, Option.isNone_some, Bool.not_false, Option.getD_some, hmk, hu, hw], ⟨i + 1, some (uniS t (ofS l[i] lv)), rfl, h0, fun t' he => by cases he; exact uni_tok _ _ (ha t rfl), hc⟩, hmeas _ rfl⟩) (0, [], [], 0, true) ⟨0, none, rfl, Nat.zero_le _, fun t h => (by cases h), by rw [List.drop_zero]⟩
  obtain ⟨r, h1, rfl⟩ := this
  exact h1
theorem rcom_spec (rec : Val → Int → Option Ty) (l : List Val) (lv : Int) (hn : l.length ≤ 140737488351232) (h : ∀ x ∈ l, rec x lv = some (ofS x lv) ∧ Tok (ofS x lv)) :
    g_r10_common rec l lv = some ((comS (fun y => ofS y lv) l none).getD tZ) := by
  unfold g_r10_common
  have := loop_meas (body := g_r10_common_L1 rec l lv) (fun s => ∃ (i : Nat) (a : Option Ty), s = ((a.getD tZ).kind, (a.getD tZ).elems, (a.getD tZ).names, a.isNone, (i : Int)) ∧ i ≤ l.length ∧ (∀ t, a = some t → Tok t) ∧ comS (fun y => ofS y lv) (l.drop i) a = comS (fun y => ofS y lv) l none) (fun s => l.length - s.2.2.2.2.toNat) (fun r => r = (comS (fun y => ofS y lv) l none).getD tZ) (by
    rintro s ⟨i, a, rfl, hi, ha, hc⟩
    rcases Nat.eq_or_lt_of_le hi with h0 | h0
    · subst h0
      rw [List.drop_length] at hc
      refine .inr ⟨_, by simp only [g_r10_common_L1, decide_eq_false (show ¬ (l.length : Int) < l.length by omega), cond_false]; rfl, ?_⟩
      rw [← hc]
      show Ty.mk (a.getD tZ).kind (a.getD tZ).elems (a.getD tZ).names = a.getD tZ
      cases a.getD tZ; rfl
    · left
      have hx := List.getElem?_eq_getElem h0
      have hm : l[i] ∈ l := List.getElem_mem h0
      have hlt : decide ((i : Int) < l.length) = true := decide_eq_true (by omega)
      have hw := wrap_nat h0 (show l.length ≤ 9223372036854775807 by omega)
      have hmeas : ∀ k : Nat, k = i + 1 → l.length - ((k : Nat) : Int).toNat < l.length - ((i : Nat) : Int).toNat := fun k hk => by simp only [Int.toNat_natCast]; omega
      rw [List.drop_eq_getElem_cons h0] at hc
      simp only [comS] at hc
      by_cases hz : l[i].kind = 0
      · rw [if_pos (.inl hz)] at hc
        exact ⟨_, by simp only [g_r10_common_L1, hlt, cond_true, idx_nat, hx, Option.bind_some, decide_eq_true hz, hw], ⟨i + 1, a, rfl, h0, ha, hc⟩, hmeas _ rfl⟩
      by_cases hz6 : l[i].kind = 6
      · rw [if_pos (.inr hz6)] at hc
        exact ⟨_, by simp only [g_r10_common_L1, hlt, cond_true, idx_nat, hx, Option.bind_some, decide_eq_false hz, decide_eq_true hz6, cond_false, hw], ⟨i + 1, a, rfl, h0, ha, hc⟩, hmeas _ rfl⟩
      rw [if_neg (by omega)] at hc
      obtain ⟨hr, ht⟩ := h _ hm
      cases a with
      | none =>
        refine ⟨_, by simp only [g_r10_common_L1, hlt, cond_true, idx_nat, hx, Option.bind_some, decide_eq_false hz, decide_eq_false hz6, cond_false, hr, Option.isNone_none, hw]; rfl, ⟨i + 1, some (ofS l[i] lv), rfl, h0, fun t he => by cases he; exact ht, hc⟩, hmeas _ rfl⟩
      | some t =>
        have hu := runi_spec t (ofS l[i] lv) (ha t rfl).1
        have hmk : Ty.mk t.kind t.elems t.names = t := by cases t; rfl
        refine ⟨_, by simp only [g_r10_common_L1, hlt, cond_true, idx_nat, hx, Option.bind_some, decide_eq_false hz, decide_eq_false hz6, cond_false, hr, Option.isNone_some, Option.getD_some, hmk, hu, hw], ⟨i + 1, some (uniS t (ofS l[i] lv)), rfl, h0, fun t' he => by cases he; exact uni_tok _ _ (ha t rfl), hc⟩, hmeas _ rfl⟩) (0, [], [], true, 0) ⟨0, none, rfl, Nat.zero_le _, fun t h => (by cases h), by rw [List.drop_zero]⟩
  obtain ⟨r, h1, rfl⟩ := this
  exact h1
theorem anyId_spec (l : List ByteArray) (hn : l.length ≤ 140737488351232) (hs : ∀ k ∈ l, k.size ≤ 140737488351232) (f : List Val → Int → Option Ty) (g : Val → Int → Option Ty) :
    ∃ b, g_types_of_slices_ContainsFunc_types_of_1 f g l = some b ∧ (b = false ↔ ∀ k ∈ l, IsId k) := by
  unfold g_types_of_slices_ContainsFunc_types_of_1 g_types_of_slices_ContainsFunc_types_of_1_slices_IndexFunc_types_of_1
  have := loop_meas (body := g_types_of_slices_ContainsFunc_types_of_1_slices_IndexFunc_types_of_1_L1 l) (fun s => ∃ i : Nat, s = (i : Int) ∧ i ≤ l.length ∧ ∀ j x, j < i → l[j]? = some x → IsId x) (fun s => l.length - s.toNat) (fun n => decide (n ≥ 0) = false ↔ ∀ x ∈ l, IsId x) (by
    rintro s ⟨i, rfl, hi, hp⟩
    rcases Nat.eq_or_lt_of_le hi with h0 | h0
    · subst h0
      refine .inr ⟨-1, by simp only [g_types_of_slices_ContainsFunc_types_of_1_slices_IndexFunc_types_of_1_L1, decide_eq_false (show ¬ (l.length : Int) < l.length by omega), cond_false], ⟨fun _ x hx => ?_, fun _ => by decide⟩⟩
      obtain ⟨j, hj⟩ := List.getElem?_of_mem hx
      exact hp j x (List.getElem?_eq_some_iff.1 hj).1 hj
    · have hx := List.getElem?_eq_getElem h0
      have hm : l[i] ∈ l := List.getElem_mem h0
      obtain ⟨b, hb, hiff⟩ := identA l[i] (hs _ hm)
      have hlt : decide ((i : Int) < l.length) = true := decide_eq_true (by omega)
      cases b with
      | true =>
        refine .inl ⟨((i + 1 : Nat) : Int), by simp only [g_types_of_slices_ContainsFunc_types_of_1_slices_IndexFunc_types_of_1_L1, g_types_of_1, hlt, cond_true, idx_nat, hx, Option.bind_some, hb, Bool.not_true, cond_false, wrap_nat h0 (show l.length ≤ 9223372036854775807 by omega)], ⟨i + 1, rfl, h0, fun j x hj he => ?_⟩, by simp only [Int.toNat_natCast]; omega⟩
        rcases Nat.eq_or_lt_of_le (Nat.le_of_lt_succ hj) with rfl | hj
        · rw [hx] at he; cases he; exact hiff.1 rfl
        · exact hp j x hj he
      | false =>
        refine .inr ⟨(i : Int), by simp only [g_types_of_slices_ContainsFunc_types_of_1_slices_IndexFunc_types_of_1_L1, g_types_of_1, hlt, cond_true, idx_nat, hx, Option.bind_some, hb, Bool.not_false], ⟨fun h => ?_, fun hall => ?_⟩⟩
        · simp at h
        · have := hiff.2 (hall _ hm); cases this) 0 ⟨0, rfl, Nat.zero_le _, fun j x hj => by omega⟩
  obtain ⟨n, h1, h2⟩ := this
  rw [h1, Option.bind_some]
  exact ⟨_, rfl, h2⟩
theorem allId_spec (l : List ByteArray) (hn : l.length ≤ 140737488351232) (hs : ∀ k ∈ l, k.size ≤ 140737488351232) : ∃ b, g_r10_identifiers l = some b ∧ (b = true ↔ ∀ k ∈ l, IsId k) := by
  unfold g_r10_identifiers
  obtain ⟨q, h1, h2⟩ := loop_all (body := g_r10_identifiers_L1 l) l.length (fun i => ∀ x, l[i]? = some x → IsId x) (by
    intro i hi
    have hx := List.getElem?_eq_getElem hi
    have hm : l[i] ∈ l := List.getElem_mem hi
    obtain ⟨b, hb, hiff⟩ := ident06 l[i] (hs _ hm)
    have hlt : decide ((i : Int) < l.length) = true := decide_eq_true (by omega)
    cases b with
    | true => exact .inl ⟨fun x he => by rw [hx] at he; cases he; exact hiff.1 rfl, by simp only [g_r10_identifiers_L1, hlt, cond_true, idx_nat, hx, Option.bind_some, hb, Bool.not_true, cond_false, wrap_nat hi (show l.length ≤ 9223372036854775807 by omega)]⟩
    | false => exact .inr ⟨fun h => (by have := hiff.2 (h _ hx); cases this), by simp only [g_r10_identifiers_L1, hlt, cond_true, idx_nat, hx, Option.bind_some, hb, Bool.not_false]⟩) (by simp only [g_r10_identifiers_L1, decide_eq_false (show ¬ (l.length : Int) < l.length by omega), cond_false])
  refine ⟨q, h1, h2.trans ⟨fun h x hx => ?_, fun h i _ x hx => h x (List.mem_of_getElem? hx)⟩⟩
  obtain ⟨j, hj⟩ := List.getElem?_of_mem hx
  exact h j (List.getElem?_eq_some_iff.1 hj).1 x hj
open Classical in
theorem tof_spec (v : Val) : ∀ lv : Int, Vok v → FewV v → 0 ≤ lv → lv ≤ 1000 → t_types_of v lv = some (ofS v lv) := by
  induction v using wfV.induction with
  | h v ih =>
    intro lv hv hw h0 h1
    obtain ⟨f1, f2, f3, f4, f5, f6, f7⟩ := hv.1.parts
    have hwi : v.items.length ≤ 1000 ∧ ∀ x ∈ v.items, FewV x := by cases hw with | mk a b => exact ⟨a, b⟩
    rw [tof_eq, ofS_eq]
    unfold g_types_of
    by_cases k1 : v.kind = 1
    · rw [decide_eq_true k1, if_pos k1]; rfl
    by_cases k2 : v.kind = 2
    · rw [decide_eq_false k1, decide_eq_true k2, if_neg k1, if_pos k2]; rfl
    by_cases k3 : v.kind = 3
    · rw [decide_eq_false k1, decide_eq_false k2, decide_eq_true k3, if_neg k1, if_neg k2, if_pos k3]; rfl
    rw [decide_eq_false k1, decide_eq_false k2, decide_eq_false k3, if_neg k1, if_neg k2, if_neg k3]
    simp only [cond_false]
    have H : lv < 32 → ∀ x ∈ v.items, (fun a0 a1 => if relV a0 v then t_types_of a0 a1 else none) x (lv + 1) = some (ofS x (lv + 1)) ∧ Tok (ofS x (lv + 1)) := by
      intro hl x hx
      simp only [if_pos (show relV x v from hx)]
      exact ⟨ih x hx (lv + 1) (hv.item x hx) (hwi.2 x hx) (by omega) (by omega), of_tok x _ (hv.item x hx) (hwi.2 x hx)⟩
    generalize (fun a0 a1 => if relV a0 v then t_types_of a0 a1 else none) = rec at H
    have hn := len_i64 f4 (by decide)
    have hw1 : IntKind.i64.wrap (lv + 1) = lv + 1 := wrap_small (by omega) (by omega)
    by_cases k4 : v.kind = 4
    · rw [decide_eq_true k4, if_neg (by omega), if_pos k4, Bool.not_true, cond_false]
      by_cases hl : 32 ≤ lv
      · rw [decide_eq_true (show lv ≥ 32 from hl), if_pos hl]; rfl
      · rw [decide_eq_false (show ¬ lv ≥ 32 from hl), if_neg hl, cond_false, hw1, tcom_spec rec v.items (lv + 1) hn (H (by omega))]; rfl
    by_cases k5 : v.kind = 5
    · rw [decide_eq_false k4, decide_eq_true k5, if_neg (by omega), if_neg k4, Bool.not_false, cond_true, Bool.not_true, cond_false]
      by_cases hl : 32 ≤ lv
      · rw [decide_eq_true (show lv ≥ 32 from hl), if_pos hl]; rfl
      · rw [decide_eq_false (show ¬ lv ≥ 32 from hl), if_neg hl, cond_false, hw1]
        obtain ⟨b, hb, hiff⟩ := anyId_spec v.keys (len_i64 f5 (by decide)) f6 (g_types_common rec) rec
        rw [hb, Option.bind_some]
        cases b with
        | true =>
          have hno : ¬ ∀ k ∈ v.keys, IsId k := fun h => by have := hiff.2 h; cases this
          rw [if_neg hno, cond_true, tcom_spec rec v.items (lv + 1) hn (H (by omega))]; rfl
        | false =>
          rw [if_pos (hiff.1 rfl), cond_false, clone_of f5, Option.bind_some]
          refine loop_map v.items (fun y => ofS y (lv + 1)) (fun acc => Ty.mk 6 acc v.keys) (fun i acc y hi hy ha => ?_) (fun acc ha => ?_)
          · simp only [g_types_of_L1, decide_eq_true (show (i : Int) < v.items.length by omega), cond_true, idx_nat, hy, Option.bind_some, hw1, (H (by omega) y (List.mem_of_getElem? hy)).1, app_one acc _ (m := 56) (n := 1000) (by decide) (show acc.length < 1000 by omega) (by decide), wrap_nat hi (show v.items.length ≤ 9223372036854775807 by omega)]
          · simp only [g_types_of_L1, decide_eq_false (show ¬ (v.items.length : Int) < v.items.length by omega), cond_false]
    · rw [decide_eq_false k4, decide_eq_false k5, if_pos (by omega)]; rfl
open Classical in
theorem rof_spec (v : Val) : ∀ lv : Int, Vok v → FewV v → 0 ≤ lv → lv ≤ 1000 → t_r10_of v lv = some (ofS v lv) := by
  induction v using wfV.induction with
  | h v ih =>
    intro lv hv hw h0 h1
    obtain ⟨f1, f2, f3, f4, f5, f6, f7⟩ := hv.1.parts
    have hwi : v.items.length ≤ 1000 ∧ ∀ x ∈ v.items, FewV x := by cases hw with | mk a b => exact ⟨a, b⟩
    have hsh := hv.shape
    rw [rof_eq, ofS_eq]
    unfold g_r10_of
    by_cases k1 : v.kind = 1
    · rw [decide_eq_true k1, if_pos k1]; rfl
    by_cases k2 : v.kind = 2
    · rw [decide_eq_false k1, decide_eq_true k2, if_neg k1, if_pos k2]; rfl
    by_cases k3 : v.kind = 3
    · rw [decide_eq_false k1, decide_eq_false k2, decide_eq_true k3, if_neg k1, if_neg k2, if_pos k3]; rfl
    rw [decide_eq_false k1, decide_eq_false k2, decide_eq_false k3, if_neg k1, if_neg k2, if_neg k3]
    simp only [cond_false]
    have H : lv < 32 → ∀ x ∈ v.items, (fun a0 a1 => if relV a0 v then t_r10_of a0 a1 else none) x (lv + 1) = some (ofS x (lv + 1)) ∧ Tok (ofS x (lv + 1)) := by
      intro hl x hx
      simp only [if_pos (show relV x v from hx)]
      exact ⟨ih x hx (lv + 1) (hv.item x hx) (hwi.2 x hx) (by omega) (by omega), of_tok x _ (hv.item x hx) (hwi.2 x hx)⟩
    generalize (fun a0 a1 => if relV a0 v then t_r10_of a0 a1 else none) = rec at H
    have hn := len_i64 f4 (by decide)
    have hw1 : IntKind.i64.wrap (lv + 1) = lv + 1 := wrap_small (by omega) (by omega)
    by_cases k0 : v.kind = 0
    · rw [decide_eq_true k0, if_pos (by omega)]; rfl
    by_cases k6 : v.kind = 6
    · rw [decide_eq_false k0, decide_eq_true k6, if_pos (by omega)]; rfl
    rw [decide_eq_false k0, decide_eq_false k6, if_neg (by omega)]
    simp only [cond_false]
    by_cases hl : 32 ≤ lv
    · rw [decide_eq_true (show lv ≥ 32 from hl), if_pos hl]; rfl
    rw [decide_eq_false (show ¬ lv ≥ 32 from hl), if_neg hl, cond_false, hw1]
    by_cases k4 : v.kind = 4
    · rw [decide_eq_true k4, if_pos k4, cond_true, rcom_spec rec v.items (lv + 1) hn (H (by omega))]; rfl
    · rw [decide_eq_false k4, if_neg k4, cond_false]
      obtain ⟨b, hb, hiff⟩ := allId_spec v.keys (len_i64 f5 (by decide)) f6
      rw [hb, Option.bind_some]
      cases b with
      | false =>
        have hno : ¬ ∀ k ∈ v.keys, IsId k := fun h => by have := hiff.2 h; cases this
        rw [if_neg hno, Bool.not_false, cond_true, rcom_spec rec v.items (lv + 1) hn (H (by omega))]; rfl
      | true =>
        rw [if_pos (hiff.1 rfl), Bool.not_true, cond_false]
        refine loop_map v.items (fun y => ofS y (lv + 1)) (fun acc => Ty.mk 6 acc v.keys) (fun i acc y hi hy ha => ?_) (fun acc ha => ?_)
        · simp only [g_r10_of_L1, decide_eq_true (show (i : Int) < v.items.length by omega), cond_true, idx_nat, hy, Option.bind_some, hw1, (H (by omega) y (List.mem_of_getElem? hy)).1, app_one acc _ (m := 56) (n := 1000) (by decide) (show acc.length < 1000 by omega) (by decide), wrap_nat hi (show v.items.length ≤ 9223372036854775807 by omega)]
        · simp only [g_r10_of_L1, decide_eq_false (show ¬ (v.items.length : Int) < v.items.length by omega), cond_false]
theorem rTo_spec (v : Val) (t : Ty) (ht : Tok t) (hv : Vok v) : g_r11_To v t = some (toE v t) := by
  unfold g_r11_To toE
  rw [rto_spec t v ht hv, Option.bind_some]
  by_cases h : (toS t v).2 = 0
  · rw [decide_eq_true h, Bool.not_true, cond_false, if_pos h, show m_checkE (toS t v).1 = some (checkE (toS t v).1) from gd_of (to_fits t v ht hv), Option.bind_some]
    by_cases h2 : checkE (toS t v).1 = 0
    · rw [decide_eq_true h2, if_pos h2]; rfl
    · rw [decide_eq_false h2, if_neg h2]; rfl
  · rw [decide_eq_false h, Bool.not_false, cond_true, if_neg h]
theorem right_few (v : Val) (t : Ty) (hv : v.Fits) (h : g_l11_right v t = some true) : FewV v := by
  unfold g_l11_right at h
  rw [show m_small v 200 = some (smallV v 200) from gd_of ⟨hv, by decide, by decide⟩, Option.bind_some] at h
  cases hs : smallV v 200 with
  | true => exact few_small hs
  | false => rw [hs] at h; cases h
theorem toE_fits (v : Val) (t : Ty) (ht : Tok t) (hv : Vok v) : (toE v t).1.Fits := by
  unfold toE
  split
  · split
    · exact to_fits t v ht hv
    · exact vZ_fits
  · exact vZ_fits
theorem law_Values (v : Val) (t : Ty) (hv : v.Fits) (ht : t.Fits) : g_l11_ConvertValues v t = some true := by
  unfold g_l11_ConvertValues
  obtain ⟨b, hb, hr⟩ := right_spec v t hv ht
  have hb' := hb
  rw [hb, Option.bind_some, awake_true]
  cases b
  case false => rfl
  obtain ⟨ov, oc, ot⟩ := hr rfl
  have ow := right_few v t hv hb'
  have otf := of_tok v 1 ov ow
  obtain ⟨q, hq, hc⟩ := requal_spec (toE v t).1 (toE v t).1 (toE_fits v t ot ov)
  rw [hc.2 rfl] at hq
  have hL : ∃ b, g_convert_Lossless v t = some b ∧ g_r11_Lossless v t = some b := by
    unfold g_convert_Lossless g_r11_Lossless
    rw [To_spec v t ot ov, rTo_spec v t ot ov, Option.bind_some, Option.bind_some]
    by_cases h0 : (toE v t).2 = 0
    case neg => rw [decide_eq_false h0]; exact ⟨false, rfl, rfl⟩
    obtain ⟨h1, h2, h3⟩ := toE_ok h0
    have or := vok_of (to_fits t v ot ov) h2
    have hT : g_types_Of v = some (ofS v 1) := by unfold g_types_Of; rw [tof_spec v 1 ov ow (by decide) (by decide)]; rfl
    have hR : g_r10_Of v = some (ofS v 1) := by unfold g_r10_Of; rw [rof_spec v 1 ov ow (by decide) (by decide)]; rfl
    rw [decide_eq_true h0, Bool.not_true, cond_false, cond_false, hT, hR, Option.bind_some, Option.bind_some, h3]
    simp only
    rw [To_spec _ _ otf or, rTo_spec _ _ otf or, Option.bind_some, Option.bind_some]
    by_cases h4 : (toE (toS t v).1 (ofS v 1)).2 = 0
    case neg => rw [decide_eq_false h4]; exact ⟨false, rfl, rfl⟩
    rw [decide_eq_true h4, cond_true, cond_true]
    obtain ⟨a, ha, ha2⟩ := value_equal_spec (toE (toS t v).1 (ofS v 1)).1 v (toE_fits _ _ otf or)
    obtain ⟨c, hc', hc2⟩ := requal_spec v (toE (toS t v).1 (ofS v 1)).1 hv
    have : a = c := by rw [Bool.eq_iff_iff, ha2, hc2]; exact ⟨fun h => h.symm, fun h => h.symm⟩
    subst this
    rw [ha, hc']
    exact ⟨a, rfl, rfl⟩
  obtain ⟨l, l1, l2⟩ := hL
  simp only [Bool.not_true, cond_false, To_spec v t ot ov, rTo_spec v t ot ov, Option.bind_some, decide_true, cond_true, hq, l1, l2, beq_self_eq_true]
end Abs
end Go.Proofs.YtkmhhboihgckcaaGreatDoor
