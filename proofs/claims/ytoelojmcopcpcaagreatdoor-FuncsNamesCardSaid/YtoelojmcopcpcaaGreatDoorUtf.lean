/-
  UTF-8: the reference's Decode and Valid, and the program's strlit.Valid.
-/
import Derived.Test.YtoelojmcopcpcaaGreatDoorVal
import Derived.Lib.ValidLaws
import Derived.Deep.QuietTactic
import Derived.BigQuiet
import Derived.WalkSmall
import Derived.IntWalk
namespace Go.Proofs.YtoelojmcopcpcaaGreatDoor
open Go.RowKit

/-- The byte at a place, or 0. -/
def byteAt (s : ByteArray) (i : Nat) : Nat := (s.data.toList.getD i 0).toNat
def contB (s : ByteArray) (i : Nat) (lo hi : Int) : Bool := decide (i < s.size) && decide (lo ≤ (byteAt s i : Int)) && decide ((byteAt s i : Int) ≤ hi)
/-- What a first byte asks: the number of bytes (0: it begins nothing), and the range of the second. -/
def lead (b : Nat) : Nat × Int × Int :=
  if b < 128 then (1, 0, 0) else if b < 194 then (0, 0, 0) else if b < 224 then (2, 128, 191) else if b = 224 then (3, 160, 191) else if b < 237 then (3, 128, 191)
  else if b = 237 then (3, 128, 159) else if b < 240 then (3, 128, 191) else if b = 240 then (4, 144, 191) else if b < 244 then (4, 128, 191) else if b = 244 then (4, 128, 143) else (0, 0, 0)
/-- How many bytes the reference's Decode reads. -/
def rlen (s : ByteArray) (i : Nat) : Nat :=
  if (lead (byteAt s i)).1 = 1 then 1
  else if (lead (byteAt s i)).1 = 2 then (if contB s (i + 1) (lead (byteAt s i)).2.1 (lead (byteAt s i)).2.2 then 2 else 0)
  else if (lead (byteAt s i)).1 = 3 then (if contB s (i + 1) (lead (byteAt s i)).2.1 (lead (byteAt s i)).2.2 && contB s (i + 2) 128 191 then 3 else 0)
  else if (lead (byteAt s i)).1 = 4 then (if contB s (i + 1) (lead (byteAt s i)).2.1 (lead (byteAt s i)).2.2 && contB s (i + 2) 128 191 && contB s (i + 3) 128 191 then 4 else 0)
  else 0
def AnyLen (k : Nat) (e : Ending) : Prop := ∃ c, e = .returned (.tuple #[.int .i64 c, .int .i64 k])
theorem byteAt_eq (s : ByteArray) (i : Nat) (h : i < s.size) : (s[i].toNat : Int) = byteAt s i := by
  unfold byteAt
  rw [List.getD_eq_getElem?_getD, List.getElem?_eq_getElem (by rw [Array.length_toList, ByteArray.size_data]; exact h)]
  rfl
theorem byteAt_lt (s : ByteArray) (i : Nat) : byteAt s i < 256 := (s.data.toList.getD i 0).toNat_lt
theorem contB_lt {s : ByteArray} {i : Nat} {lo hi : Int} (h : contB s i lo hi = true) : i < s.size := by
  simp only [contB, Bool.and_eq_true, decide_eq_true_eq] at h; exact h.1.1














theorem lead_tab : ∀ b : Fin 256, 128 ≤ b.val → ((lead b.val).1 = 0 ∧ Lib.firstT b.val % 8 ≠ 2 ∧ Lib.firstT b.val % 8 ≠ 3 ∧ Lib.firstT b.val % 8 ≠ 4) ∨ ((lead b.val).1 = Lib.firstT b.val % 8 ∧ ((lead b.val).1 = 2 ∨ (lead b.val).1 = 3 ∨ (lead b.val).1 = 4) ∧ (lead b.val).2.1 = Lib.accLo (Lib.firstT b.val / 16) ∧ (lead b.val).2.2 = Lib.accHi (Lib.firstT b.val / 16)) := by decide +kernel
theorem getD_drop (s : ByteArray) (i k : Nat) : ((s.data.toList.drop i).getD k 0).toNat = byteAt s (i + k) := by
  unfold byteAt; simp [List.getElem?_drop]
theorem contB_iff (s : ByteArray) (i : Nat) (lo hi : Int) : contB s i lo hi = true ↔ i < s.size ∧ lo ≤ (byteAt s i : Int) ∧ (byteAt s i : Int) ≤ hi := by
  simp only [contB, Bool.and_eq_true, decide_eq_true_eq, and_assoc]
theorem check_len (n b1 b2 b3 sz lo hi : Nat) (c1 c2 c3 : Bool) (h1 : c1 = true ↔ 1 < n ∧ lo ≤ b1 ∧ b1 ≤ hi) (h2 : c2 = true ↔ 2 < n ∧ 128 ≤ b2 ∧ b2 ≤ 191) (h3 : c3 = true ↔ 3 < n ∧ 128 ≤ b3 ∧ b3 ≤ 191) (hsz : sz = 2 ∨ sz = 3 ∨ sz = 4) :
    (Lib.checkN n b1 b2 b3 sz lo hi = if (if sz = 2 then (if c1 then 2 else 0) else if sz = 3 then (if c1 && c2 then 3 else 0) else (if c1 && c2 && c3 then 4 else 0)) = 0 then none else some (if sz = 2 then (if c1 then 2 else 0) else if sz = 3 then (if c1 && c2 then 3 else 0) else (if c1 && c2 && c3 then 4 else 0))) ∧ (if sz = 2 then (if c1 then 2 else 0) else if sz = 3 then (if c1 && c2 then 3 else 0) else (if c1 && c2 && c3 then 4 else 0)) ≤ n := by
  have k1 : c1 = false → ¬ (1 < n ∧ lo ≤ b1 ∧ b1 ≤ hi) := fun e h => by rw [h1.2 h] at e; cases e
  have k2 : c2 = false → ¬ (2 < n ∧ 128 ≤ b2 ∧ b2 ≤ 191) := fun e h => by rw [h2.2 h] at e; cases e
  have k3 : c3 = false → ¬ (3 < n ∧ 128 ≤ b3 ∧ b3 ≤ 191) := fun e h => by rw [h3.2 h] at e; cases e
  unfold Lib.checkN
  rcases hsz with rfl | rfl | rfl <;> cases c1 <;> cases c2 <;> cases c3
  all_goals
    simp only [reduceCtorEq, Bool.false_eq_true, if_false, if_true, Bool.and_true, Bool.and_false, Bool.and_self, Nat.reduceEqDiff, false_iff, true_iff] at h1 h2 h3 ⊢
    first | (rw [if_pos (by omega)]; exact ⟨rfl, by omega⟩) | (rw [if_neg (by omega)]; exact ⟨rfl, by omega⟩)
/-- One step of the reference's Valid is one of the library's. -/
theorem valid_step (s : ByteArray) (i : Nat) (h : i < s.size) :
    (rlen s i = 0 → Lib.validD (s.data.toList.drop i) = false) ∧ (rlen s i ≠ 0 → Lib.validD (s.data.toList.drop i) = Lib.validD (s.data.toList.drop (i + rlen s i)) ∧ i + rlen s i ≤ s.size) := by
  have hlen : (s.data.toList.drop i).length = s.size - i := by rw [List.length_drop, Array.length_toList, ByteArray.size_data]
  have hne : s.data.toList.drop i ≠ [] := by intro e; rw [e] at hlen; simp at hlen; omega
  have hlt := byteAt_lt s i
  have hg0 := getD_drop s i 0
  rw [Nat.add_zero] at hg0
  by_cases hb : byteAt s i < 128
  · have hr : rlen s i = 1 := by unfold rlen; rw [show lead (byteAt s i) = (1, 0, 0) by unfold lead; rw [if_pos hb]]; rfl
    rw [hr]
    refine ⟨fun h => absurd h (by decide), fun _ => ⟨?_, by omega⟩⟩
    cases hd : s.data.toList.drop i with
    | nil => exact absurd hd hne
    | cons b t =>
      rw [hd] at hg0
      rw [Lib.validD_cons b t (by have : ((b :: t).getD 0 0).toNat = b.toNat := rfl; omega)]
      rw [← List.drop_drop, hd]; rfl
  · have hv := Lib.validD_lead (s.data.toList.drop i) hne (by omega)
    rw [hlen, hg0, getD_drop, getD_drop, getD_drop] at hv
    rw [hv]
    have c1 := contB_iff s (i + 1)
    have c2 := contB_iff s (i + 2) 128 191
    have c3 := contB_iff s (i + 3) 128 191
    rcases lead_tab ⟨byteAt s i, hlt⟩ (by simpa using hb) with ⟨h1, h2, h3, h4⟩ | ⟨h1, h2, h3, h4⟩
    · have hr : rlen s i = 0 := by unfold rlen; simp only at h1; rw [h1]; rfl
      have hc : Lib.checkN (s.size - i) (byteAt s (i + 1)) (byteAt s (i + 2)) (byteAt s (i + 3)) (Lib.firstT (byteAt s i) % 8) (Lib.accLo (Lib.firstT (byteAt s i) / 16)) (Lib.accHi (Lib.firstT (byteAt s i) / 16)) = none := by
        simp only at h2 h3 h4
        unfold Lib.checkN; rw [if_neg h2, if_neg h3, if_neg h4]
      rw [hr, hc]
      exact ⟨fun _ => rfl, fun h => absurd rfl h⟩
    · simp only at h1 h2 h3 h4
      have c1' := c1 (lead (byteAt s i)).2.1 (lead (byteAt s i)).2.2
      rw [h3, h4] at c1'
      have hk := check_len (s.size - i) (byteAt s (i + 1)) (byteAt s (i + 2)) (byteAt s (i + 3)) (lead (byteAt s i)).1 (Lib.accLo (Lib.firstT (byteAt s i) / 16)) (Lib.accHi (Lib.firstT (byteAt s i) / 16)) _ _ _ (c1'.trans (by omega)) (c2.trans (by omega)) (c3.trans (by omega)) h2
      have hr : rlen s i = if (lead (byteAt s i)).1 = 2 then (if contB s (i + 1) (Lib.accLo (Lib.firstT (byteAt s i) / 16) : Nat) (Lib.accHi (Lib.firstT (byteAt s i) / 16) : Nat) then 2 else 0) else if (lead (byteAt s i)).1 = 3 then (if contB s (i + 1) (Lib.accLo (Lib.firstT (byteAt s i) / 16) : Nat) (Lib.accHi (Lib.firstT (byteAt s i) / 16) : Nat) && contB s (i + 2) 128 191 then 3 else 0) else (if contB s (i + 1) (Lib.accLo (Lib.firstT (byteAt s i) / 16) : Nat) (Lib.accHi (Lib.firstT (byteAt s i) / 16) : Nat) && contB s (i + 2) 128 191 && contB s (i + 3) 128 191 then 4 else 0) := by
        unfold rlen
        rw [h3, h4]
        rcases h2 with h2 | h2 | h2 <;> rw [h2] <;> rfl
      rw [← h1, hk.1, ← hr]
      rw [← hr] at hk
      by_cases h0 : rlen s i = 0
      · rw [if_pos h0]; exact ⟨fun _ => rfl, fun h => absurd h0 h⟩
      · rw [if_neg h0]; refine ⟨fun h => absurd h h0, fun _ => ⟨by simp only [List.drop_drop], by have := hk.2; omega⟩⟩

/-- A text of the language: not too long, and UTF-8. -/
def utfB (s : ByteArray) : Bool := decide (s.size ≤ 4096) && Lib.validD s.data.toList

theorem drop_lt (s : ByteArray) (k : Nat) (h : k < s.size) : s.data.toList.drop k ≠ [] := by
  intro e; have := congrArg List.length e; simp at this; have := ByteArray.size_data (a := s); omega
theorem drop_all (s : ByteArray) : s.data.toList.drop s.size = [] := by simp


end Go.Proofs.YtoelojmcopcpcaaGreatDoor
