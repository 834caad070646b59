/-
  The plain mathematics of layer 1: no program in sight.
-/
import Derived.Lib.ItoaNum
import Derived.Lib.ParseIntB
namespace Go.Proofs.YtkffpfapfljinaaGreatDoor.NumPlain
def validB (n : Int) : Bool := decide (-9007199254740992 ≤ n ∧ n ≤ 9007199254740992)
def right (n : Int) : Int × Int := if validB n then (n, 0) else (0, 5)
def add (a b : Int) : Int × Int := if validB a && validB b then right (a + b) else (0, 1)
def sub (a b : Int) : Int × Int := if validB a && validB b then right (a - b) else (0, 1)
def mul (a b : Int) : Int × Int := if validB a && validB b then right (a * b) else (0, 1)
theorem validB_iff (n : Int) : validB n = true ↔ -9007199254740992 ≤ n ∧ n ≤ 9007199254740992 := by simp [validB]
theorem validB_no {n : Int} (h : ¬ (-9007199254740992 ≤ n ∧ n ≤ 9007199254740992)) : validB n = false := by simpa [validB] using h
def size (n : Int) : Int := if n < 0 then -n else n
theorem qfb {n : Int} (h : n ≠ 0) : 1 ≤ size n := by unfold size; split <;> omega
def isDig (c : UInt8) : Bool := decide (48 ≤ c.toNat ∧ c.toNat ≤ 57)
def decV : List UInt8 → Nat → Nat
 | [], acc => acc
 | c :: r, acc => decV r (acc * 10 + (c.toNat - 48))
def decVal (acc : Nat) (l : List UInt8) : Nat := decV l acc
theorem decVal_nil (acc : Nat) : decVal acc [] = acc := rfl
theorem decVal_cons (acc : Nat) (c : UInt8) (r : List UInt8) : decVal acc (c :: r) = decVal (acc * 10 + (c.toNat - 48)) r := by simp only [decVal, decV]
def canonU (t : List UInt8) : Bool := t.all isDig && !t.isEmpty && (t.headD 0 != 48 || t.length == 1)
def canonB (l : List UInt8) : Bool := if l.headD 0 = 45 then l.tail != [48] && canonU l.tail else canonU l
def sval (l : List UInt8) : Int := if l.headD 0 = 45 then -(decVal 0 l.tail : Int) else decVal 0 l
theorem decVal_append (l m : List UInt8) : ∀ acc : Nat, decVal acc (l ++ m) = decVal (decVal acc l) m := by
 induction l with
 | nil => intro acc; rfl
 | cons c r ih => intro acc; rw [List.cons_append, decVal_cons, decVal_cons, ih]
theorem decVal_snoc (acc : Nat) (l : List UInt8) (c : UInt8) : decVal acc (l ++ [c]) = decVal acc l * 10 + (c.toNat - 48) := by
 rw [decVal_append, decVal_cons, decVal_nil]
theorem decVal_le (acc : Nat) (l : List UInt8) : acc ≤ decVal acc l := by
 induction l generalizing acc with
 | nil => exact Nat.le_refl _
 | cons c r ih => exact Nat.le_trans (by omega) (ih _)
theorem decVal_pow (acc : Nat) (l : List UInt8) : acc * 10 ^ l.length ≤ decVal acc l := by
 induction l generalizing acc with
 | nil => simp [decVal_nil]
 | cons c r ih =>
  refine Nat.le_trans ?_ (ih _)
  rw [List.length_cons, Nat.pow_succ, Nat.mul_comm (10 ^ _) 10, ← Nat.mul_assoc]
  exact Nat.mul_le_mul_right _ (by omega)
theorem decVal_lt (acc : Nat) (l : List UInt8) (h : l.all isDig = true) : decVal acc l < (acc + 1) * 10 ^ l.length := by
 induction l generalizing acc with
 | nil => simp [decVal_nil]
 | cons c r ih =>
  simp only [List.all_cons, Bool.and_eq_true, isDig, decide_eq_true_eq] at h
  refine Nat.lt_of_lt_of_le (ih _ (by simpa [isDig] using h.2)) ?_
  rw [List.length_cons, Nat.pow_succ, Nat.mul_comm (10 ^ _) 10, ← Nat.mul_assoc]
  exact Nat.mul_le_mul_right _ (by omega)
theorem parseUintM_dig (acc : Nat) (l : List UInt8) (h : l.all isDig = true) (ha : acc ≤ 18446744073709551615) :
  Lib.parseUintM 18446744073709551615 acc l = if decVal acc l ≤ 18446744073709551615 then .ok (decVal acc l) else .range := by
 induction l generalizing acc with
 | nil => simp [Lib.parseUintM, decVal_nil, ha]
 | cons c r ih =>
  simp only [List.all_cons, Bool.and_eq_true] at h
  have hc : 48 ≤ c.toNat ∧ c.toNat ≤ 57 := by simpa [isDig] using h.1
  have hle := decVal_le (acc * 10 + (c.toNat - 48)) r
  have e : decVal acc (c :: r) = decVal (acc * 10 + (c.toNat - 48)) r := decVal_cons _ _ _
  rw [e]
  simp only [Lib.parseUintM, hc, and_self, if_true]
  split
  ·rw [if_neg (by omega)]
  ·split
   ·rw [if_neg (by omega)]
   ·exact ih _ h.2 (by omega)
theorem canonU_parts {t : List UInt8} (h : canonU t = true) : t.all isDig = true ∧ t ≠ [] ∧ (t.headD 0 ≠ 48 ∨ t.length = 1) := by
 simp only [canonU, Bool.and_eq_true, Bool.or_eq_true] at h
 exact ⟨h.1.1, by rintro rfl; simp at h, by simpa using h.2⟩
theorem head_dig {t : List UInt8} (h : canonU t = true) : isDig (t.headD 0) = true := by
 obtain ⟨h1, h2, _⟩ := canonU_parts h
 cases t with
 | nil => exact absurd rfl h2
 | cons c r => simp only [List.all_cons, Bool.and_eq_true] at h1; exact h1.1
theorem canonB_pos {l : List UInt8} (h : canonU l = true) : canonB l = true ∧ sval l = decVal 0 l ∧ l.headD 0 ≠ 45 ∧ l.headD 0 ≠ 43 := by
 have := head_dig h
 have hd : l.headD 0 ≠ 45 := by intro e; rw [e] at this; exact absurd this (by decide)
 have hp : l.headD 0 ≠ 43 := by intro e; rw [e] at this; exact absurd this (by decide)
 refine ⟨?_, ?_, hd, hp⟩
 ·unfold canonB; rw [if_neg hd]; exact h
 ·unfold sval; rw [if_neg hd]
theorem canonU_big {t : List UInt8} (h : canonU t = true) (hl : 16 < t.length) : 9007199254740992 < decVal 0 t := by
 obtain ⟨h1, h2, h3⟩ := canonU_parts h
 cases t with
 | nil => exact absurd rfl h2
 | cons c r =>
  simp only [List.all_cons, Bool.and_eq_true] at h1
  have hc : 48 ≤ c.toNat ∧ c.toNat ≤ 57 := by simpa [isDig] using h1.1
  have hz : c ≠ 48 := by
   rcases h3 with h3 | h3
   ·simpa using h3
   ·simp at h3; subst h3; simp at hl
  have hz' : c.toNat ≠ 48 := fun e => hz (by apply UInt8.toNat_inj.1; rw [e]; rfl)
  have hp := decVal_pow (0 * 10 + (c.toNat - 48)) r
  have hpow : 10 ^ 16 ≤ 10 ^ r.length := Nat.pow_le_pow_right (by decide) (by simp at hl; omega)
  have : 1 * 10 ^ 16 ≤ (0 * 10 + (c.toNat - 48)) * 10 ^ r.length := Nat.mul_le_mul (by omega) hpow
  rw [decVal_cons]
  omega
theorem parseIntB_canon {l : List UInt8} (h : canonB l = true) :
  Lib.parseIntB 64 l = if -9223372036854775808 ≤ sval l ∧ sval l ≤ 9223372036854775807 then .ok (sval l) else .range := by
 cases l with
 | nil => simp [canonB, canonU] at h
 | cons c r =>
  by_cases hc : c = 45
  ·subst hc
   have hu : canonU r = true := by simp [canonB] at h; exact h.2
   obtain ⟨h1, h2, _⟩ := canonU_parts hu
   have hp : Lib.parseUintB 64 r = (if decVal 0 r ≤ 18446744073709551615 then .ok (decVal 0 r) else .range) := by unfold Lib.parseUintB; rw [if_neg h2]; exact parseUintM_dig 0 r h1 (by omega)
   have hs : sval (45 :: r) = -(decVal 0 r : Int) := by simp [sval]
   simp only [Lib.parseIntB, show (45 : UInt8).toNat = 45 from rfl, hs]
   simp only [or_true, if_true, hp]
   by_cases hb : decVal 0 r ≤ 18446744073709551615
   ·simp only [hb, if_true]
    by_cases hb2 : decVal 0 r ≤ 9223372036854775808
    ·simp [Nat.not_lt.2 hb2]; omega
    ·simp [Nat.not_le.1 hb2]; omega
   ·simp only [hb, if_false]; rw [if_neg (by omega)]
  ·have hu : canonU (c :: r) = true := by simpa [canonB, hc] using h
   obtain ⟨h1, h2, _⟩ := canonU_parts hu
   obtain ⟨_, hs, _, h43⟩ := canonB_pos hu
   have e45 : ¬ c.toNat = 45 := fun e => hc (by apply UInt8.toNat_inj.1; rw [e]; rfl)
   have e43 : ¬ c.toNat = 43 := fun e => h43 (by apply UInt8.toNat_inj.1; simp [e])
   have hp : Lib.parseUintB 64 (c :: r) = (if decVal 0 (c :: r) ≤ 18446744073709551615 then .ok (decVal 0 (c :: r)) else .range) := by unfold Lib.parseUintB; rw [if_neg h2]; exact parseUintM_dig 0 (c :: r) h1 (by omega)
   rw [hs]
   simp only [Lib.parseIntB, e45, e43, or_self, if_false, hp]
   by_cases hb : decVal 0 (c :: r) ≤ 18446744073709551615
   ·simp only [hb, if_true]
    by_cases hb2 : decVal 0 (c :: r) < 9223372036854775808
    ·simp [Nat.not_le.2 hb2]; omega
    ·simp [Nat.not_lt.1 hb2]; omega
   ·simp only [hb, if_false]; rw [if_neg (by omega)]
theorem isDig_iff (c : UInt8) : isDig c = true ↔ 48 ≤ (c.toNat : Int) ∧ (c.toNat : Int) ≤ 57 := by unfold isDig; rw [decide_eq_true_iff]; omega
theorem take_all_snoc (t : ByteArray) (k : Nat) (h : k < t.size) : (t.data.toList.take (k + 1)).all isDig = ((t.data.toList.take k).all isDig && isDig t[k]) := by
 rw [List.take_succ_eq_append_getElem (by simpa using h), List.all_append]
 simp; rfl
theorem all_of_take (t : ByteArray) (k : Nat) (h : ¬ k < t.size) (ha : (t.data.toList.take k).all isDig = true) : t.data.toList.all isDig = true := by
 rw [List.take_of_length_le (by simp; exact Nat.le_of_not_lt h)] at ha; exact ha
theorem not_all (t : ByteArray) (k : Nat) (h : k < t.size) (hb : isDig t[k] = false) : t.data.toList.all isDig = false := by
 rw [List.all_eq_false]
 exact ⟨t[k], by simp [ByteArray.getElem_eq_getElem_data], by simp [hb]⟩
theorem canonU_bad {l : List UInt8} (h : l.all isDig = false) : canonU l = false := by simp only [canonU, h, Bool.false_and]
theorem headD_data (t : ByteArray) (h : 0 < t.size) : t.data.toList.headD 0 = t[0] := by
 have hl : 0 < t.data.toList.length := by rw [Array.length_toList, ByteArray.size_data]; exact h
 rw [List.headD_eq_head?_getD, List.head?_eq_getElem?, List.getElem?_eq_getElem hl]
 rfl
theorem canonU_empty (t : ByteArray) (h : ¬ 0 < t.size) : canonU t.data.toList = false := by
 have : t.data.toList = [] := List.eq_nil_of_length_eq_zero (by rw [Array.length_toList, ByteArray.size_data]; omega)
 rw [this]; rfl
theorem canonU_full (t : ByteArray) (h : 0 < t.size) (ha : t.data.toList.all isDig = true) : canonU t.data.toList = (decide (t[0] ≠ 48) || decide (t.size = 1)) := by
  have hn : t.data.toList.isEmpty = false := by
    cases hl : t.data.toList with
    | nil => have : t.data.toList.length = 0 := by rw [hl]; rfl
             rw [Array.length_toList, ByteArray.size_data] at this; omega
    | cons a b => rfl
  simp only [canonU, ha, hn, headD_data t h, Array.length_toList, ByteArray.size_data, Bool.true_and, Bool.not_false]
  congr 1
  by_cases e : t[0] = 48 <;> simp [e]
theorem toNat_int (c : UInt8) (k : Nat) (hk : k < 256) : c = UInt8.ofNat k ↔ (c.toNat : Int) = k := by
 constructor
 ·rintro rfl; simp; omega
 ·intro h; apply UInt8.toNat_inj.1; simp; omega
theorem data_ne (t : ByteArray) (h : 0 < t.size) : t.data.toList.isEmpty = false := by
  cases hl : t.data.toList with
  | nil => have : t.data.toList.length = 0 := by rw [hl]; rfl
           rw [Array.length_toList, ByteArray.size_data] at this; omega
  | cons a b => rfl
theorem data_none (t : ByteArray) (h : ¬ 0 < t.size) : t.data.toList.isEmpty = true := by
 have : t.data.toList = [] := List.eq_nil_of_length_eq_zero (by rw [Array.length_toList, ByteArray.size_data]; omega)
 rw [this]; rfl
theorem canonB_none (t : ByteArray) (h : ¬ 0 < t.size) : canonB t.data.toList = false := by
 have : t.data.toList = [] := List.eq_nil_of_length_eq_zero (by rw [Array.length_toList, ByteArray.size_data]; omega)
 rw [this]; rfl
theorem canonB_zero {l : List UInt8} (h : l.headD 0 = 45) (h2 : l.tail = [48]) : canonB l = false := by
 unfold canonB; rw [if_pos h, h2]; rfl
theorem canonB_minus {l : List UInt8} (h : l.headD 0 = 45) (h2 : ¬ l.tail = [48]) : canonB l = canonU l.tail := by
 unfold canonB; rw [if_pos h]; simp [h2]
theorem canonB_plus {l : List UInt8} (h : ¬ l.headD 0 = 45) : canonB l = canonU l := by
 unfold canonB; rw [if_neg h]
theorem canonU_one {l : List UInt8} (h : l = [48]) : canonU l = true := by rw [h]; rfl
theorem canonU_other (t : ByteArray) (h : 0 < t.size) (ha : t.data.toList.all isDig = true) (hn : ¬ t.data.toList = [48]) : canonU t.data.toList = decide (t[0] ≠ 48) := by
 rw [canonU_full t h ha]
 by_cases e : t[0] = 48
 ·have : ¬ t.size = 1 := by
   intro h1
   apply hn
   have hl : t.data.toList.length = 1 := by rw [Array.length_toList, ByteArray.size_data]; exact h1
   have hh := headD_data t h
   rw [e] at hh
   match hm : t.data.toList, hl with
   | [a], _ => rw [hm] at hh; simp at hh; rw [hh]
  simp [e, this]
 ·simp [e]
def parse (l : List UInt8) : Int × Int := if canonB l then right (sval l) else (0, 2)
def canonUB (s : ByteArray) : Bool := canonU s.data.toList
def parseB (s : ByteArray) : Int × Int := parse s.data.toList
def decB (t : ByteArray) (k : Nat) : Nat := decVal 0 (t.data.toList.take k)
theorem decB_succ (t : ByteArray) (k : Nat) (h : k < t.size) : decB t (k + 1) = decB t k * 10 + (t[k].toNat - 48) := by
 unfold decB
 rw [List.take_succ_eq_append_getElem (by simpa using h), decVal_snoc]; rfl
theorem take_dig {t : ByteArray} (h : t.data.toList.all isDig = true) (k : Nat) : (t.data.toList.take k).all isDig = true := by
 rw [List.all_eq_true] at h ⊢
 exact fun x hx => h x (List.mem_of_mem_take hx)
theorem decB_bd {t : ByteArray} (h : t.data.toList.all isDig = true) (k : Nat) (hk : k ≤ 16) : decB t k < 10000000000000000 := by
 have h1 := decVal_lt 0 (t.data.toList.take k) (take_dig h k)
 have h2 : (t.data.toList.take k).length ≤ 16 := Nat.le_trans (List.length_take_le _ _) hk
 have h3 : 10 ^ (t.data.toList.take k).length ≤ 10 ^ 16 := Nat.pow_le_pow_right (by decide) h2
 unfold decB; omega
theorem decB_all (t : ByteArray) : decB t t.size = decVal 0 t.data.toList := by
 unfold decB; rw [List.take_of_length_le (by simp)]
theorem dig_at {t : ByteArray} (h : t.data.toList.all isDig = true) (k : Nat) (hk : k < t.size) : 48 ≤ (t[k].toNat : Int) ∧ (t[k].toNat : Int) ≤ 57 := by
 rw [List.all_eq_true] at h
 exact (isDig_iff _).1 (h t[k] (by simp [ByteArray.getElem_eq_getElem_data]))
structure Behind (s t : ByteArray) (minus : Bool) : Prop where
 bad : canonUB t = false → parseB s = (0, 2)
 zero : minus = true → t.data.toList = [48] → parseB s = (0, 2)
 good : canonUB t = true → (minus = true → ¬ t.data.toList = [48]) → parseB s = right (if minus then -(decVal 0 t.data.toList : Int) else decVal 0 t.data.toList)
theorem behind_minus {s t : ByteArray} (h : s.data.toList.headD 0 = 45) (ht : t.data.toList = s.data.toList.tail) : Behind s t true := by
 constructor
 ·intro hb
  unfold canonUB at hb
  have : canonB s.data.toList = false := by unfold canonB; rw [if_pos h, ← ht, hb]; simp
  simp [parseB, parse, this]
 ·intro _ hz
  have : canonB s.data.toList = false := by unfold canonB; rw [if_pos h, ← ht, hz]; rfl
  simp [parseB, parse, this]
 ·intro hg hz
  unfold canonUB at hg
  have : canonB s.data.toList = true := by unfold canonB; rw [if_pos h, ← ht, hg]; simp [hz rfl]
  simp only [parseB, parse, this, if_true, sval, h, ← ht]
theorem behind_plus {s : ByteArray} (h : ¬ s.data.toList.headD 0 = 45) : Behind s s false := by
 constructor
 ·intro hb
  unfold canonUB at hb
  have : canonB s.data.toList = false := by unfold canonB; rw [if_neg h, hb]
  simp [parseB, parse, this]
 ·intro h; cases h
 ·intro hg _
  unfold canonUB at hg
  have : canonB s.data.toList = true := by unfold canonB; rw [if_neg h, hg]
  simp only [parseB, parse, this, if_true, sval, if_neg h]; rfl
theorem canonUB_dig {t : ByteArray} (h : canonUB t = true) : t.data.toList.all isDig = true := (canonU_parts h).1
theorem canonUB_big {t : ByteArray} (h : canonUB t = true) (hl : 16 < t.size) : 9007199254740992 < decVal 0 t.data.toList := canonU_big h (by rw [Array.length_toList, ByteArray.size_data]; exact hl)
theorem right_big (minus : Bool) {n : Nat} (h : 9007199254740992 < n) : right (if minus then -(n : Int) else n) = (0, 5) := by
 have : validB (if minus then -(n : Int) else n) = false := validB_no (by cases minus <;> simp <;> omega)
 simp only [right, this]; rfl
theorem right_cases (n : Int) : (right n = (n, 0) ∧ validB n = true) ∨ right n = (0, 5) := by
 cases h : validB n with
 | true => exact .inl ⟨by simp [right, h], rfl⟩
 | false => exact .inr (by simp [right, h])
end Go.Proofs.YtkffpfapfljinaaGreatDoor.NumPlain
