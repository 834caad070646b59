/-
  Contracts of the two functions Format: of number and of the reference.
-/
import Derived.Test.YtkffpfapfljinaaGreatDoorNumText
namespace Go.Proofs.YtkffpfapfljinaaGreatDoor
open Go.RowKit
theorem tdiv10 (n : Int) (h : n < 0) : n.tdiv 10 = -((-n) / 10) := by
 rw [← Int.tdiv_eq_ediv_of_nonneg (show 0 ≤ -n by omega), Int.neg_tdiv, Int.neg_neg]
theorem tmod10 (n : Int) (h : n < 0) : n.tmod 10 = -((-n) % 10) := by
 rw [← Int.tmod_eq_emod_of_nonneg (show 0 ≤ -n by omega), Int.neg_tmod, Int.neg_neg]
theorem qau (n : Int) (h0 : 0 ≤ n) (h1 : n ≤ 9) : Lib.itoa n = [UInt8.ofNat (48 + n.toNat)] := by
 unfold Lib.itoa; rw [if_neg (by omega), Lib.decDigits_one (by omega)]
theorem qhn : ∀ (k u : Nat), u < 10 ^ (k + 1) → (Lib.decDigits u).length ≤ k + 1 := by
 intro k
 induction k with
 | zero => intro u hu; rw [Lib.decDigits_one (by simpa using hu)]; simp
 | succ k ih =>
  intro u hu
  by_cases h : u < 10
  ·rw [Lib.decDigits_one h]; simp
  ·rw [Lib.decDigits, dif_neg h, List.length_append]
   have := ih (u / 10) (Nat.div_lt_of_lt_mul (by rw [Nat.pow_succ, Nat.mul_comm] at hu; exact hu))
   simp; omega
theorem q8e (n : Int) (h0 : -9223372036854775808 ≤ n) (h1 : n ≤ 9223372036854775808) : (Lib.itoa n).length ≤ 20 := by
 unfold Lib.itoa
 split
 ·have := qhn 18 n.natAbs (by omega); simp; omega
 ·have := qhn 18 n.toNat (by omega); omega
theorem qq5 (n : Int) : (n < 0 → -10 < n → Lib.itoa n = [45] ++ Lib.itoa (-n)) ∧ (n < 0 → ¬ -10 < n → Lib.itoa n = Lib.itoa (n.tdiv 10) ++ Lib.itoa (-(n.tmod 10))) ∧ (9 < n → Lib.itoa n = Lib.itoa (n / 10) ++ Lib.itoa (n % 10)) := by
 refine ⟨fun h1 h2 => ?_, fun h1 h2 => ?_, fun h => ?_⟩
 ·rw [qau (-n) (by omega) (by omega)]
  unfold Lib.itoa; rw [if_pos h1, Lib.decDigits_one (by omega)]
  rw [show n.natAbs = (-n).toNat by omega]; rfl
 ·have e1 := tdiv10 n h1
  have e2 := tmod10 n h1
  rw [qau (-(n.tmod 10)) (by omega) (by omega)]
  unfold Lib.itoa
  rw [if_pos h1, if_pos (by omega), Lib.decDigits, dif_neg (by omega), List.cons_append]
  congr 2
  ·rw [show (n.tdiv 10).natAbs = n.natAbs / 10 by omega]
  ·rw [show (-n.tmod 10).toNat = n.natAbs % 10 by omega]
 ·rw [qau (n % 10) (by omega) (by omega)]
  unfold Lib.itoa
  rw [if_neg (by omega), if_neg (by omega), Lib.decDigits, dif_neg (by omega)]
  congr 2
  ·rw [show (n / 10).toNat = n.toNat / 10 by omega]
  ·rw [show (n % 10).toNat = n.toNat % 10 by omega]
theorem qo7 (w : World) (n : Int) (h0 : 0 ≤ n) (h1 : n ≤ 9) :
  (convert 194 9 (.slice (some ⟨w.heap.size, 0, none⟩) 1 1)).run Tryz.prog (w.alloc (.cells #[.int .u8 (48 + n)] 5)) = .ok (.string ⟨(Lib.itoa n).toArray⟩) (w.alloc (.cells #[.int .u8 (48 + n)] 5)) := by
 rw [qau n h0 h1]
 refine run_convert_bytes_back _ _ _ 5 ⟨w.heap.size, 0, none⟩ 1 [UInt8.ofNat (48 + n.toNat)] Tryz.underlying194 Tryz.underlying5 Tryz.underlying9 ?_
 intro j hj
 obtain rfl : j = 0 := by simpa using hj
 have e : ((UInt8.ofNat (48 + n.toNat)).toNat : Int) = 48 + n := by simp [UInt8.toNat_ofNat']; omega
 simp only [List.getElem_cons_zero, e]
 simp [Addr.add, go_sem]
set_option maxHeartbeats 400000 in
theorem q90 (n : Int) (w : World) (h0 : 0 ≤ n) (h1 : n ≤ 9) :
  Calls Tryz.prog 206 #[.int .i64 n] w fun e w' => e = .returned (.string ⟨(Lib.itoa n).toArray⟩) ∧ Below w.heap.size w w' := by
 have hconv := qo7 w n h0 h1
 generalize Lib.itoa n = l at *
 go_enter Tryz.func206, Tryz.ntmps206
 go_wp2
 go_ret
 exact ⟨rfl, (Below.refl _ _).alloc (Nat.le_refl _) _⟩
theorem qfl (a b : List UInt8) : ((⟨a.toArray⟩ : ByteArray) ++ ⟨b.toArray⟩) = ⟨(a ++ b).toArray⟩ := by
 apply ByteArray.ext; simp
set_option maxHeartbeats 400000 in
theorem qu4 (k : Nat) : ∀ (n : Int) (w : World), n.natAbs ≤ k → -9223372036854775808 ≤ n → n ≤ 9223372036854775807 →
  Calls Tryz.prog 206 #[.int .i64 n] w fun e w' => e = .returned (.string ⟨(Lib.itoa n).toArray⟩) ∧ Below w.heap.size w w' := by
 induction k with
 | zero => intro n w hk _ _; exact q90 n w (by omega) (by omega)
 | succ k ih =>
  intro n w hk hlo hhi
  by_cases d : 0 ≤ n ∧ n ≤ 9
  ·exact q90 n w d.1 d.2
  ·have IH := Lib.hid ih
   clear ih
   have CASE := Lib.hid (qq5 n)
   by_cases d1 : n < 0
   ·by_cases d2 : -10 < n
    ·clear d
     have L1 := q8e (-n) (by omega) (by omega)
     go_enter Tryz.func206, Tryz.ntmps206
     go_wp2_with fail
     refine (q90 _ _ (by omega) (by omega)).mono ?_
     rintro e w1 ⟨rfl, hb⟩
     have HB := Lib.hid hb
     clear hb
     generalize hi : Lib.itoa (-n) = l at *
     clear hi
     go_wp2_with fail
     go_ret
     exact ⟨by rw [CASE.out.1 d1 d2, ← qfl]; rfl, HB.out⟩
    ·clear d
     have B1 := tdiv10 n d1
     have B2 := tmod10 n d1
     have B3 : -922337203685477581 ≤ n.tdiv 10 ∧ n.tdiv 10 ≤ -1 ∧ (n.tdiv 10).natAbs ≤ k := by omega
     have B4 : -9 ≤ n.tmod 10 ∧ n.tmod 10 ≤ 0 := by omega
     clear B1 B2
     have L1 := q8e (n.tdiv 10) (by omega) (by omega)
     have L2 := q8e (-(n.tmod 10)) (by omega) (by omega)
     go_enter Tryz.func206, Tryz.ntmps206
     go_wp2_with fail
     refine (IH.out _ _ (by omega) (by omega) (by omega)).mono ?_
     rintro e w1 ⟨rfl, hb⟩
     have HB := Lib.hid hb
     clear hb
     generalize hi : Lib.itoa (n.tdiv 10) = l at *
     clear hi
     go_wp2_with fail
     refine (q90 _ _ (by omega) (by omega)).mono ?_
     rintro e w2 ⟨rfl, hb⟩
     have HB2 := Lib.hid hb
     clear hb
     generalize hi : Lib.itoa (-(n.tmod 10)) = m at *
     clear hi
     go_wp2_with fail
     go_ret
     exact ⟨by rw [CASE.out.2.1 d1 d2, ← qfl]; rfl, HB.out.trans (HB2.out.mono HB.out.size)⟩
   ·have L1 := q8e (n / 10) (by omega) (by omega)
    have L2 := q8e (n % 10) (by omega) (by omega)
    have d2 : 9 < n := by omega
    clear d
    go_enter Tryz.func206, Tryz.ntmps206
    go_wp2_with fail
    refine (IH.out _ _ (by omega) (by omega) (by omega)).mono ?_
    rintro e w1 ⟨rfl, hb⟩
    have HB := Lib.hid hb
    clear hb
    generalize hi : Lib.itoa (n / 10) = l at *
    clear hi
    go_wp2_with fail
    refine (q90 _ _ (by omega) (by omega)).mono ?_
    rintro e w2 ⟨rfl, hb⟩
    have HB2 := Lib.hid hb
    clear hb
    generalize hi : Lib.itoa (n % 10) = m at *
    clear hi
    go_wp2_with fail
    go_ret
    exact ⟨by rw [CASE.out.2.2 d2, ← qfl]; rfl, HB.out.trans (HB2.out.mono HB.out.size)⟩
theorem qu3 (n : Int) (w : World) (h0 : -9223372036854775808 ≤ n) (h1 : n ≤ 9223372036854775807) :
  Calls Tryz.prog 206 #[.int .i64 n] w fun e w' => e = .returned (.string ⟨(Lib.itoa n).toArray⟩) ∧ Below w.heap.size w w' :=
 qu4 n.natAbs n w (Nat.le_refl _) h0 h1
end Go.Proofs.YtkffpfapfljinaaGreatDoor
