/-
  The walks of the seven laws of layer 1: each answers true.
-/
import Derived.Test.YtogihaefhdcgbaaDoorNumAwake
namespace Go.Proofs.YtogihaefhdcgbaaDoor
open Go.RowKit

theorem below_then {w w1 w2 : World} (h : Below w.heap.size w w1) (k : Below w1.heap.size w1 w2) : Below w.heap.size w w2 := h.trans (k.mono h.size)

set_option maxHeartbeats 800000 in
theorem law_NumberArith (a b : Int) (w : World) (hE : Env w) :
    Calls Tryd.prog 7 #[.int .i64 a, .int .i64 b] w fun e w' => e = .returned (.bool true) ∧ Below w.heap.size w w' := by
  have HE0 := Lib.hid hE
  clear hE
  go_enter Tryd.func7, Tryd.ntmps7
  go_wp2_with fail
  refine (add_any _ _ _).mono ?_
  rintro e w' ⟨rfl, rfl⟩
  go_wp2_with fail
  refine (radd_any _ _ _).mono ?_
  rintro e w' ⟨rfl, rfl⟩
  go_wp2_with fail
  refine (sub_any _ _ _).mono ?_
  rintro e w' ⟨rfl, rfl⟩
  go_wp2_with fail
  refine (rsub_any _ _ _).mono ?_
  rintro e w' ⟨rfl, rfl⟩
  go_wp2_with fail
  refine (mul_any _ _ _).mono ?_
  rintro e w' ⟨rfl, rfl⟩
  go_wp2_with fail
  refine (rmul_any _ _ _).mono ?_
  rintro e w' ⟨rfl, rfl⟩
  go_wp2_with fail
  refine (div_any _ _ _).mono ?_
  rintro e w' ⟨rfl, rfl⟩
  go_wp2_with fail
  refine (rdiv_any _ _ _).mono ?_
  rintro e w' ⟨rfl, rfl⟩
  go_wp2_with fail
  refine (mod_any _ _ _).mono ?_
  rintro e w' ⟨rfl, rfl⟩
  go_wp2_with fail
  refine (rmod_any _ _ _).mono ?_
  rintro e w' ⟨rfl, rfl⟩
  go_wp2_with fail
  refine (awake_any _ HE0.out).mono ?_
  rintro e w1 ⟨rfl, hb1⟩
  have HB1 := Lib.hid hb1
  have HE1 := Lib.hid (HE0.out.keep hb1)
  clear hb1
  go_wp2_with fail
  go_ret
  exact ⟨rfl, HB1.out⟩
set_option maxHeartbeats 800000 in
theorem law_NumberTexts (n : Int) (s : ByteArray) (w : World) (hE : Env w) (h0 : -9223372036854775808 ≤ n) (h1 : n ≤ 9223372036854775807) (hs : s.size ≤ 281474976710656) :
    Calls Tryd.prog 3 #[.int .i64 n, .string s] w fun e w' => e = .returned (.bool true) ∧ Below w.heap.size w w' := by
  have HE0 := Lib.hid hE
  clear hE
  by_cases hl : 300 < s.size
  · have hl' : (300 : Int) < s.size := by omega
    go_enter Tryd.func3, Tryd.ntmps3
    go_wp2_with fail
    refine (awake_any _ HE0.out).mono ?_
    rintro e w1 ⟨rfl, hb1⟩
    have HB1 := Lib.hid hb1
    have HE1 := Lib.hid (HE0.out.keep hb1)
    clear hb1
    go_wp2_with fail
    go_ret
    exact ⟨rfl, HB1.out⟩
  · have hl' : ¬ (300 : Int) < s.size := by omega
    go_enter Tryd.func3, Tryd.ntmps3
    go_wp2_with fail
    refine (parse_any _ _ hs HE0.out).mono ?_
    rintro e w1 ⟨rfl, hb1⟩
    have HB1 := Lib.hid hb1
    have HE1 := Lib.hid (HE0.out.keep hb1)
    clear hb1
    go_wp2_with fail
    refine (rparse_any _ _ (by unfold maxLen; omega)).mono ?_
    rintro e w' ⟨rfl, rfl⟩
    go_wp2_with fail
    refine (valid_any _ _).mono ?_
    rintro e w' ⟨rfl, rfl⟩
    go_wp2_with fail
    refine (rvalid_any _ _).mono ?_
    rintro e w' ⟨rfl, rfl⟩
    go_wp2_with fail
    refine (format_any _ _ h0 h1 HE1.out).mono ?_
    rintro e w2 ⟨rfl, hb2⟩
    have HB2 := Lib.hid hb2
    have HE2 := Lib.hid (HE1.out.keep hb2)
    clear hb2
    go_wp2_with fail
    refine (rformat_all _ _ h0 h1).mono ?_
    rintro e w3 ⟨rfl, hb3⟩
    have HB3 := Lib.hid hb3
    have HE3 := Lib.hid (HE2.out.keep hb3)
    clear hb3
    go_wp2_with fail
    refine (awake_any _ HE3.out).mono ?_
    rintro e w4 ⟨rfl, hb4⟩
    have HB4 := Lib.hid hb4
    have HE4 := Lib.hid (HE3.out.keep hb4)
    clear hb4
    go_wp2_with fail
    go_ret
    exact ⟨rfl, (below_then (below_then (below_then HB1.out HB2.out) HB3.out) HB4.out)⟩
theorem size_itoa (n : Int) (h0 : -9223372036854775808 ≤ n) (h1 : n ≤ 9223372036854775807) : (⟨(Lib.itoa n).toArray⟩ : ByteArray).size ≤ 281474976710656 := by
  have := itoa_len n h0 (by omega)
  show (Lib.itoa n).toArray.size ≤ _
  simp; omega
theorem parse_itoa (n : Int) : NumPlain.parseB ⟨(Lib.itoa n).toArray⟩ = NumPlain.right n := by
  obtain ⟨h1, h2⟩ := NumPlain.itoa_canon n
  simp [NumPlain.parseB, NumPlain.parse, h1, h2]
set_option maxHeartbeats 800000 in
theorem law_NumberBack (n : Int) (w : World) (hE : Env w) (h0 : -9223372036854775808 ≤ n) (h1 : n ≤ 9223372036854775807) :
    Calls Tryd.prog 4 #[.int .i64 n] w fun e w' => e = .returned (.bool true) ∧ Below w.heap.size w w' := by
  have HE0 := Lib.hid hE
  clear hE
  have HS := Lib.hid (size_itoa n h0 h1)
  have HP := Lib.hid (parse_itoa n)
  cases hv : NumPlain.validB n
  · have HR := Lib.hid (show NumPlain.right n = (0, 5) by simp [NumPlain.right, hv])
    have HV := Lib.hid hv
    clear hv
    go_enter Tryd.func4, Tryd.ntmps4
    go_wp2_with fail
    refine (format_any _ _ h0 h1 HE0.out).mono ?_
    rintro e w1 ⟨rfl, hb1⟩
    have HB1 := Lib.hid hb1
    have HE1 := Lib.hid (HE0.out.keep hb1)
    clear hb1
    go_wp2_with fail
    refine (parse_any _ _ HS.out HE1.out).mono ?_
    rw [HP.out, HR.out]
    rintro e w2 ⟨rfl, hb2⟩
    have HB2 := Lib.hid hb2
    have HE2 := Lib.hid (HE1.out.keep hb2)
    clear hb2
    go_wp2_with fail
    refine (valid_any _ _).mono ?_
    rw [HV.out]
    rintro e w' ⟨rfl, rfl⟩
    go_wp2_with fail
    refine (awake_any _ HE2.out).mono ?_
    rintro e w3 ⟨rfl, hb3⟩
    have HB3 := Lib.hid hb3
    have HE3 := Lib.hid (HE2.out.keep hb3)
    clear hb3
    go_wp2_with fail
    go_ret
    exact ⟨rfl, (below_then (below_then HB1.out HB2.out) HB3.out)⟩
  · have HR := Lib.hid (show NumPlain.right n = (n, 0) by simp [NumPlain.right, hv])
    have HV := Lib.hid hv
    clear hv
    go_enter Tryd.func4, Tryd.ntmps4
    go_wp2_with fail
    refine (format_any _ _ h0 h1 HE0.out).mono ?_
    rintro e w1 ⟨rfl, hb1⟩
    have HB1 := Lib.hid hb1
    have HE1 := Lib.hid (HE0.out.keep hb1)
    clear hb1
    go_wp2_with fail
    refine (parse_any _ _ HS.out HE1.out).mono ?_
    rw [HP.out, HR.out]
    rintro e w2 ⟨rfl, hb2⟩
    have HB2 := Lib.hid hb2
    have HE2 := Lib.hid (HE1.out.keep hb2)
    clear hb2
    go_wp2_with fail
    refine (valid_any _ _).mono ?_
    rw [HV.out]
    rintro e w' ⟨rfl, rfl⟩
    go_wp2_with fail
    refine (awake_any _ HE2.out).mono ?_
    rintro e w3 ⟨rfl, hb3⟩
    have HB3 := Lib.hid hb3
    have HE3 := Lib.hid (HE2.out.keep hb3)
    clear hb3
    go_wp2_with fail
    go_ret
    exact ⟨rfl, (below_then (below_then HB1.out HB2.out) HB3.out)⟩
set_option maxHeartbeats 800000 in
theorem law_NumberCanonical (s : ByteArray) (w : World) (hE : Env w) (hs : s.size ≤ 281474976710656) :
    Calls Tryd.prog 5 #[.string s] w fun e w' => e = .returned (.bool true) ∧ Below w.heap.size w w' := by
  have HE0 := Lib.hid hE
  clear hE
  by_cases hl : 300 < s.size
  · have hl' : (300 : Int) < s.size := by omega
    go_enter Tryd.func5, Tryd.ntmps5
    go_wp2_with fail
    refine (awake_any _ HE0.out).mono ?_
    rintro e w1 ⟨rfl, hb1⟩
    have HB1 := Lib.hid hb1
    have HE1 := Lib.hid (HE0.out.keep hb1)
    clear hb1
    go_wp2_with fail
    go_ret
    exact ⟨rfl, HB1.out⟩
  · have hl' : ¬ (300 : Int) < s.size := by omega
    cases hc : NumPlain.canonB s.data.toList with
    | false =>
      have HP := Lib.hid (show NumPlain.parseB s = (0, 2) by simp [NumPlain.parseB, NumPlain.parse, hc])
      clear hc
      go_enter Tryd.func5, Tryd.ntmps5
      go_wp2_with fail
      refine (parse_any _ _ hs HE0.out).mono ?_
      rw [HP.out]
      rintro e w1 ⟨rfl, hb1⟩
      have HB1 := Lib.hid hb1
      have HE1 := Lib.hid (HE0.out.keep hb1)
      clear hb1
      go_wp2_with fail
      refine (awake_any _ HE1.out).mono ?_
      rintro e w2 ⟨rfl, hb2⟩
      have HB2 := Lib.hid hb2
      have HE2 := Lib.hid (HE1.out.keep hb2)
      clear hb2
      go_wp2_with fail
      go_ret
      exact ⟨rfl, (below_then HB1.out HB2.out)⟩
    | true =>
      have HC := Lib.hid (NumPlain.canon_itoa hc)
      have HP := Lib.hid (show NumPlain.parseB s = NumPlain.right (NumPlain.sval s.data.toList) by simp [NumPlain.parseB, NumPlain.parse, hc])
      clear hc
      generalize NumPlain.sval s.data.toList = v at *
      cases hv : NumPlain.validB v
      · have HR := Lib.hid (show NumPlain.right v = (0, 5) by simp [NumPlain.right, hv])
        clear hv
        go_enter Tryd.func5, Tryd.ntmps5
        go_wp2_with fail
        refine (parse_any _ _ hs HE0.out).mono ?_
        rw [HP.out, HR.out]
        rintro e w1 ⟨rfl, hb1⟩
        have HB1 := Lib.hid hb1
        have HE1 := Lib.hid (HE0.out.keep hb1)
        clear hb1
        go_wp2_with fail
        refine (awake_any _ HE1.out).mono ?_
        rintro e w2 ⟨rfl, hb2⟩
        have HB2 := Lib.hid hb2
        have HE2 := Lib.hid (HE1.out.keep hb2)
        clear hb2
        go_wp2_with fail
        go_ret
        exact ⟨rfl, (below_then HB1.out HB2.out)⟩
      · have HR := Lib.hid (show NumPlain.right v = (v, 0) by simp [NumPlain.right, hv])
        have HV := Lib.hid hv
        have hb := (NumPlain.validB_iff v).1 hv
        have HS := Lib.hid (show (⟨(Lib.itoa v).toArray⟩ : ByteArray) = s by rw [HC.out])
        clear hv
        go_enter Tryd.func5, Tryd.ntmps5
        go_wp2_with fail
        refine (parse_any _ _ hs HE0.out).mono ?_
        rw [HP.out, HR.out]
        rintro e w1 ⟨rfl, hb1⟩
        have HB1 := Lib.hid hb1
        have HE1 := Lib.hid (HE0.out.keep hb1)
        clear hb1
        go_wp2_with fail
        refine (valid_any _ _).mono ?_
        rw [HV.out]
        rintro e w' ⟨rfl, rfl⟩
        go_wp2_with fail
        refine (format_any _ _ (by omega) (by omega) HE1.out).mono ?_
        rw [HS.out]
        rintro e w2 ⟨rfl, hb2⟩
        have HB2 := Lib.hid hb2
        have HE2 := Lib.hid (HE1.out.keep hb2)
        clear hb2
        go_wp2_with fail
        refine (awake_any _ HE2.out).mono ?_
        rintro e w3 ⟨rfl, hb3⟩
        have HB3 := Lib.hid hb3
        have HE3 := Lib.hid (HE2.out.keep hb3)
        clear hb3
        go_wp2_with fail
        go_ret
        exact ⟨rfl, (below_then (below_then HB1.out HB2.out) HB3.out)⟩
set_option maxHeartbeats 800000 in
theorem law_NumberDivides (a b : Int) (w : World) (hE : Env w) :
    Calls Tryd.prog 6 #[.int .i64 a, .int .i64 b] w fun e w' => e = .returned (.bool true) ∧ Below w.heap.size w w' := by
  have HE0 := Lib.hid hE
  clear hE
  rcases NumPlain.div_cases a b with ⟨h1, h2, h3⟩ | ⟨h1, h2, h3⟩ | ⟨h1, h2, h3, h4, h5, h6, h7, h8⟩
  · have HD := Lib.hid h1
    have HM := Lib.hid h2
    clear h1 h2
    by_cases hb0 : b = 0
    all_goals
      first | have t0 : (b == 0) = true := beq_iff_eq.2 hb0 | have t0 : (b == 0) = false := beq_eq_false_iff_ne.2 hb0
      clear hb0
      cases hva : NumPlain.validB a with
      | false =>
        have HV := Lib.hid hva
        clear hva h3
        go_enter Tryd.func6, Tryd.ntmps6
        go_wp2_with fail
        refine (div_any _ _ _).mono ?_
        rw [HD.out]
        rintro e w' ⟨rfl, rfl⟩
        go_wp2_with fail
        refine (mod_any _ _ _).mono ?_
        rw [HM.out]
        rintro e w' ⟨rfl, rfl⟩
        go_wp2_with (first | (go_at_call 13; refine (valid_any _ _).mono ?_; (first | rw [HV.out]); rintro e w' ⟨rfl, rfl⟩) | (go_at_call 10; refine (awake_any _ HE0.out).mono ?_; rintro e w1 ⟨rfl, hb1⟩))
        go_ret
        exact ⟨rfl, by assumption⟩
      | true =>
        have HV := Lib.hid hva
        have HVb := Lib.hid (h3.resolve_left (by rw [hva]; decide))
        clear hva h3
        go_enter Tryd.func6, Tryd.ntmps6
        go_wp2_with fail
        refine (div_any _ _ _).mono ?_
        rw [HD.out]
        rintro e w' ⟨rfl, rfl⟩
        go_wp2_with fail
        refine (mod_any _ _ _).mono ?_
        rw [HM.out]
        rintro e w' ⟨rfl, rfl⟩
        go_wp2_with (first | (go_at_call 13; refine (valid_any _ _).mono ?_; (first | rw [HV.out] | rw [HVb.out]); rintro e w' ⟨rfl, rfl⟩) | (go_at_call 10; refine (awake_any _ HE0.out).mono ?_; rintro e w1 ⟨rfl, hb1⟩))
        go_ret
        exact ⟨rfl, by assumption⟩
  · have HD := Lib.hid h1
    have HM := Lib.hid h2
    have t0 : (b == 0) = true := beq_iff_eq.2 h3
    clear h1 h2 h3
    go_enter Tryd.func6, Tryd.ntmps6
    go_wp2_with fail
    refine (div_any _ _ _).mono ?_
    rw [HD.out]
    rintro e w' ⟨rfl, rfl⟩
    go_wp2_with fail
    refine (mod_any _ _ _).mono ?_
    rw [HM.out]
    rintro e w' ⟨rfl, rfl⟩
    go_wp2_with (first | (go_at_call 13; refine (valid_any _ _).mono ?_; skip; rintro e w' ⟨rfl, rfl⟩) | (go_at_call 10; refine (awake_any _ HE0.out).mono ?_; rintro e w1 ⟨rfl, hb1⟩))
    go_ret
    exact ⟨rfl, by assumption⟩
  · have HD := Lib.hid h1
    have HM := Lib.hid h2
    have HV := Lib.hid h4
    have HVb := Lib.hid h5
    have t0 : (b == 0) = false := beq_eq_false_iff_ne.2 h3
    have hp : 0 < b ∨ b < 0 := by omega
    have bd := (NumPlain.validB_iff _).1 h5
    have bq := (NumPlain.validB_iff _).1 h4
    clear h1 h2 h3 h4 h5
    generalize a.fdiv b = q at *
    generalize a.fmod b = m at *
    obtain rfl : a = q * b + m := by omega
    clear h8
    rcases hp with hp | hp
    · obtain ⟨g1, g2⟩ := h6 hp
      clear h6 h7
      go_enter Tryd.func6, Tryd.ntmps6
      go_wp2_with fail
      refine (div_any _ _ _).mono ?_
      rw [HD.out]
      rintro e w' ⟨rfl, rfl⟩
      go_wp2_with fail
      refine (mod_any _ _ _).mono ?_
      rw [HM.out]
      rintro e w' ⟨rfl, rfl⟩
      go_wp2_with (first | (go_at_call 13; refine (valid_any _ _).mono ?_; (first | rw [HV.out] | rw [HVb.out]); rintro e w' ⟨rfl, rfl⟩) | (go_at_call 10; refine (awake_any _ HE0.out).mono ?_; rintro e w1 ⟨rfl, hb1⟩))
      go_ret
      exact ⟨rfl, by assumption⟩
    · obtain ⟨g1, g2⟩ := h7 hp
      clear h6 h7
      go_enter Tryd.func6, Tryd.ntmps6
      go_wp2_with fail
      refine (div_any _ _ _).mono ?_
      rw [HD.out]
      rintro e w' ⟨rfl, rfl⟩
      go_wp2_with fail
      refine (mod_any _ _ _).mono ?_
      rw [HM.out]
      rintro e w' ⟨rfl, rfl⟩
      go_wp2_with (first | (go_at_call 13; refine (valid_any _ _).mono ?_; (first | rw [HV.out] | rw [HVb.out]); rintro e w' ⟨rfl, rfl⟩) | (go_at_call 10; refine (awake_any _ HE0.out).mono ?_; rintro e w1 ⟨rfl, hb1⟩))
      go_ret
      exact ⟨rfl, by assumption⟩
set_option maxHeartbeats 800000 in
theorem law_NumberInverse (a b : Int) (w : World) (hE : Env w) :
    Calls Tryd.prog 8 #[.int .i64 a, .int .i64 b] w fun e w' => e = .returned (.bool true) ∧ Below w.heap.size w w' := by
  have HE0 := Lib.hid hE
  clear hE
  rcases NumPlain.inv_add a b with ⟨e, he, h1⟩ | ⟨c, h1, hs⟩
  · have HA := Lib.hid h1
    clear h1
    rcases NumPlain.inv_mul a b with ⟨g, hg, h2⟩ | ⟨d, h2, h0 | ⟨h0, h3, h4⟩⟩
    · have HM := Lib.hid h2
      clear h2
      go_enter Tryd.func8, Tryd.ntmps8
      go_wp2_with fail
      refine (add_any _ _ _).mono ?_
      rw [HA.out]
      rintro e w' ⟨rfl, rfl⟩
      go_wp2_with fail
      refine (mul_any _ _ _).mono ?_
      rw [HM.out]
      rintro e w' ⟨rfl, rfl⟩
      go_wp2_with (first | (go_at_call 13; refine (valid_any _ _).mono ?_; skip; rintro e w' ⟨rfl, rfl⟩) | (go_at_call 10; refine (awake_any _ HE0.out).mono ?_; rintro e w1 ⟨rfl, hb1⟩))
      go_ret
      exact ⟨rfl, by assumption⟩
    · have HM := Lib.hid h2
      clear h2
      have t0 : (b != 0) = false := by simpa using h0
      clear h0
      go_enter Tryd.func8, Tryd.ntmps8
      go_wp2_with fail
      refine (add_any _ _ _).mono ?_
      rw [HA.out]
      rintro e w' ⟨rfl, rfl⟩
      go_wp2_with fail
      refine (mul_any _ _ _).mono ?_
      rw [HM.out]
      rintro e w' ⟨rfl, rfl⟩
      go_wp2_with (first | (go_at_call 13; refine (valid_any _ _).mono ?_; skip; rintro e w' ⟨rfl, rfl⟩) | (go_at_call 10; refine (awake_any _ HE0.out).mono ?_; rintro e w1 ⟨rfl, hb1⟩))
      go_ret
      exact ⟨rfl, by assumption⟩
    · have HM := Lib.hid h2
      clear h2
      have HQ := Lib.hid h3
      have HR := Lib.hid h4
      have t0 : (b != 0) = true := by simpa using h0
      clear h0 h3 h4
      go_enter Tryd.func8, Tryd.ntmps8
      go_wp2_with fail
      refine (add_any _ _ _).mono ?_
      rw [HA.out]
      rintro e w' ⟨rfl, rfl⟩
      go_wp2_with fail
      refine (mul_any _ _ _).mono ?_
      rw [HM.out]
      rintro e w' ⟨rfl, rfl⟩
      go_wp2_with fail
      refine (div_any _ _ _).mono ?_
      rw [HQ.out]
      rintro e w' ⟨rfl, rfl⟩
      go_wp2_with fail
      refine (mod_any _ _ _).mono ?_
      rw [HR.out]
      rintro e w' ⟨rfl, rfl⟩
      go_wp2_with (first | (go_at_call 13; refine (valid_any _ _).mono ?_; skip; rintro e w' ⟨rfl, rfl⟩) | (go_at_call 10; refine (awake_any _ HE0.out).mono ?_; rintro e w1 ⟨rfl, hb1⟩))
      go_ret
      exact ⟨rfl, by assumption⟩
  · have HA := Lib.hid h1
    clear h1
    have HS := Lib.hid hs
    clear hs
    rcases NumPlain.inv_mul a b with ⟨g, hg, h2⟩ | ⟨d, h2, h0 | ⟨h0, h3, h4⟩⟩
    · have HM := Lib.hid h2
      clear h2
      go_enter Tryd.func8, Tryd.ntmps8
      go_wp2_with fail
      refine (add_any _ _ _).mono ?_
      rw [HA.out]
      rintro e w' ⟨rfl, rfl⟩
      go_wp2_with fail
      refine (sub_any _ _ _).mono ?_
      rw [HS.out]
      rintro e w' ⟨rfl, rfl⟩
      go_wp2_with fail
      refine (mul_any _ _ _).mono ?_
      rw [HM.out]
      rintro e w' ⟨rfl, rfl⟩
      go_wp2_with (first | (go_at_call 13; refine (valid_any _ _).mono ?_; skip; rintro e w' ⟨rfl, rfl⟩) | (go_at_call 10; refine (awake_any _ HE0.out).mono ?_; rintro e w1 ⟨rfl, hb1⟩))
      go_ret
      exact ⟨rfl, by assumption⟩
    · have HM := Lib.hid h2
      clear h2
      have t0 : (b != 0) = false := by simpa using h0
      clear h0
      go_enter Tryd.func8, Tryd.ntmps8
      go_wp2_with fail
      refine (add_any _ _ _).mono ?_
      rw [HA.out]
      rintro e w' ⟨rfl, rfl⟩
      go_wp2_with fail
      refine (sub_any _ _ _).mono ?_
      rw [HS.out]
      rintro e w' ⟨rfl, rfl⟩
      go_wp2_with fail
      refine (mul_any _ _ _).mono ?_
      rw [HM.out]
      rintro e w' ⟨rfl, rfl⟩
      go_wp2_with (first | (go_at_call 13; refine (valid_any _ _).mono ?_; skip; rintro e w' ⟨rfl, rfl⟩) | (go_at_call 10; refine (awake_any _ HE0.out).mono ?_; rintro e w1 ⟨rfl, hb1⟩))
      go_ret
      exact ⟨rfl, by assumption⟩
    · have HM := Lib.hid h2
      clear h2
      have HQ := Lib.hid h3
      have HR := Lib.hid h4
      have t0 : (b != 0) = true := by simpa using h0
      clear h0 h3 h4
      go_enter Tryd.func8, Tryd.ntmps8
      go_wp2_with fail
      refine (add_any _ _ _).mono ?_
      rw [HA.out]
      rintro e w' ⟨rfl, rfl⟩
      go_wp2_with fail
      refine (sub_any _ _ _).mono ?_
      rw [HS.out]
      rintro e w' ⟨rfl, rfl⟩
      go_wp2_with fail
      refine (mul_any _ _ _).mono ?_
      rw [HM.out]
      rintro e w' ⟨rfl, rfl⟩
      go_wp2_with fail
      refine (div_any _ _ _).mono ?_
      rw [HQ.out]
      rintro e w' ⟨rfl, rfl⟩
      go_wp2_with fail
      refine (mod_any _ _ _).mono ?_
      rw [HR.out]
      rintro e w' ⟨rfl, rfl⟩
      go_wp2_with (first | (go_at_call 13; refine (valid_any _ _).mono ?_; skip; rintro e w' ⟨rfl, rfl⟩) | (go_at_call 10; refine (awake_any _ HE0.out).mono ?_; rintro e w1 ⟨rfl, hb1⟩))
      go_ret
      exact ⟨rfl, by assumption⟩
set_option maxHeartbeats 800000 in
theorem law_NumberErrors (a b : Int) (w : World) (hE : Env w) :
    Calls Tryd.prog 9 #[.int .i64 a, .int .i64 b] w fun e w' => e = .returned (.bool true) ∧ Below w.heap.size w w' := by
  have HE0 := Lib.hid hE
  clear hE
  cases hva : NumPlain.validB a with
  | false =>
    obtain ⟨k1, k2, k3, k4, k5⟩ := NumPlain.bad_all (a := a) (b := b) (.inl hva)
    have HV := Lib.hid hva
    have H1 := Lib.hid k1
    have H2 := Lib.hid k2
    have H3 := Lib.hid k3
    have H4 := Lib.hid k4
    have H5 := Lib.hid k5
    clear hva k1 k2 k3 k4 k5
    go_enter Tryd.func9, Tryd.ntmps9
    go_wp2_with fail
    refine (add_any _ _ _).mono ?_
    rw [H1.out]
    rintro e w' ⟨rfl, rfl⟩
    go_wp2_with fail
    refine (sub_any _ _ _).mono ?_
    rw [H2.out]
    rintro e w' ⟨rfl, rfl⟩
    go_wp2_with fail
    refine (mul_any _ _ _).mono ?_
    rw [H3.out]
    rintro e w' ⟨rfl, rfl⟩
    go_wp2_with fail
    refine (div_any _ _ _).mono ?_
    rw [H4.out]
    rintro e w' ⟨rfl, rfl⟩
    go_wp2_with fail
    refine (mod_any _ _ _).mono ?_
    rw [H5.out]
    rintro e w' ⟨rfl, rfl⟩
    go_wp2_with (first | (go_at_call 13; refine (valid_any _ _).mono ?_; (first | rw [HV.out]); rintro e w' ⟨rfl, rfl⟩) | (go_at_call 10; refine (awake_any _ HE0.out).mono ?_; rintro e w1 ⟨rfl, hb1⟩))
    go_ret
    exact ⟨rfl, by assumption⟩
  | true =>
    cases hvb : NumPlain.validB b with
    | false =>
      obtain ⟨k1, k2, k3, k4, k5⟩ := NumPlain.bad_all (a := a) (b := b) (.inr hvb)
      have HV := Lib.hid hva
      have HVb := Lib.hid hvb
      have H1 := Lib.hid k1
      have H2 := Lib.hid k2
      have H3 := Lib.hid k3
      have H4 := Lib.hid k4
      have H5 := Lib.hid k5
      clear hva hvb k1 k2 k3 k4 k5
      go_enter Tryd.func9, Tryd.ntmps9
      go_wp2_with fail
      refine (add_any _ _ _).mono ?_
      rw [H1.out]
      rintro e w' ⟨rfl, rfl⟩
      go_wp2_with fail
      refine (sub_any _ _ _).mono ?_
      rw [H2.out]
      rintro e w' ⟨rfl, rfl⟩
      go_wp2_with fail
      refine (mul_any _ _ _).mono ?_
      rw [H3.out]
      rintro e w' ⟨rfl, rfl⟩
      go_wp2_with fail
      refine (div_any _ _ _).mono ?_
      rw [H4.out]
      rintro e w' ⟨rfl, rfl⟩
      go_wp2_with fail
      refine (mod_any _ _ _).mono ?_
      rw [H5.out]
      rintro e w' ⟨rfl, rfl⟩
      go_wp2_with (first | (go_at_call 13; refine (valid_any _ _).mono ?_; (first | rw [HV.out] | rw [HVb.out]); rintro e w' ⟨rfl, rfl⟩) | (go_at_call 10; refine (awake_any _ HE0.out).mono ?_; rintro e w1 ⟨rfl, hb1⟩))
      go_ret
      exact ⟨rfl, by assumption⟩
    | true =>
      have HV := Lib.hid hva
      have HVb := Lib.hid hvb
      by_cases hb0 : b = 0
      · subst hb0
        obtain ⟨k1, k2, k3, k4, k5⟩ := NumPlain.zero_all hva
        have H1 := Lib.hid k1
        have H2 := Lib.hid k2
        have H3 := Lib.hid k3
        have H4 := Lib.hid k4
        have H5 := Lib.hid k5
        clear hva hvb k1 k2 k3 k4 k5
        go_enter Tryd.func9, Tryd.ntmps9
        go_wp2_with fail
        refine (add_any _ _ _).mono ?_
        rw [H1.out]
        rintro e w' ⟨rfl, rfl⟩
        go_wp2_with fail
        refine (sub_any _ _ _).mono ?_
        rw [H2.out]
        rintro e w' ⟨rfl, rfl⟩
        go_wp2_with fail
        refine (mul_any _ _ _).mono ?_
        rw [H3.out]
        rintro e w' ⟨rfl, rfl⟩
        go_wp2_with fail
        refine (div_any _ _ _).mono ?_
        rw [H4.out]
        rintro e w' ⟨rfl, rfl⟩
        go_wp2_with fail
        refine (mod_any _ _ _).mono ?_
        rw [H5.out]
        rintro e w' ⟨rfl, rfl⟩
        go_wp2_with (first | (go_at_call 13; refine (valid_any _ _).mono ?_; (first | rw [HV.out] | rw [HVb.out]); rintro e w' ⟨rfl, rfl⟩) | (go_at_call 10; refine (awake_any _ HE0.out).mono ?_; rintro e w1 ⟨rfl, hb1⟩))
        go_ret
        exact ⟨rfl, by assumption⟩
      · have t0 : (b == 0) = false := beq_eq_false_iff_ne.2 hb0
        obtain ⟨k1, k2, k3⟩ := NumPlain.good_all hva hvb
        clear hva hvb hb0
        rcases k1 with ⟨v1, k1⟩ | k1 <;> rcases k2 with ⟨v2, k2⟩ | k2 <;> rcases k3 with ⟨v3, k3⟩ | k3
        all_goals
          have H1 := Lib.hid k1
          have H2 := Lib.hid k2
          have H3 := Lib.hid k3
          clear k1 k2 k3
          go_enter Tryd.func9, Tryd.ntmps9
          go_wp2_with fail
          refine (add_any _ _ _).mono ?_
          rw [H1.out]
          rintro e w' ⟨rfl, rfl⟩
          go_wp2_with fail
          refine (sub_any _ _ _).mono ?_
          rw [H2.out]
          rintro e w' ⟨rfl, rfl⟩
          go_wp2_with fail
          refine (mul_any _ _ _).mono ?_
          rw [H3.out]
          rintro e w' ⟨rfl, rfl⟩
          go_wp2_with fail
          refine (div_any _ _ _).mono ?_
          rintro e w' ⟨rfl, rfl⟩
          go_wp2_with fail
          refine (mod_any _ _ _).mono ?_
          rintro e w' ⟨rfl, rfl⟩
          go_wp2_with (first | (go_at_call 13; refine (valid_any _ _).mono ?_; (first | rw [HV.out] | rw [HVb.out]); rintro e w' ⟨rfl, rfl⟩) | (go_at_call 10; refine (awake_any _ HE0.out).mono ?_; rintro e w1 ⟨rfl, hb1⟩))
          go_ret
          exact ⟨rfl, by assumption⟩
end Go.Proofs.YtogihaefhdcgbaaDoor
