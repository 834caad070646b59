/-
  Contracts of the functions of the packages number and provisionref01 that only compute: Add, Sub, Mul, Div, Mod, result, right, size.
-/
import Derived.Test.YtjfcgdablmjmnaaGreatDoorNumValid
namespace Go.Proofs.YtjfcgdablmjmnaaGreatDoor
open Go.RowKit

theorem ret2_int {k l : IntKind} {a b c d : Int} (h : a = c) (h' : b = d) : Ending.returned (.tuple #[.int k a, .int l b]) = .returned (.tuple #[.int k c, .int l d]) := by rw [h, h']

set_option maxHeartbeats 400000 in
theorem result_any (n : Int) (w : World) :
    Calls Tryz.prog 109 #[.int .i64 n] w fun e w' => e = .returned (.tuple #[.int .i64 (NumPlain.right n).1, .int .i64 (NumPlain.right n).2]) ∧ w = w' := by
  cases hv : NumPlain.validB n
  all_goals
    have H := Lib.hid hv
    go_enter Tryz.func109, Tryz.ntmps109
    go_wp2_with (go_at_call 108; refine (valid_any _ _).mono ?_; rintro e w' ⟨rfl, rfl⟩)
    go_ret2
    exact ⟨ret2_int (by simp [NumPlain.right, hv]) (by simp [NumPlain.right, hv]), rfl⟩

set_option maxHeartbeats 400000 in
theorem rright_any (n : Int) (w : World) :
    Calls Tryz.prog 121 #[.int .i64 n] w fun e w' => e = .returned (.tuple #[.int .i64 (NumPlain.right n).1, .int .i64 (NumPlain.right n).2]) ∧ w = w' := by
  cases hv : NumPlain.validB n
  all_goals
    have H := Lib.hid hv
    go_enter Tryz.func121, Tryz.ntmps121
    go_wp2_with (go_at_call 88; refine (rvalid_any _ _).mono ?_; rintro e w' ⟨rfl, rfl⟩)
    go_ret2
    exact ⟨ret2_int (by simp [NumPlain.right, hv]) (by simp [NumPlain.right, hv]), rfl⟩

set_option maxHeartbeats 400000 in
theorem add_any (a b : Int) (w : World) :
    Calls Tryz.prog 90 #[.int .i64 a, .int .i64 b] w fun e w' => e = .returned (.tuple #[.int .i64 (NumPlain.add a b).1, .int .i64 (NumPlain.add a b).2]) ∧ w = w' := by
  by_cases h1 : -9007199254740992 ≤ a ∧ a ≤ 9007199254740992
  · by_cases h2 : -9007199254740992 ≤ b ∧ b ≤ 9007199254740992
    · have H : NumPlain.add a b = NumPlain.right (a + b) := by simp [NumPlain.add, NumPlain.validB, h1, h2]
      rw [H]
      clear H
      have e1 := NumPlain.validB_mk h1.1 h1.2
      have e2 := NumPlain.validB_mk h2.1 h2.2
      go_enter Tryz.func90, Tryz.ntmps90
      go_wp2_with (first | (go_at_call 108; refine (valid_any _ _).mono ?_; rintro e w' ⟨rfl, rfl⟩) | (go_at_call 109; refine (result_any _ _).mono ?_; rintro e w' ⟨rfl, rfl⟩))
      go_ret2
      exact ⟨rfl, rfl⟩
    · have H := Lib.hid (show NumPlain.add a b = (0, 1) by simp [NumPlain.add, NumPlain.validB, h1, h2])
      have e1 := NumPlain.validB_mk h1.1 h1.2
      have e2 := NumPlain.validB_no h2
      clear h1 h2
      go_enter Tryz.func90, Tryz.ntmps90
      go_wp2_with (first | (go_at_call 108; refine (valid_any _ _).mono ?_; rintro e w' ⟨rfl, rfl⟩) | (go_at_call 109; refine (result_any _ _).mono ?_; rintro e w' ⟨rfl, rfl⟩))
      go_ret2
      exact ⟨by rw [H.out]; rfl, rfl⟩
  · have H := Lib.hid (show NumPlain.add a b = (0, 1) by simp [NumPlain.add, NumPlain.validB, h1])
    have e1 := NumPlain.validB_no h1
    clear h1
    go_enter Tryz.func90, Tryz.ntmps90
    go_wp2_with (first | (go_at_call 108; refine (valid_any _ _).mono ?_; rintro e w' ⟨rfl, rfl⟩) | (go_at_call 109; refine (result_any _ _).mono ?_; rintro e w' ⟨rfl, rfl⟩))
    go_ret2
    exact ⟨by rw [H.out]; rfl, rfl⟩

set_option maxHeartbeats 400000 in
theorem radd_any (a b : Int) (w : World) :
    Calls Tryz.prog 102 #[.int .i64 a, .int .i64 b] w fun e w' => e = .returned (.tuple #[.int .i64 (NumPlain.add a b).1, .int .i64 (NumPlain.add a b).2]) ∧ w = w' := by
  by_cases h1 : -9007199254740992 ≤ a ∧ a ≤ 9007199254740992
  · by_cases h2 : -9007199254740992 ≤ b ∧ b ≤ 9007199254740992
    · have H : NumPlain.add a b = NumPlain.right (a + b) := by simp [NumPlain.add, NumPlain.validB, h1, h2]
      rw [H]
      clear H
      have e1 := NumPlain.validB_mk h1.1 h1.2
      have e2 := NumPlain.validB_mk h2.1 h2.2
      go_enter Tryz.func102, Tryz.ntmps102
      go_wp2_with (first | (go_at_call 88; refine (rvalid_any _ _).mono ?_; rintro e w' ⟨rfl, rfl⟩) | (go_at_call 121; refine (rright_any _ _).mono ?_; rintro e w' ⟨rfl, rfl⟩))
      go_ret2
      exact ⟨rfl, rfl⟩
    · have H := Lib.hid (show NumPlain.add a b = (0, 1) by simp [NumPlain.add, NumPlain.validB, h1, h2])
      have e1 := NumPlain.validB_mk h1.1 h1.2
      have e2 := NumPlain.validB_no h2
      clear h1 h2
      go_enter Tryz.func102, Tryz.ntmps102
      go_wp2_with (first | (go_at_call 88; refine (rvalid_any _ _).mono ?_; rintro e w' ⟨rfl, rfl⟩) | (go_at_call 121; refine (rright_any _ _).mono ?_; rintro e w' ⟨rfl, rfl⟩))
      go_ret2
      exact ⟨by rw [H.out]; rfl, rfl⟩
  · have H := Lib.hid (show NumPlain.add a b = (0, 1) by simp [NumPlain.add, NumPlain.validB, h1])
    have e1 := NumPlain.validB_no h1
    clear h1
    go_enter Tryz.func102, Tryz.ntmps102
    go_wp2_with (first | (go_at_call 88; refine (rvalid_any _ _).mono ?_; rintro e w' ⟨rfl, rfl⟩) | (go_at_call 121; refine (rright_any _ _).mono ?_; rintro e w' ⟨rfl, rfl⟩))
    go_ret2
    exact ⟨by rw [H.out]; rfl, rfl⟩

set_option maxHeartbeats 400000 in
theorem sub_any (a b : Int) (w : World) :
    Calls Tryz.prog 91 #[.int .i64 a, .int .i64 b] w fun e w' => e = .returned (.tuple #[.int .i64 (NumPlain.sub a b).1, .int .i64 (NumPlain.sub a b).2]) ∧ w = w' := by
  by_cases h1 : -9007199254740992 ≤ a ∧ a ≤ 9007199254740992
  · by_cases h2 : -9007199254740992 ≤ b ∧ b ≤ 9007199254740992
    · have H : NumPlain.sub a b = NumPlain.right (a - b) := by simp [NumPlain.sub, NumPlain.validB, h1, h2]
      rw [H]
      clear H
      have e1 := NumPlain.validB_mk h1.1 h1.2
      have e2 := NumPlain.validB_mk h2.1 h2.2
      go_enter Tryz.func91, Tryz.ntmps91
      go_wp2_with (first | (go_at_call 108; refine (valid_any _ _).mono ?_; rintro e w' ⟨rfl, rfl⟩) | (go_at_call 109; refine (result_any _ _).mono ?_; rintro e w' ⟨rfl, rfl⟩))
      go_ret2
      exact ⟨rfl, rfl⟩
    · have H := Lib.hid (show NumPlain.sub a b = (0, 1) by simp [NumPlain.sub, NumPlain.validB, h1, h2])
      have e1 := NumPlain.validB_mk h1.1 h1.2
      have e2 := NumPlain.validB_no h2
      clear h1 h2
      go_enter Tryz.func91, Tryz.ntmps91
      go_wp2_with (first | (go_at_call 108; refine (valid_any _ _).mono ?_; rintro e w' ⟨rfl, rfl⟩) | (go_at_call 109; refine (result_any _ _).mono ?_; rintro e w' ⟨rfl, rfl⟩))
      go_ret2
      exact ⟨by rw [H.out]; rfl, rfl⟩
  · have H := Lib.hid (show NumPlain.sub a b = (0, 1) by simp [NumPlain.sub, NumPlain.validB, h1])
    have e1 := NumPlain.validB_no h1
    clear h1
    go_enter Tryz.func91, Tryz.ntmps91
    go_wp2_with (first | (go_at_call 108; refine (valid_any _ _).mono ?_; rintro e w' ⟨rfl, rfl⟩) | (go_at_call 109; refine (result_any _ _).mono ?_; rintro e w' ⟨rfl, rfl⟩))
    go_ret2
    exact ⟨by rw [H.out]; rfl, rfl⟩

set_option maxHeartbeats 400000 in
theorem rsub_any (a b : Int) (w : World) :
    Calls Tryz.prog 103 #[.int .i64 a, .int .i64 b] w fun e w' => e = .returned (.tuple #[.int .i64 (NumPlain.sub a b).1, .int .i64 (NumPlain.sub a b).2]) ∧ w = w' := by
  by_cases h1 : -9007199254740992 ≤ a ∧ a ≤ 9007199254740992
  · by_cases h2 : -9007199254740992 ≤ b ∧ b ≤ 9007199254740992
    · have H : NumPlain.sub a b = NumPlain.right (a - b) := by simp [NumPlain.sub, NumPlain.validB, h1, h2]
      rw [H]
      clear H
      have e1 := NumPlain.validB_mk h1.1 h1.2
      have e2 := NumPlain.validB_mk h2.1 h2.2
      go_enter Tryz.func103, Tryz.ntmps103
      go_wp2_with (first | (go_at_call 88; refine (rvalid_any _ _).mono ?_; rintro e w' ⟨rfl, rfl⟩) | (go_at_call 121; refine (rright_any _ _).mono ?_; rintro e w' ⟨rfl, rfl⟩))
      go_ret2
      exact ⟨rfl, rfl⟩
    · have H := Lib.hid (show NumPlain.sub a b = (0, 1) by simp [NumPlain.sub, NumPlain.validB, h1, h2])
      have e1 := NumPlain.validB_mk h1.1 h1.2
      have e2 := NumPlain.validB_no h2
      clear h1 h2
      go_enter Tryz.func103, Tryz.ntmps103
      go_wp2_with (first | (go_at_call 88; refine (rvalid_any _ _).mono ?_; rintro e w' ⟨rfl, rfl⟩) | (go_at_call 121; refine (rright_any _ _).mono ?_; rintro e w' ⟨rfl, rfl⟩))
      go_ret2
      exact ⟨by rw [H.out]; rfl, rfl⟩
  · have H := Lib.hid (show NumPlain.sub a b = (0, 1) by simp [NumPlain.sub, NumPlain.validB, h1])
    have e1 := NumPlain.validB_no h1
    clear h1
    go_enter Tryz.func103, Tryz.ntmps103
    go_wp2_with (first | (go_at_call 88; refine (rvalid_any _ _).mono ?_; rintro e w' ⟨rfl, rfl⟩) | (go_at_call 121; refine (rright_any _ _).mono ?_; rintro e w' ⟨rfl, rfl⟩))
    go_ret2
    exact ⟨by rw [H.out]; rfl, rfl⟩

set_option maxHeartbeats 400000 in
theorem mul_any (a b : Int) (w : World) :
    Calls Tryz.prog 92 #[.int .i64 a, .int .i64 b] w fun e w' => e = .returned (.tuple #[.int .i64 (NumPlain.mul a b).1, .int .i64 (NumPlain.mul a b).2]) ∧ w = w' := by
  by_cases h1 : -9007199254740992 ≤ a ∧ a ≤ 9007199254740992
  · by_cases h2 : -9007199254740992 ≤ b ∧ b ≤ 9007199254740992
    · have e1 := NumPlain.validB_mk h1.1 h1.2
      have e2 := NumPlain.validB_mk h2.1 h2.2
      by_cases ha : a = 0
      · have H := Lib.hid (show NumPlain.mul a b = (0, 0) by simp [NumPlain.mul, NumPlain.right, NumPlain.validB, ha, h2])
        have t1 : (a == 0) = true := by simpa using ha
        clear ha
        go_enter Tryz.func92, Tryz.ntmps92
        go_wp2_with (first | (go_at_call 108; refine (valid_any _ _).mono ?_; rintro e w' ⟨rfl, rfl⟩))
        go_ret2
        exact ⟨by rw [H.out]; rfl, rfl⟩
      · have t1 : (a == 0) = false := by simpa using ha
        by_cases hb : b = 0
        · have H := Lib.hid (show NumPlain.mul a b = (0, 0) by simp [NumPlain.mul, NumPlain.right, NumPlain.validB, hb, h1])
          have t2 : (b == 0) = true := by simpa using hb
          clear hb
          go_enter Tryz.func92, Tryz.ntmps92
          go_wp2_with (first | (go_at_call 108; refine (valid_any _ _).mono ?_; rintro e w' ⟨rfl, rfl⟩))
          go_ret2
          exact ⟨by rw [H.out]; rfl, rfl⟩
        · have t2 : (b == 0) = false := by simpa using hb
          by_cases hm : NumPlain.size a * NumPlain.size b ≤ 9007199254740992
          · obtain ⟨hy, hp1, hp2⟩ := NumPlain.mul_yes h1 h2 hm
            have H := Lib.hid hy
            have ht := fun h => Int.not_lt.2 hm ((NumPlain.absdiv (show 0 < NumPlain.size b by have := NumPlain.size_pos hb; omega)).1 h)
            clear hy hm
            rcases NumPlain.sign_of a ha with ⟨c, hc, rfl⟩ | hc <;> rcases NumPlain.sign_of b hb with ⟨d, hd, rfl⟩ | hd
            all_goals
              simp only [NumPlain.size_neg, NumPlain.size_same, *] at ht
              clear ha hb
              go_enter Tryz.func92, Tryz.ntmps92
              go_wp2_with (first | (go_at_call 108; refine (valid_any _ _).mono ?_; rintro e w' ⟨rfl, rfl⟩))
              go_ret2
              exact ⟨by rw [H.out]; rfl, rfl⟩
          · have hm' := Int.not_le.1 hm
            have H := Lib.hid (NumPlain.mul_no h1 h2 hm')
            have ht := (NumPlain.absdiv (show 0 < NumPlain.size b by have := NumPlain.size_pos hb; omega)).2 hm'
            clear hm hm'
            rcases NumPlain.sign_of a ha with ⟨c, hc, rfl⟩ | hc <;> rcases NumPlain.sign_of b hb with ⟨d, hd, rfl⟩ | hd
            all_goals
              simp only [NumPlain.size_neg, NumPlain.size_same, *] at ht
              clear ha hb
              go_enter Tryz.func92, Tryz.ntmps92
              go_wp2_with (first | (go_at_call 108; refine (valid_any _ _).mono ?_; rintro e w' ⟨rfl, rfl⟩))
              go_ret2
              exact ⟨by rw [H.out]; rfl, rfl⟩
    · have H := Lib.hid (show NumPlain.mul a b = (0, 1) by simp [NumPlain.mul, NumPlain.validB, h1, h2])
      have e1 := NumPlain.validB_mk h1.1 h1.2
      have e2 := NumPlain.validB_no h2
      clear h1 h2
      go_enter Tryz.func92, Tryz.ntmps92
      go_wp2_with (first | (go_at_call 108; refine (valid_any _ _).mono ?_; rintro e w' ⟨rfl, rfl⟩))
      go_ret2
      exact ⟨by rw [H.out]; rfl, rfl⟩
  · have H := Lib.hid (show NumPlain.mul a b = (0, 1) by simp [NumPlain.mul, NumPlain.validB, h1])
    have e1 := NumPlain.validB_no h1
    clear h1
    go_enter Tryz.func92, Tryz.ntmps92
    go_wp2_with (first | (go_at_call 108; refine (valid_any _ _).mono ?_; rintro e w' ⟨rfl, rfl⟩))
    go_ret2
    exact ⟨by rw [H.out]; rfl, rfl⟩

set_option maxHeartbeats 400000 in
theorem size_any (n : Int) (w : World) (h : -9007199254740992 ≤ n ∧ n ≤ 9007199254740992) :
    Calls Tryz.prog 122 #[.int .i64 n] w fun e w' => e = .returned (.int .i64 (NumPlain.size n)) ∧ w = w' := by
  by_cases hn : n < 0
  all_goals
    have H := Lib.hid (show NumPlain.size n = if n < 0 then -n else n from rfl)
    go_enter Tryz.func122, Tryz.ntmps122
    go_wp2
    go_ret
    exact ⟨by rw [H.out]; first | (rw [if_pos hn]; rfl) | (rw [if_neg (Int.not_lt.2 hn)]; rfl), rfl⟩

set_option maxHeartbeats 400000 in
theorem rmul_any (a b : Int) (w : World) :
    Calls Tryz.prog 104 #[.int .i64 a, .int .i64 b] w fun e w' => e = .returned (.tuple #[.int .i64 (NumPlain.mul a b).1, .int .i64 (NumPlain.mul a b).2]) ∧ w = w' := by
  by_cases h1 : -9007199254740992 ≤ a ∧ a ≤ 9007199254740992
  · by_cases h2 : -9007199254740992 ≤ b ∧ b ≤ 9007199254740992
    · have e1 := NumPlain.validB_mk h1.1 h1.2
      have e2 := NumPlain.validB_mk h2.1 h2.2
      by_cases ha : a = 0
      · have H := Lib.hid (show NumPlain.mul a b = (0, 0) by simp [NumPlain.mul, NumPlain.right, NumPlain.validB, ha, h2])
        obtain rfl := ha
        go_enter Tryz.func104, Tryz.ntmps104
        go_wp2_with (first | (go_at_call 88; refine (rvalid_any _ _).mono ?_; rintro e w' ⟨rfl, rfl⟩) | (go_at_call 122; refine (size_any _ _ (by omega)).mono ?_; rintro e w' ⟨rfl, rfl⟩))
        go_ret2
        exact ⟨by rw [H.out]; rfl, rfl⟩
      · have t1 : (a != 0) = true := by simpa using ha
        have ps := NumPlain.size_pos ha
        have bs := NumPlain.size_bd h2
        clear ha
        by_cases hm : NumPlain.size a * NumPlain.size b ≤ 9007199254740992
        · obtain ⟨hy, hp1, hp2⟩ := NumPlain.mul_yes h1 h2 hm
          have H := Lib.hid hy
          have ht := fun h => Int.not_lt.2 hm (by rw [Int.mul_comm]; exact (NumPlain.absdiv (x := NumPlain.size b) (show 0 < NumPlain.size a by omega)).1 h)
          clear hy hm
          go_enter Tryz.func104, Tryz.ntmps104
          go_wp2_with (first | (go_at_call 88; refine (rvalid_any _ _).mono ?_; rintro e w' ⟨rfl, rfl⟩) | (go_at_call 122; refine (size_any _ _ (by omega)).mono ?_; rintro e w' ⟨rfl, rfl⟩))
          go_ret2
          exact ⟨by rw [H.out]; rfl, rfl⟩
        · have hm' := Int.not_le.1 hm
          have H := Lib.hid (NumPlain.mul_no h1 h2 hm')
          rw [Int.mul_comm] at hm'
          have ht := (NumPlain.absdiv (x := NumPlain.size b) (show 0 < NumPlain.size a by omega)).2 hm'
          clear hm hm'
          go_enter Tryz.func104, Tryz.ntmps104
          go_wp2_with (first | (go_at_call 88; refine (rvalid_any _ _).mono ?_; rintro e w' ⟨rfl, rfl⟩) | (go_at_call 122; refine (size_any _ _ (by omega)).mono ?_; rintro e w' ⟨rfl, rfl⟩))
          go_ret2
          exact ⟨by rw [H.out]; rfl, rfl⟩
    · have H := Lib.hid (show NumPlain.mul a b = (0, 1) by simp [NumPlain.mul, NumPlain.validB, h1, h2])
      have e1 := NumPlain.validB_mk h1.1 h1.2
      have e2 := NumPlain.validB_no h2
      clear h1 h2
      go_enter Tryz.func104, Tryz.ntmps104
      go_wp2_with (first | (go_at_call 88; refine (rvalid_any _ _).mono ?_; rintro e w' ⟨rfl, rfl⟩) | (go_at_call 122; refine (size_any _ _ (by omega)).mono ?_; rintro e w' ⟨rfl, rfl⟩))
      go_ret2
      exact ⟨by rw [H.out]; rfl, rfl⟩
  · have H := Lib.hid (show NumPlain.mul a b = (0, 1) by simp [NumPlain.mul, NumPlain.validB, h1])
    have e1 := NumPlain.validB_no h1
    clear h1
    go_enter Tryz.func104, Tryz.ntmps104
    go_wp2_with (first | (go_at_call 88; refine (rvalid_any _ _).mono ?_; rintro e w' ⟨rfl, rfl⟩) | (go_at_call 122; refine (size_any _ _ (by omega)).mono ?_; rintro e w' ⟨rfl, rfl⟩))
    go_ret2
    exact ⟨by rw [H.out]; rfl, rfl⟩

set_option maxHeartbeats 400000 in
theorem div_any (a b : Int) (w : World) :
    Calls Tryz.prog 93 #[.int .i64 a, .int .i64 b] w fun e w' => e = .returned (.tuple #[.int .i64 (NumPlain.div a b).1, .int .i64 (NumPlain.div a b).2]) ∧ w = w' := by
  by_cases h1 : -9007199254740992 ≤ a ∧ a ≤ 9007199254740992
  · by_cases h2 : -9007199254740992 ≤ b ∧ b ≤ 9007199254740992
    · have e1 := NumPlain.validB_mk h1.1 h1.2
      have e2 := NumPlain.validB_mk h2.1 h2.2
      by_cases hb : b = 0
      · have H := Lib.hid (show NumPlain.div a b = (0, 15) by simp [NumPlain.div, NumPlain.validB, hb, h1])
        have t1 : (b == 0) = true := by simpa using hb
        clear hb
        go_enter Tryz.func93, Tryz.ntmps93
        go_wp2_with (first | (go_at_call 108; refine (valid_any _ _).mono ?_; rintro e w' ⟨rfl, rfl⟩))
        go_ret2
        exact ⟨by rw [H.out]; rfl, rfl⟩
      · have H := Lib.hid (show NumPlain.div a b = (a.fdiv b, 0) by simp [NumPlain.div, NumPlain.validB, hb, h1, h2])
        have t1 : (b == 0) = false := by simpa using hb
        have bd := NumPlain.tdiv_bd b h1
        have bq := NumPlain.tdiv_mul_bd b h1
        by_cases hm : a.tmod b = 0
        · have t2 := (show (a.tmod b != 0) = false by simpa using hm)
          have F := Lib.hid (NumPlain.fdiv_same hb hm)
          clear hm
          go_enter Tryz.func93, Tryz.ntmps93
          go_wp2_with (first | (go_at_call 108; refine (valid_any _ _).mono ?_; rintro e w' ⟨rfl, rfl⟩))
          go_ret2
          exact ⟨by rw [H.out, F.out]; rfl, rfl⟩
        · have t2 := (show (a.tmod b != 0) = true by simpa using hm)
          by_cases sa : a < 0 <;> by_cases sb : b < 0
          all_goals
            have F0 := NumPlain.fdiv_of_tdiv hb (a := a)
            simp [hm, sa, sb] at F0
            have F := Lib.hid F0
            have hm2 : 0 ≤ a → (a % b == 0) = false := fun h => by rw [← Int.tmod_eq_emod_of_nonneg h]; simpa using hm
            have hm3 : 0 ≤ a → (a % b != 0) = true := fun h => by rw [← Int.tmod_eq_emod_of_nonneg h]; simpa using hm
            clear hm F0
            first | have hm4 := hm2 (Int.not_lt.1 sa) | skip
            first | have hm5 := hm3 (Int.not_lt.1 sa) | skip
            clear hm2 hm3
            first | have sc : (decide (b < 0)) = true := decide_eq_true sb | have sc : (decide (b < 0)) = false := decide_eq_false sb
            first | have sd : (decide (a < 0)) = true := decide_eq_true sa | have sd : (decide (a < 0)) = false := decide_eq_false sa
            go_enter Tryz.func93, Tryz.ntmps93
            go_wp2_with (first | (go_at_call 108; refine (valid_any _ _).mono ?_; rintro e w' ⟨rfl, rfl⟩))
            go_ret2
            exact ⟨by rw [H.out, F.out]; first | rfl | (rw [Int.tdiv_eq_ediv_of_nonneg ‹_›]; rfl), rfl⟩
    · have H := Lib.hid (show NumPlain.div a b = (0, 1) by simp [NumPlain.div, NumPlain.validB, h1, h2])
      have e1 := NumPlain.validB_mk h1.1 h1.2
      have e2 := NumPlain.validB_no h2
      clear h1 h2
      go_enter Tryz.func93, Tryz.ntmps93
      go_wp2_with (first | (go_at_call 108; refine (valid_any _ _).mono ?_; rintro e w' ⟨rfl, rfl⟩))
      go_ret2
      exact ⟨by rw [H.out]; rfl, rfl⟩
  · have H := Lib.hid (show NumPlain.div a b = (0, 1) by simp [NumPlain.div, NumPlain.validB, h1])
    have e1 := NumPlain.validB_no h1
    clear h1
    go_enter Tryz.func93, Tryz.ntmps93
    go_wp2_with (first | (go_at_call 108; refine (valid_any _ _).mono ?_; rintro e w' ⟨rfl, rfl⟩))
    go_ret2
    exact ⟨by rw [H.out]; rfl, rfl⟩

set_option maxHeartbeats 400000 in
theorem rdiv_any (a b : Int) (w : World) :
    Calls Tryz.prog 105 #[.int .i64 a, .int .i64 b] w fun e w' => e = .returned (.tuple #[.int .i64 (NumPlain.div a b).1, .int .i64 (NumPlain.div a b).2]) ∧ w = w' := by
  by_cases h1 : -9007199254740992 ≤ a ∧ a ≤ 9007199254740992
  · by_cases h2 : -9007199254740992 ≤ b ∧ b ≤ 9007199254740992
    · have e1 := NumPlain.validB_mk h1.1 h1.2
      have e2 := NumPlain.validB_mk h2.1 h2.2
      by_cases hb : b = 0
      · have H := Lib.hid (show NumPlain.div a b = (0, 15) by simp [NumPlain.div, NumPlain.validB, hb, h1])
        have t1 : (b == 0) = true := by simpa using hb
        clear hb
        go_enter Tryz.func105, Tryz.ntmps105
        go_wp2_with (first | (go_at_call 88; refine (rvalid_any _ _).mono ?_; rintro e w' ⟨rfl, rfl⟩))
        go_ret2
        exact ⟨by rw [H.out]; rfl, rfl⟩
      · have H := Lib.hid (show NumPlain.div a b = (a.fdiv b, 0) by simp [NumPlain.div, NumPlain.validB, hb, h1, h2])
        have t1 : (b == 0) = false := by simpa using hb
        have bd := NumPlain.tdiv_bd b h1
        have bq := NumPlain.tdiv_mul_bd b h1
        by_cases hm : a.tmod b = 0
        · have t2 := (show (a.tdiv b * b != a) = false by have := NumPlain.tmod_zero_iff (a := a) (b := b); rw [Int.mul_comm] at this; simpa using this.2 hm)
          have F := Lib.hid (NumPlain.fdiv_same hb hm)
          clear hm
          go_enter Tryz.func105, Tryz.ntmps105
          go_wp2_with (first | (go_at_call 88; refine (rvalid_any _ _).mono ?_; rintro e w' ⟨rfl, rfl⟩))
          go_ret2
          exact ⟨by rw [H.out, F.out]; rfl, rfl⟩
        · have t2 := (show (a.tdiv b * b != a) = true by have := NumPlain.tmod_zero_iff (a := a) (b := b); rw [Int.mul_comm] at this; simpa using fun h => hm (this.1 h))
          by_cases sa : a < 0 <;> by_cases sb : b < 0
          all_goals
            have F0 := NumPlain.fdiv_of_tdiv hb (a := a)
            simp [hm, sa, sb] at F0
            have F := Lib.hid F0
            have hm2 : 0 ≤ a → (a % b == 0) = false := fun h => by rw [← Int.tmod_eq_emod_of_nonneg h]; simpa using hm
            have hm3 : 0 ≤ a → (a % b != 0) = true := fun h => by rw [← Int.tmod_eq_emod_of_nonneg h]; simpa using hm
            clear hm F0
            first | have hm4 := hm2 (Int.not_lt.1 sa) | skip
            first | have hm5 := hm3 (Int.not_lt.1 sa) | skip
            clear hm2 hm3
            first | have sc : (decide (b < 0)) = true := decide_eq_true sb | have sc : (decide (b < 0)) = false := decide_eq_false sb
            first | have sd : (decide (a < 0)) = true := decide_eq_true sa | have sd : (decide (a < 0)) = false := decide_eq_false sa
            go_enter Tryz.func105, Tryz.ntmps105
            go_wp2_with (first | (go_at_call 88; refine (rvalid_any _ _).mono ?_; rintro e w' ⟨rfl, rfl⟩))
            go_ret2
            exact ⟨by rw [H.out, F.out]; first | rfl | (rw [Int.tdiv_eq_ediv_of_nonneg ‹_›]; rfl), rfl⟩
    · have H := Lib.hid (show NumPlain.div a b = (0, 1) by simp [NumPlain.div, NumPlain.validB, h1, h2])
      have e1 := NumPlain.validB_mk h1.1 h1.2
      have e2 := NumPlain.validB_no h2
      clear h1 h2
      go_enter Tryz.func105, Tryz.ntmps105
      go_wp2_with (first | (go_at_call 88; refine (rvalid_any _ _).mono ?_; rintro e w' ⟨rfl, rfl⟩))
      go_ret2
      exact ⟨by rw [H.out]; rfl, rfl⟩
  · have H := Lib.hid (show NumPlain.div a b = (0, 1) by simp [NumPlain.div, NumPlain.validB, h1])
    have e1 := NumPlain.validB_no h1
    clear h1
    go_enter Tryz.func105, Tryz.ntmps105
    go_wp2_with (first | (go_at_call 88; refine (rvalid_any _ _).mono ?_; rintro e w' ⟨rfl, rfl⟩))
    go_ret2
    exact ⟨by rw [H.out]; rfl, rfl⟩

set_option maxHeartbeats 400000 in
theorem mod_any (a b : Int) (w : World) :
    Calls Tryz.prog 94 #[.int .i64 a, .int .i64 b] w fun e w' => e = .returned (.tuple #[.int .i64 (NumPlain.mod a b).1, .int .i64 (NumPlain.mod a b).2]) ∧ w = w' := by
  rcases NumPlain.div_mod a b with ⟨h1, h2, h3⟩ | ⟨h1, h2, h3⟩ | ⟨h1, h2, h3, h4⟩
  · go_enter Tryz.func94, Tryz.ntmps94
    have H := Lib.hid h2
    clear h2
    go_wp2_with (go_at_call 93; refine (div_any _ _ _).mono ?_; rw [h1]; rintro e w' ⟨rfl, rfl⟩)
    go_ret2
    exact ⟨by rw [H.out]; rfl, rfl⟩
  · go_enter Tryz.func94, Tryz.ntmps94
    have H := Lib.hid h2
    clear h2
    go_wp2_with (go_at_call 93; refine (div_any _ _ _).mono ?_; rw [h1]; rintro e w' ⟨rfl, rfl⟩)
    go_ret2
    exact ⟨by rw [H.out]; rfl, rfl⟩
  · have H := Lib.hid h2
    clear h2
    generalize a.fdiv b = q at *
    go_enter Tryz.func94, Tryz.ntmps94
    go_wp2_with (go_at_call 93; refine (div_any _ _ _).mono ?_; rw [h1]; rintro e w' ⟨rfl, rfl⟩)
    go_ret2
    exact ⟨by rw [H.out]; rfl, rfl⟩

set_option maxHeartbeats 400000 in
theorem rmod_any (a b : Int) (w : World) :
    Calls Tryz.prog 106 #[.int .i64 a, .int .i64 b] w fun e w' => e = .returned (.tuple #[.int .i64 (NumPlain.mod a b).1, .int .i64 (NumPlain.mod a b).2]) ∧ w = w' := by
  rcases NumPlain.div_mod a b with ⟨h1, h2, h3⟩ | ⟨h1, h2, h3⟩ | ⟨h1, h2, h3, h4⟩
  · go_enter Tryz.func106, Tryz.ntmps106
    have H := Lib.hid h2
    clear h2
    go_wp2_with (go_at_call 105; refine (rdiv_any _ _ _).mono ?_; rw [h1]; rintro e w' ⟨rfl, rfl⟩)
    go_ret2
    exact ⟨by rw [H.out]; rfl, rfl⟩
  · go_enter Tryz.func106, Tryz.ntmps106
    have H := Lib.hid h2
    clear h2
    go_wp2_with (go_at_call 105; refine (rdiv_any _ _ _).mono ?_; rw [h1]; rintro e w' ⟨rfl, rfl⟩)
    go_ret2
    exact ⟨by rw [H.out]; rfl, rfl⟩
  · have H := Lib.hid h2
    clear h2
    generalize a.fdiv b = q at *
    go_enter Tryz.func106, Tryz.ntmps106
    go_wp2_with (go_at_call 105; refine (rdiv_any _ _ _).mono ?_; rw [h1]; rintro e w' ⟨rfl, rfl⟩)
    go_ret2
    exact ⟨by rw [H.out]; rfl, rfl⟩

end Go.Proofs.YtjfcgdablmjmnaaGreatDoor
