/-
  Contracts of the functions of the package provisionref01 that read texts.
-/
import Derived.Test.YtkffpfapfljinaaGreatDoorNumText
namespace Go.Proofs.YtkffpfapfljinaaGreatDoor
open Go.RowKit
set_option maxHeartbeats 400000 in
theorem q3s (s : ByteArray) (w : World) (hs : s.size ≤ maxLen) :
  Calls Tryz.prog 205 #[.string s] w fun e w' => e = .returned (.bool (NumPlain.canonUB s)) ∧ w = w' := by
 unfold maxLen at hs
 go_enter Tryz.func205, Tryz.ntmps205
 go_wp2
 go_loop [3] (fun i => ∃ k : Nat, k ≤ s.size ∧ i = .int .i64 k ∧ (s.data.toList.take k).all NumPlain.isDig = true) (fun i => s.size - (intOf i).toNat)
 case atStart => exact ⟨0, Nat.zero_le _, rfl, rfl⟩
 case round =>
  obtain ⟨k, hk, rfl, hall⟩ := hrel
  have HA := Lib.hid hall
  clear hall
  by_cases hlt : k < s.size
  ·have hd := NumPlain.isDig_iff s[k]
   cases hdg : NumPlain.isDig s[k]
   ·have HF := Lib.hid (show NumPlain.canonUB s = false from NumPlain.canonU_bad (NumPlain.not_all s k hlt hdg))
    rw [hdg] at hd
    by_cases hlo : 48 ≤ (s[k].toNat : Int)
    ·have hhi : 57 < (s[k].toNat : Int) := by
      have := mt hd.2 (by decide)
      omega
     clear hd hdg
     go_wp2
     go_ret
     exact ⟨by rw [HF.out]; rfl, rfl⟩
    ·have hlo' : (s[k].toNat : Int) < 48 := by omega
     clear hd hdg hlo
     go_wp2
     go_ret
     exact ⟨by rw [HF.out]; rfl, rfl⟩
   ·have HS := Lib.hid (NumPlain.take_all_snoc s k hlt)
    have HD := Lib.hid hdg
    rw [hdg] at hd
    obtain ⟨hlo, hhi⟩ := hd.1 rfl
    clear hd hdg
    go_wp2
    go_round
    case rel => exact ⟨k + 1, by omega, by go_num, by rw [HS.out, HA.out, HD.out]; rfl⟩
    case measure => simp [intOf]; omega
  ·obtain rfl : k = s.size := by omega
   have hall := NumPlain.all_of_take s _ hlt HA.out
   by_cases h1 : s.toList = [48]
   ·have t5 : (s.toList == [48]) = true := by simpa using h1
    have HF := Lib.hid (show NumPlain.canonUB s = true from NumPlain.canonU_one ((toList_data s).symm.trans h1))
    clear h1 hall
    go_wp2
    go_ret
    exact ⟨by rw [HF.out]; rfl, rfl⟩
   ·have t5 : (s.toList == [48]) = false := by simpa using h1
    by_cases e0 : 0 < s.size
    ·have HF := Lib.hid (show NumPlain.canonUB s = _ from NumPlain.canonU_other s e0 hall (by rw [← toList_data]; exact h1))
     have t3 : s.toList.isEmpty = false := by rw [toList_data s]; exact NumPlain.data_ne s e0
     have hz := NumPlain.toNat_int s[0] 48 (by decide)
     by_cases hz0 : (s[0].toNat : Int) = 48
     ·have t4 : ((s[0].toNat : Int) != 48) = false := by simpa using hz0
      have HZ := Lib.hid (hz.2 hz0)
      clear hz hz0 hall h1
      go_wp2
      go_ret
      exact ⟨by rw [HF.out, HZ.out]; rfl, rfl⟩
     ·have t4 : ((s[0].toNat : Int) != 48) = true := by simpa using hz0
      have HZ := Lib.hid (mt hz.1 hz0)
      clear hz hz0 hall h1
      go_wp2
      go_ret
      exact ⟨by rw [HF.out]; simp [show ¬ s[0] = 48 from HZ.out], rfl⟩
    ·have HF := Lib.hid (show NumPlain.canonUB s = false from NumPlain.canonU_empty s e0)
     have t3 : s.toList.isEmpty = true := by rw [toList_data s]; exact NumPlain.data_none s e0
     clear hall h1
     go_wp2
     go_ret
     exact ⟨by rw [HF.out]; rfl, rfl⟩
set_option maxHeartbeats 1000000 in
theorem quf (s : ByteArray) (w : World) (hs : s.size ≤ maxLen) :
  Calls Tryz.prog 199 #[.string s] w fun e w' => e = .returned (.tuple #[.int .i64 (NumPlain.parseB s).1, .int .i64 (NumPlain.parseB s).2]) ∧ w = w' := by
 unfold maxLen at hs
 by_cases h0 : 0 < s.size
 ·by_cases h1 : (s[0].toNat : Int) = 45
  ·have t1 : ((s[0].toNat : Int) == 45) = true := by simpa using h1
   have hsz : (s.extract 1 s.size).size = s.size - 1 := by simp
   have hd : s.data.toList.headD 0 = 45 := by rw [NumPlain.headD_data s h0]; exact (NumPlain.toNat_int s[0] 45 (by decide)).2 h1
   have hB := NumPlain.behind_minus hd (show (s.extract 1 s.size).data.toList = s.data.toList.tail by rw [Lib.extract_to_end, List.drop_one])
   have hle : (s.extract 1 s.size).size ≤ 2 ^ 63 - 1 := by omega
   have hsz2 : s.size - 1 ≤ 2 ^ 63 - 1 := by omega
   clear h1 hd
   by_cases hz0 : (s.extract 1 s.size).toList = [48]
   ·have HF := Lib.hid (hB.zero rfl ((toList_data _).symm.trans hz0))
    have t2 : ((s.extract 1 s.size).toList == [48]) = true := by simpa using hz0
    cases hc : NumPlain.canonUB (s.extract 1 s.size)
    all_goals
     clear hB hz0
     go_enter Tryz.func199, Tryz.ntmps199
     go_wp2_with (first | (go_at_call 205; refine (q3s _ _ (by unfold maxLen; omega)).mono ?_; rintro e w' ⟨rfl, rfl⟩) | (go_at_call 172; refine (q3q _ _).mono ?_; rintro e w' ⟨rfl, rfl⟩))
     go_ret2
     exact ⟨by rw [HF.out]; rfl, rfl⟩
   ·have t2 : ((s.extract 1 s.size).toList == [48]) = false := by simpa using hz0
    have hz := fun h => hz0 ((toList_data _).trans h)
    have HZ := Lib.hid hz
    clear hz0 hz
    go_enter Tryz.func199, Tryz.ntmps199
    go_wp2_with fail
    refine (q3s _ _ (by unfold maxLen; omega)).mono ?_
    rintro e w' ⟨rfl, rfl⟩
    generalize hx : s.extract 1 s.size = t at *
    have HX := Lib.hid hx
    clear hx
    have hz := HZ.out
    clear HZ
    cases hc : NumPlain.canonUB t
    ·have HF := Lib.hid (hB.bad hc)
     go_wp2_with (first | (go_at_call 205; refine (q3s _ _ (by unfold maxLen; omega)).mono ?_; rintro e w' ⟨rfl, rfl⟩) | (go_at_call 172; refine (q3q _ _).mono ?_; rintro e w' ⟨rfl, rfl⟩))
     go_ret2
     exact ⟨by rw [HF.out]; rfl, rfl⟩
    ·have hz' : True := trivial
     have hdg := NumPlain.canonUB_dig hc
     have HG := Lib.hid (hB.good hc (fun _ => hz))
     by_cases hl : 16 < t.size
     ·have HF := Lib.hid (NumPlain.right_big true (NumPlain.canonUB_big hc hl))
      clear hdg hB
      go_wp2_with (first | (go_at_call 205; refine (q3s _ _ (by unfold maxLen; omega)).mono ?_; rintro e w' ⟨rfl, rfl⟩) | (go_at_call 172; refine (q3q _ _).mono ?_; rintro e w' ⟨rfl, rfl⟩))
      go_ret2
      exact ⟨by rw [HG.out, HF.out]; rfl, rfl⟩
     ·have HC := Lib.hid hdg
      have hl' : t.size ≤ 16 := by omega
      clear hdg hB hl
      go_wp2_with (first | (go_at_call 205; refine (q3s _ _ (by unfold maxLen; omega)).mono ?_; rintro e w' ⟨rfl, rfl⟩) | (go_at_call 172; refine (q3q _ _).mono ?_; rintro e w' ⟨rfl, rfl⟩))
      go_loop [6, 7] (fun n i => ∃ k : Nat, k ≤ t.size ∧ i = .int .i64 k ∧ n = .int .i64 (NumPlain.decB t k)) (fun _ i => t.size - (intOf i).toNat)
      case atStart => exact ⟨0, Nat.zero_le _, rfl, rfl⟩
      case round =>
       obtain ⟨k, hk, rfl, rfl⟩ := hrel
       by_cases hlt : k < t.size
       ·obtain ⟨d1, d2⟩ := NumPlain.dig_at HC.out k hlt
        have b1 := NumPlain.decB_bd HC.out k (by omega)
        have HS := Lib.hid (NumPlain.decB_succ t k hlt)
        have b2 := NumPlain.decB_bd HC.out (k + 1) (by omega)
        rw [HS.out] at b2
        generalize NumPlain.decB t k = n at *
        go_wp2
        go_round
        case rel => exact ⟨k + 1, by omega, by go_num, by rw [HS.out]; go_num⟩
        case measure => simp [intOf]; omega
       ·obtain rfl : k = t.size := by omega
        have b1 := NumPlain.decB_bd HC.out t.size (by omega)
        have HA := Lib.hid (NumPlain.decB_all t)
        rw [← NumPlain.decB_all t] at HG
        generalize NumPlain.decB t t.size = n at *
        cases hv : NumPlain.validB (-(n : Int))
        all_goals
         have HR := Lib.hid (show NumPlain.right (-(n : Int)) = _ by simp only [NumPlain.right, hv]; rfl)
         go_wp2_with (first | (go_at_call 205; refine (q3s _ _ (by unfold maxLen; omega)).mono ?_; rintro e w' ⟨rfl, rfl⟩) | (go_at_call 172; refine (q3q _ _).mono ?_; rintro e w' ⟨rfl, rfl⟩))
         go_ret2
         exact ⟨by rw [HG.out]; simp only [if_true]; rw [HR.out]; rfl, rfl⟩
  ·have t1 : ((s[0].toNat : Int) == 45) = false := by simpa using h1
   have hB := NumPlain.behind_plus (s := s) (by rw [NumPlain.headD_data s h0]; exact mt (NumPlain.toNat_int s[0] 45 (by decide)).1 h1)
   clear h1
   go_enter Tryz.func199, Tryz.ntmps199
   cases hc : NumPlain.canonUB s
   ·have HF := Lib.hid (hB.bad hc)
    go_wp2_with (first | (go_at_call 205; refine (q3s _ _ (by unfold maxLen; omega)).mono ?_; rintro e w' ⟨rfl, rfl⟩) | (go_at_call 172; refine (q3q _ _).mono ?_; rintro e w' ⟨rfl, rfl⟩))
    go_ret2
    exact ⟨by rw [HF.out]; rfl, rfl⟩
   ·have hz' : True := trivial
    have hdg := NumPlain.canonUB_dig hc
    have HG := Lib.hid (hB.good hc (fun h => by cases h))
    by_cases hl : 16 < s.size
    ·have HF := Lib.hid (NumPlain.right_big false (NumPlain.canonUB_big hc hl))
     clear hdg hB
     go_wp2_with (first | (go_at_call 205; refine (q3s _ _ (by unfold maxLen; omega)).mono ?_; rintro e w' ⟨rfl, rfl⟩) | (go_at_call 172; refine (q3q _ _).mono ?_; rintro e w' ⟨rfl, rfl⟩))
     go_ret2
     exact ⟨by rw [HG.out, HF.out]; rfl, rfl⟩
    ·have HC := Lib.hid hdg
     have hl' : s.size ≤ 16 := by omega
     clear hdg hB hl
     go_wp2_with (first | (go_at_call 205; refine (q3s _ _ (by unfold maxLen; omega)).mono ?_; rintro e w' ⟨rfl, rfl⟩) | (go_at_call 172; refine (q3q _ _).mono ?_; rintro e w' ⟨rfl, rfl⟩))
     go_loop [6, 7] (fun n i => ∃ k : Nat, k ≤ s.size ∧ i = .int .i64 k ∧ n = .int .i64 (NumPlain.decB s k)) (fun _ i => s.size - (intOf i).toNat)
     case atStart => exact ⟨0, Nat.zero_le _, rfl, rfl⟩
     case round =>
      obtain ⟨k, hk, rfl, rfl⟩ := hrel
      by_cases hlt : k < s.size
      ·obtain ⟨d1, d2⟩ := NumPlain.dig_at HC.out k hlt
       have b1 := NumPlain.decB_bd HC.out k (by omega)
       have HS := Lib.hid (NumPlain.decB_succ s k hlt)
       have b2 := NumPlain.decB_bd HC.out (k + 1) (by omega)
       rw [HS.out] at b2
       generalize NumPlain.decB s k = n at *
       go_wp2
       go_round
       case rel => exact ⟨k + 1, by omega, by go_num, by rw [HS.out]; go_num⟩
       case measure => simp [intOf]; omega
      ·obtain rfl : k = s.size := by omega
       have b1 := NumPlain.decB_bd HC.out s.size (by omega)
       have HA := Lib.hid (NumPlain.decB_all s)
       rw [← NumPlain.decB_all s] at HG
       generalize NumPlain.decB s s.size = n at *
       cases hv : NumPlain.validB (n : Int)
       all_goals
        have HR := Lib.hid (show NumPlain.right (n : Int) = _ by simp only [NumPlain.right, hv]; rfl)
        go_wp2_with (first | (go_at_call 205; refine (q3s _ _ (by unfold maxLen; omega)).mono ?_; rintro e w' ⟨rfl, rfl⟩) | (go_at_call 172; refine (q3q _ _).mono ?_; rintro e w' ⟨rfl, rfl⟩))
        go_ret2
        exact ⟨by rw [HG.out]; simp only [Bool.false_eq_true, if_false]; rw [HR.out]; rfl, rfl⟩
 ·have hc : NumPlain.canonUB s = false := NumPlain.canonU_empty s h0
  have hB := NumPlain.behind_plus (s := s) (by
   have : s.data.toList = [] := by have := NumPlain.data_none s h0; simpa using this
   rw [this]; decide)
  have HF := Lib.hid (hB.bad hc)
  clear hB
  go_enter Tryz.func199, Tryz.ntmps199
  go_wp2_with (first | (go_at_call 205; refine (q3s _ _ (by unfold maxLen; omega)).mono ?_; rintro e w' ⟨rfl, rfl⟩) | (go_at_call 172; refine (q3q _ _).mono ?_; rintro e w' ⟨rfl, rfl⟩))
  go_ret2
  exact ⟨by rw [HF.out]; rfl, rfl⟩
end Go.Proofs.YtkffpfapfljinaaGreatDoor
