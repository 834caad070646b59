/-
  Contracts of the functions of the package number that read or make texts.
-/
import Derived.Test.YtoelojmcopcpcaaGreatDoorNumValid
import Derived.Test.YtoelojmcopcpcaaGreatDoorShelf
import Derived.Lib.IndexBytes
import Derived.Lib.AtoiErrMem
import Derived.Lib.LaidTab
namespace Go.Proofs.YtoelojmcopcpcaaGreatDoor
open Go.RowKit

theorem toList_data (s : ByteArray) : s.toList = s.data.toList := ByteArray.toList_eq s

set_option maxHeartbeats 800000 in
theorem canonical_any (s : ByteArray) (w : World) (hs : s.size ≤ maxLen) :
    Calls Tryz.prog 177 #[.string s] w fun e w' => e = .returned (.bool (NumPlain.canonB s.data.toList)) ∧ w = w' := by
  unfold maxLen at hs
  have key : ∀ (t : ByteArray) (b : Bool), (NumPlain.canonB s.data.toList = NumPlain.canonU t.data.toList) → NumPlain.canonU t.data.toList = b → NumPlain.canonB s.data.toList = b := fun t b h1 h2 => h1.trans h2
  by_cases h0 : 0 < s.size
  · by_cases h1 : (s[0].toNat : Int) = 45
    · have t1 : ((s[0].toNat : Int) == 45) = true := by simpa using h1
      have hd : s.data.toList.headD 0 = 45 := by rw [NumPlain.headD_data s h0]; exact (NumPlain.toNat_int s[0] 45 (by decide)).2 h1
      by_cases h2 : (s.extract 1 s.size).toList = [48]
      · have t2 : ((s.extract 1 s.size).toList == [48]) = true := by simpa using h2
        have HC : Hid (NumPlain.canonB s.data.toList = false) := NumPlain.canonB_zero hd (by rw [toList_data, Lib.extract_to_end] at h2; rw [← List.drop_one]; exact h2)
        clear h1 h2 hd key
        go_enter Tryz.func177, Tryz.ntmps177
        go_wp2
        go_ret
        exact ⟨by rw [HC.out]; rfl, rfl⟩
      · have t2 : ((s.extract 1 s.size).toList == [48]) = false := by simpa using h2
        have hsz : (s.extract 1 s.size).size = s.size - 1 := by simp
        have HK := Lib.hid (fun b => key (s.extract 1 s.size) b (by rw [Lib.extract_to_end, List.drop_one]; exact NumPlain.canonB_minus hd (by rw [toList_data, Lib.extract_to_end, List.drop_one] at h2; exact h2)))
        clear h1 h2 hd key
        go_enter Tryz.func177, Tryz.ntmps177
        go_wp2
        rw [← hsz]
        have hle : (s.extract 1 s.size).size ≤ 2 ^ 63 - 1 := by omega
        clear t2 hsz
        generalize s.extract 1 s.size = t at *
        go_loop [18] (fun i => ∃ k : Nat, k ≤ t.size ∧ i = .int .i64 k ∧ (t.data.toList.take k).all NumPlain.isDig = true) (fun i => t.size - (intOf i).toNat)
        case atStart => exact ⟨0, Nat.zero_le _, rfl, rfl⟩
        case round =>
          obtain ⟨k, hk, rfl, hall⟩ := hrel
          have HA := Lib.hid hall
          clear hall
          by_cases hlt : k < t.size
          · have hd := NumPlain.isDig_iff t[k]
            cases hdg : NumPlain.isDig t[k]
            · have HF := Lib.hid (HK.out _ (NumPlain.canonU_bad (NumPlain.not_all t k hlt hdg)))
              rw [hdg] at hd
              by_cases hlo : 48 ≤ (t[k].toNat : Int)
              · have hhi : 57 < (t[k].toNat : Int) := by
                  have := mt hd.2 (by decide)
                  omega
                clear hd hdg
                go_wp2
                go_ret
                exact ⟨by rw [HF.out]; rfl, rfl⟩
              · have hlo' : (t[k].toNat : Int) < 48 := by omega
                clear hd hdg hlo
                go_wp2
                go_ret
                exact ⟨by rw [HF.out]; rfl, rfl⟩
            · have HS := Lib.hid (NumPlain.take_all_snoc t k hlt)
              have HD := Lib.hid hdg
              rw [hdg] at hd
              obtain ⟨hlo, hhi⟩ := hd.1 rfl
              clear hd hdg
              go_wp2
              go_round
              case rel => exact ⟨k + 1, by omega, by go_num, by rw [HS.out, HA.out, HD.out]; rfl⟩
              case measure => simp [intOf]; omega
          · obtain rfl : k = t.size := by omega
            have hall := NumPlain.all_of_take t _ hlt HA.out
            by_cases e0 : 0 < t.size
            · have HF := Lib.hid (HK.out _ (NumPlain.canonU_full t e0 hall))
              have t3 : t.toList.isEmpty = false := by rw [toList_data t]; exact NumPlain.data_ne t e0
              have hz := NumPlain.toNat_int t[0] 48 (by decide)
              by_cases hz0 : (t[0].toNat : Int) = 48
              · have t4 : ((t[0].toNat : Int) != 48) = false := by simpa using hz0
                have HZ := Lib.hid (hz.2 hz0)
                clear hz hz0 hall
                by_cases h1 : t.size = 1
                · have t5 : ((t.size : Int) == 1) = true := by simpa using (show (t.size : Int) = 1 by omega)
                  have HO := Lib.hid h1
                  clear h1
                  go_wp2
                  go_ret
                  exact ⟨by rw [HF.out]; simp [HO.out], rfl⟩
                · have t5 : ((t.size : Int) == 1) = false := by simpa using (show ¬ (t.size : Int) = 1 by omega)
                  have HO := Lib.hid h1
                  clear h1
                  go_wp2
                  go_ret
                  exact ⟨by rw [HF.out, HZ.out]; simp [HO.out], rfl⟩
              · have t4 : ((t[0].toNat : Int) != 48) = true := by simpa using hz0
                have HZ := Lib.hid (mt hz.1 hz0)
                clear hz hz0 hall
                go_wp2
                go_ret
                exact ⟨by rw [HF.out]; simp [show ¬ t[0] = 48 from HZ.out], rfl⟩
            · have HF := Lib.hid (HK.out _ (NumPlain.canonU_empty t e0))
              have t3 : t.toList.isEmpty = true := by rw [toList_data t]; exact NumPlain.data_none t e0
              clear hall
              go_wp2
              go_ret
              exact ⟨by rw [HF.out]; rfl, rfl⟩
    · have t1 : ((s[0].toNat : Int) == 45) = false := by simpa using h1
      have HK := Lib.hid (fun b => key s b (NumPlain.canonB_plus (by rw [NumPlain.headD_data s h0]; exact mt (NumPlain.toNat_int s[0] 45 (by decide)).1 h1)))
      clear h1 key
      go_enter Tryz.func177, Tryz.ntmps177
      go_wp2
      generalize hst : s = t at *
      subst hst
      go_loop [18] (fun i => ∃ k : Nat, k ≤ s.size ∧ i = .int .i64 k ∧ (s.data.toList.take k).all NumPlain.isDig = true) (fun i => s.size - (intOf i).toNat)
      case atStart => exact ⟨0, Nat.zero_le _, rfl, rfl⟩
      case round =>
        obtain ⟨k, hk, rfl, hall⟩ := hrel
        have HA := Lib.hid hall
        clear hall
        by_cases hlt : k < s.size
        · have hd := NumPlain.isDig_iff s[k]
          cases hdg : NumPlain.isDig s[k]
          · have HF := Lib.hid (HK.out _ (NumPlain.canonU_bad (NumPlain.not_all s k hlt hdg)))
            rw [hdg] at hd
            by_cases hlo : 48 ≤ (s[k].toNat : Int)
            · have hhi : 57 < (s[k].toNat : Int) := by
                have := mt hd.2 (by decide)
                omega
              clear hd hdg
              go_wp2
              go_ret
              exact ⟨by rw [HF.out]; rfl, rfl⟩
            · have hlo' : (s[k].toNat : Int) < 48 := by omega
              clear hd hdg hlo
              go_wp2
              go_ret
              exact ⟨by rw [HF.out]; rfl, rfl⟩
          · have HS := Lib.hid (NumPlain.take_all_snoc s k hlt)
            have HD := Lib.hid hdg
            rw [hdg] at hd
            obtain ⟨hlo, hhi⟩ := hd.1 rfl
            clear hd hdg
            go_wp2
            go_round
            case rel => exact ⟨k + 1, by omega, by go_num, by rw [HS.out, HA.out, HD.out]; rfl⟩
            case measure => simp [intOf]; omega
        · obtain rfl : k = s.size := by omega
          have hall := NumPlain.all_of_take s _ hlt HA.out
          by_cases e0 : 0 < s.size
          · have HF := Lib.hid (HK.out _ (NumPlain.canonU_full s e0 hall))
            have t3 : s.toList.isEmpty = false := by rw [toList_data s]; exact NumPlain.data_ne s e0
            have hz := NumPlain.toNat_int s[0] 48 (by decide)
            by_cases hz0 : (s[0].toNat : Int) = 48
            · have t4 : ((s[0].toNat : Int) != 48) = false := by simpa using hz0
              have HZ := Lib.hid (hz.2 hz0)
              clear hz hz0 hall
              by_cases h1 : s.size = 1
              · have t5 : ((s.size : Int) == 1) = true := by simpa using (show (s.size : Int) = 1 by omega)
                have HO := Lib.hid h1
                clear h1
                go_wp2
                go_ret
                exact ⟨by rw [HF.out]; simp [HO.out], rfl⟩
              · have t5 : ((s.size : Int) == 1) = false := by simpa using (show ¬ (s.size : Int) = 1 by omega)
                have HO := Lib.hid h1
                clear h1
                go_wp2
                go_ret
                exact ⟨by rw [HF.out, HZ.out]; simp [HO.out], rfl⟩
            · have t4 : ((s[0].toNat : Int) != 48) = true := by simpa using hz0
              have HZ := Lib.hid (mt hz.1 hz0)
              clear hz hz0 hall
              go_wp2
              go_ret
              exact ⟨by rw [HF.out]; simp [show ¬ s[0] = 48 from HZ.out], rfl⟩
          · have HF := Lib.hid (HK.out _ (NumPlain.canonU_empty s e0))
            have t3 : s.toList.isEmpty = true := by rw [toList_data s]; exact NumPlain.data_none s e0
            clear hall
            go_wp2
            go_ret
            exact ⟨by rw [HF.out]; rfl, rfl⟩
  · have HF : Hid (NumPlain.canonB s.data.toList = false) := NumPlain.canonB_none s h0
    have t3 : s.toList.isEmpty = true := by rw [toList_data s]; exact NumPlain.data_none s h0
    clear key
    go_enter Tryz.func177, Tryz.ntmps177
    go_wp2
    go_loop [18] (fun i => i = .int .i64 0) (fun _ => 0)
    case atStart => rfl
    case round =>
      obtain rfl := hrel
      go_wp2
      go_ret
      exact ⟨by rw [HF.out]; rfl, rfl⟩

/-- WHAT THE LAW'S ROW LAYS: strconv's table, and its error. -/
def Env (w : World) : Prop := Lib.TabIs Tryz.prog w "internal/strconv.uint64pow10" .u64 Lib.pow10Tab ∧ ∃ tp p, w.var? Tryz.prog "strconv.ErrRange" = some #[.iface tp p]
theorem var?_keep {P : Program} {w w' : World} {n : String} {cs : Array Value} (h : Below w.heap.size w w') (hv : w.var? P n = some cs) : w'.var? P n = some cs := by
  unfold World.var? at hv ⊢
  cases hg : P.globalNamed n with
  | none => rw [hg] at hv; exact hv
  | some g =>
    rw [hg] at hv
    simp only [Option.bind_some] at hv ⊢
    have hlt : g < w.heap.size := by
      rcases Nat.lt_or_ge g w.heap.size with h | h
      · exact h
      · rw [Array.getElem?_eq_none h] at hv; simp at hv
    rw [h.block g hlt]; exact hv
theorem Env.keep {w w' : World} (h : Env w) (hb : Below w.heap.size w w') : Env w' :=
  ⟨var?_keep hb h.1, let ⟨tp, p, hv⟩ := h.2; ⟨tp, p, var?_keep hb hv⟩⟩

theorem parse_range {l : List UInt8} (h : NumPlain.canonB l = true) (hr : ¬ (-9223372036854775808 ≤ NumPlain.sval l ∧ NumPlain.sval l ≤ 9223372036854775807)) : NumPlain.parse l = (0, 5) := by
  have hv : NumPlain.validB (NumPlain.sval l) = false := NumPlain.validB_no (by omega)
  simp [NumPlain.parse, h, NumPlain.right, hv]

set_option maxHeartbeats 400000 in
theorem parse_any (s : ByteArray) (w : World) (hs : s.size ≤ 281474976710656) (hE : Env w) :
    Calls Tryz.prog 157 #[.string s] w fun e w' => e = .returned (.tuple #[.int .i64 (NumPlain.parseB s).1, .int .i64 (NumPlain.parseB s).2]) ∧ Below w.heap.size w w' := by
  have HE := Lib.hid hE
  clear hE
  cases hc : NumPlain.canonB s.data.toList with
  | false =>
    have HP : Hid (NumPlain.parseB s = (0, 2)) := by simp [Hid, NumPlain.parseB, NumPlain.parse, hc]
    go_enter Tryz.func157, Tryz.ntmps157
    go_wp2_with (go_at_call 177; refine (canonical_any _ _ (by unfold maxLen; omega)).mono ?_; rintro e w' ⟨rfl, rfl⟩)
    go_ret2
    exact ⟨by rw [HP.out]; rfl, Below.refl _ _⟩
  | true =>
    by_cases hr : -9223372036854775808 ≤ NumPlain.sval s.data.toList ∧ NumPlain.sval s.data.toList ≤ 9223372036854775807
    · have hp : Lib.parseIntB 64 s.data.toList = .ok (NumPlain.sval s.data.toList) := by rw [NumPlain.parseIntB_canon hc, if_pos hr]
      have HP := Lib.hid (show NumPlain.parseB s = NumPlain.right (NumPlain.sval s.data.toList) by simp [NumPlain.parseB, NumPlain.parse, hc])
      have HO := Lib.hid hp
      clear hp
      generalize NumPlain.sval s.data.toList = v at *
      cases hv : NumPlain.validB v
      all_goals
        have HR := Lib.hid (show NumPlain.right v = _ by simp only [NumPlain.right, hv]; rfl)
        go_enter Tryz.func157, Tryz.ntmps157
        go_wp2_with (go_at_call 177; refine (canonical_any _ _ (by unfold maxLen; omega)).mono ?_; rintro e w' ⟨rfl, rfl⟩)
        refine (Tryz.strconv_ParseInt_10_at64_ok s (by omega) v HO.out w).mono ?_
        rintro e w1 ⟨rfl, hw1⟩
        have hb : Below w.heap.size w w1 := by
          rcases hw1 with rfl | ⟨t, rfl⟩
          · exact Below.refl _ _
          · exact Lib.bytesWorld_below _ _ _
        have HB := Lib.hid hb
        clear hw1 hb
        go_wp2_with (go_at_call 67; refine (valid_any _ _).mono ?_; rintro e w' ⟨rfl, rfl⟩)
        go_ret2
        exact ⟨by rw [HP.out, HR.out]; rfl, HB.out⟩
    · have hp : Lib.parseIntB 64 s.data.toList = .range := by rw [NumPlain.parseIntB_canon hc, if_neg hr]
      have HP := Lib.hid (show NumPlain.parseB s = _ from parse_range hc hr)
      have HO := Lib.hid hp
      clear hp hr
      obtain ⟨_, tp, p, hvar⟩ := HE.out
      have HV := Lib.hid hvar
      clear hvar
      go_enter Tryz.func157, Tryz.ntmps157
      go_wp2_with (go_at_call 177; refine (canonical_any _ _ (by unfold maxLen; omega)).mono ?_; rintro e w' ⟨rfl, rfl⟩)
      refine (Tryz.strconv_ParseInt_10_at64_range_var s hs HO.out tp p w HV.out).mono ?_
      rintro e w1 ⟨N, rfl, _, _, hb⟩
      have HB := Lib.hid hb
      clear hb
      go_wp2_with (go_at_call 67; refine (valid_any _ _).mono ?_; rintro e w' ⟨rfl, rfl⟩)
      go_ret2
      exact ⟨by rw [HP.out]; rfl, HB.out⟩

open Go.Sort in
theorem below_grow (w : World) (k : Nat) (os : Array Obj) : Below w.heap.size w (grow (w.drewN k) os) :=
  ⟨rfl, rfl, rfl, by show w.heap.size ≤ (w.heap ++ os).size; rw [Array.size_append]; omega, fun j hj => by
    show (w.heap ++ os)[j]? = w.heap[j]?
    rw [Array.getElem?_append_left hj]⟩

set_option maxHeartbeats 400000 in
theorem format_any (n : Int) (w : World) (h0 : -9223372036854775808 ≤ n) (h1 : n ≤ 9223372036854775807) (hE : Env w) :
    Calls Tryz.prog 158 #[.int .i64 n] w fun e w' => e = .returned (.string ⟨(Lib.itoa n).toArray⟩) ∧ Below w.heap.size w w' := by
  have HE := Lib.hid hE.1
  clear hE
  go_enter Tryz.func158, Tryz.ntmps158
  go_wp2_with fail
  refine (Tryz.strconv_Itoa n h0 h1 w HE.out).mono ?_
  rintro e w1 ⟨rfl, k, os, rfl⟩
  have HB := Lib.hid (below_grow w k os)
  generalize Go.Sort.grow (w.drewN k) os = w1 at *
  go_wp2_with fail
  go_ret
  exact ⟨rfl, HB.out⟩
end Go.Proofs.YtoelojmcopcpcaaGreatDoor
