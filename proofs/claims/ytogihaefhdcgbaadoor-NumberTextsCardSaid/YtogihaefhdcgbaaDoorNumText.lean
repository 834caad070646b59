/-
  Contracts of the functions of the packages number and provisionref01 that read or make texts.
-/
import Derived.Test.YtogihaefhdcgbaaDoorNumWalks
import Derived.Test.YtogihaefhdcgbaaDoorShelf
import Derived.Lib.IndexBytes
import Derived.Lib.AtoiErrMem
import Derived.Lib.LaidTab
namespace Go.Proofs.YtogihaefhdcgbaaDoor
open Go.RowKit

theorem toList_data (s : ByteArray) : s.toList = s.data.toList := ByteArray.toList_eq s

set_option maxHeartbeats 800000 in
theorem canonical_any (s : ByteArray) (w : World) (hs : s.size ≤ maxLen) :
    Calls Tryd.prog 27 #[.string s] w fun e w' => e = .returned (.bool (NumPlain.canonB s.data.toList)) ∧ w = w' := by
  unfold maxLen at hs
  have key : ∀ (t : ByteArray) (b : Bool), (NumPlain.canonB s.data.toList = NumPlain.canonU t.data.toList) → NumPlain.canonU t.data.toList = b → NumPlain.canonB s.data.toList = b := fun t b h1 h2 => h1.trans h2
  by_cases h0 : 0 < s.size
  · by_cases h1 : (s[0].toNat : Int) = 45
    · have t1 : ((s[0].toNat : Int) == 45) = true := by simpa using h1
      have hd : s.data.toList.headD 0 = 45 := by rw [NumPlain.headD_data s h0]; exact (NumPlain.toNat_int s[0] 45 (by decide)).2 h1
      by_cases h2 : (s.extract 1 s.size).toList = [48]
      · have t2 : ((s.extract 1 s.size).toList == [48]) = true := by simpa using h2
        have HC : Hid (NumPlain.canonB s.data.toList = false) := NumPlain.canonB_zero hd (by rw [toList_data, Lib.extract_to_end] at h2; rw [← List.drop_one]; exact h2)
        clear h1 h2 hd key
        go_enter Tryd.func27, Tryd.ntmps27
        go_wp2
        go_ret
        exact ⟨by rw [HC.out]; rfl, rfl⟩
      · have t2 : ((s.extract 1 s.size).toList == [48]) = false := by simpa using h2
        have hsz : (s.extract 1 s.size).size = s.size - 1 := by simp
        have HK := Lib.hid (fun b => key (s.extract 1 s.size) b (by rw [Lib.extract_to_end, List.drop_one]; exact NumPlain.canonB_minus hd (by rw [toList_data, Lib.extract_to_end, List.drop_one] at h2; exact h2)))
        clear h1 h2 hd key
        go_enter Tryd.func27, Tryd.ntmps27
        go_wp2
        rw [← hsz]
        have hle : (s.extract 1 s.size).size ≤ 2 ^ 63 - 1 := by omega
        clear t2 hsz
        generalize s.extract 1 s.size = t at *
        go_loop [18] (fun i => ∃ k : Nat, k ≤ t.size ∧ i = .int .i64 k ∧ (t.data.toList.take k).all NumPlain.isDig = true) (fun i => t.size - (intOf i).toNat)
        case atStart => exact ⟨0, Nat.zero_le _, rfl, rfl⟩
        case round =>
          obtain ⟨k, hk, rfl, hall⟩ := hrel
          have HA := Lib.hid hall
          clear hall
          by_cases hlt : k < t.size
          · have hd := NumPlain.isDig_iff t[k]
            cases hdg : NumPlain.isDig t[k]
            · have HF := Lib.hid (HK.out _ (NumPlain.canonU_bad (NumPlain.not_all t k hlt hdg)))
              rw [hdg] at hd
              by_cases hlo : 48 ≤ (t[k].toNat : Int)
              · have hhi : 57 < (t[k].toNat : Int) := by
                  have := mt hd.2 (by decide)
                  omega
                clear hd hdg
                go_wp2
                go_ret
                exact ⟨by rw [HF.out]; rfl, rfl⟩
              · have hlo' : (t[k].toNat : Int) < 48 := by omega
                clear hd hdg hlo
                go_wp2
                go_ret
                exact ⟨by rw [HF.out]; rfl, rfl⟩
            · have HS := Lib.hid (NumPlain.take_all_snoc t k hlt)
              have HD := Lib.hid hdg
              rw [hdg] at hd
              obtain ⟨hlo, hhi⟩ := hd.1 rfl
              clear hd hdg
              go_wp2
              go_round
              case rel => exact ⟨k + 1, by omega, by go_num, by rw [HS.out, HA.out, HD.out]; rfl⟩
              case measure => simp [intOf]; omega
          · obtain rfl : k = t.size := by omega
            have hall := NumPlain.all_of_take t _ hlt HA.out
            by_cases e0 : 0 < t.size
            · have HF := Lib.hid (HK.out _ (NumPlain.canonU_full t e0 hall))
              have t3 : t.toList.isEmpty = false := by rw [toList_data t]; exact NumPlain.data_ne t e0
              have hz := NumPlain.toNat_int t[0] 48 (by decide)
              by_cases hz0 : (t[0].toNat : Int) = 48
              · have t4 : ((t[0].toNat : Int) != 48) = false := by simpa using hz0
                have HZ := Lib.hid (hz.2 hz0)
                clear hz hz0 hall
                by_cases h1 : t.size = 1
                · have t5 : ((t.size : Int) == 1) = true := by simpa using (show (t.size : Int) = 1 by omega)
                  have HO := Lib.hid h1
                  clear h1
                  go_wp2
                  go_ret
                  exact ⟨by rw [HF.out]; simp [HO.out], rfl⟩
                · have t5 : ((t.size : Int) == 1) = false := by simpa using (show ¬ (t.size : Int) = 1 by omega)
                  have HO := Lib.hid h1
                  clear h1
                  go_wp2
                  go_ret
                  exact ⟨by rw [HF.out, HZ.out]; simp [HO.out], rfl⟩
              · have t4 : ((t[0].toNat : Int) != 48) = true := by simpa using hz0
                have HZ := Lib.hid (mt hz.1 hz0)
                clear hz hz0 hall
                go_wp2
                go_ret
                exact ⟨by rw [HF.out]; simp [show ¬ t[0] = 48 from HZ.out], rfl⟩
            · have HF := Lib.hid (HK.out _ (NumPlain.canonU_empty t e0))
              have t3 : t.toList.isEmpty = true := by rw [toList_data t]; exact NumPlain.data_none t e0
              clear hall
              go_wp2
              go_ret
              exact ⟨by rw [HF.out]; rfl, rfl⟩
    · have t1 : ((s[0].toNat : Int) == 45) = false := by simpa using h1
      have HK := Lib.hid (fun b => key s b (NumPlain.canonB_plus (by rw [NumPlain.headD_data s h0]; exact mt (NumPlain.toNat_int s[0] 45 (by decide)).1 h1)))
      clear h1 key
      go_enter Tryd.func27, Tryd.ntmps27
      go_wp2
      generalize hst : s = t at *
      subst hst
      go_loop [18] (fun i => ∃ k : Nat, k ≤ s.size ∧ i = .int .i64 k ∧ (s.data.toList.take k).all NumPlain.isDig = true) (fun i => s.size - (intOf i).toNat)
      case atStart => exact ⟨0, Nat.zero_le _, rfl, rfl⟩
      case round =>
        obtain ⟨k, hk, rfl, hall⟩ := hrel
        have HA := Lib.hid hall
        clear hall
        by_cases hlt : k < s.size
        · have hd := NumPlain.isDig_iff s[k]
          cases hdg : NumPlain.isDig s[k]
          · have HF := Lib.hid (HK.out _ (NumPlain.canonU_bad (NumPlain.not_all s k hlt hdg)))
            rw [hdg] at hd
            by_cases hlo : 48 ≤ (s[k].toNat : Int)
            · have hhi : 57 < (s[k].toNat : Int) := by
                have := mt hd.2 (by decide)
                omega
              clear hd hdg
              go_wp2
              go_ret
              exact ⟨by rw [HF.out]; rfl, rfl⟩
            · have hlo' : (s[k].toNat : Int) < 48 := by omega
              clear hd hdg hlo
              go_wp2
              go_ret
              exact ⟨by rw [HF.out]; rfl, rfl⟩
          · have HS := Lib.hid (NumPlain.take_all_snoc s k hlt)
            have HD := Lib.hid hdg
            rw [hdg] at hd
            obtain ⟨hlo, hhi⟩ := hd.1 rfl
            clear hd hdg
            go_wp2
            go_round
            case rel => exact ⟨k + 1, by omega, by go_num, by rw [HS.out, HA.out, HD.out]; rfl⟩
            case measure => simp [intOf]; omega
        · obtain rfl : k = s.size := by omega
          have hall := NumPlain.all_of_take s _ hlt HA.out
          by_cases e0 : 0 < s.size
          · have HF := Lib.hid (HK.out _ (NumPlain.canonU_full s e0 hall))
            have t3 : s.toList.isEmpty = false := by rw [toList_data s]; exact NumPlain.data_ne s e0
            have hz := NumPlain.toNat_int s[0] 48 (by decide)
            by_cases hz0 : (s[0].toNat : Int) = 48
            · have t4 : ((s[0].toNat : Int) != 48) = false := by simpa using hz0
              have HZ := Lib.hid (hz.2 hz0)
              clear hz hz0 hall
              by_cases h1 : s.size = 1
              · have t5 : ((s.size : Int) == 1) = true := by simpa using (show (s.size : Int) = 1 by omega)
                have HO := Lib.hid h1
                clear h1
                go_wp2
                go_ret
                exact ⟨by rw [HF.out]; simp [HO.out], rfl⟩
              · have t5 : ((s.size : Int) == 1) = false := by simpa using (show ¬ (s.size : Int) = 1 by omega)
                have HO := Lib.hid h1
                clear h1
                go_wp2
                go_ret
                exact ⟨by rw [HF.out, HZ.out]; simp [HO.out], rfl⟩
            · have t4 : ((s[0].toNat : Int) != 48) = true := by simpa using hz0
              have HZ := Lib.hid (mt hz.1 hz0)
              clear hz hz0 hall
              go_wp2
              go_ret
              exact ⟨by rw [HF.out]; simp [show ¬ s[0] = 48 from HZ.out], rfl⟩
          · have HF := Lib.hid (HK.out _ (NumPlain.canonU_empty s e0))
            have t3 : s.toList.isEmpty = true := by rw [toList_data s]; exact NumPlain.data_none s e0
            clear hall
            go_wp2
            go_ret
            exact ⟨by rw [HF.out]; rfl, rfl⟩
  · have HF : Hid (NumPlain.canonB s.data.toList = false) := NumPlain.canonB_none s h0
    have t3 : s.toList.isEmpty = true := by rw [toList_data s]; exact NumPlain.data_none s h0
    clear key
    go_enter Tryd.func27, Tryd.ntmps27
    go_wp2
    go_loop [18] (fun i => i = .int .i64 0) (fun _ => 0)
    case atStart => rfl
    case round =>
      obtain rfl := hrel
      go_wp2
      go_ret
      exact ⟨by rw [HF.out]; rfl, rfl⟩

/-- WHAT THE LAW'S ROW LAYS: strconv's table, and its error. -/
def Env (w : World) : Prop := Lib.TabIs Tryd.prog w "internal/strconv.uint64pow10" .u64 Lib.pow10Tab ∧ ∃ tp p, w.var? Tryd.prog "strconv.ErrRange" = some #[.iface tp p]
theorem var?_keep {P : Program} {w w' : World} {n : String} {cs : Array Value} (h : Below w.heap.size w w') (hv : w.var? P n = some cs) : w'.var? P n = some cs := by
  unfold World.var? at hv ⊢
  cases hg : P.globalNamed n with
  | none => rw [hg] at hv; exact hv
  | some g =>
    rw [hg] at hv
    simp only [Option.bind_some] at hv ⊢
    have hlt : g < w.heap.size := by
      rcases Nat.lt_or_ge g w.heap.size with h | h
      · exact h
      · rw [Array.getElem?_eq_none h] at hv; simp at hv
    rw [h.block g hlt]; exact hv
theorem Env.keep {w w' : World} (h : Env w) (hb : Below w.heap.size w w') : Env w' :=
  ⟨var?_keep hb h.1, let ⟨tp, p, hv⟩ := h.2; ⟨tp, p, var?_keep hb hv⟩⟩

theorem parse_range {l : List UInt8} (h : NumPlain.canonB l = true) (hr : ¬ (-9223372036854775808 ≤ NumPlain.sval l ∧ NumPlain.sval l ≤ 9223372036854775807)) : NumPlain.parse l = (0, 5) := by
  have hv : NumPlain.validB (NumPlain.sval l) = false := NumPlain.validB_no (by omega)
  simp [NumPlain.parse, h, NumPlain.right, hv]

set_option maxHeartbeats 400000 in
theorem parse_any (s : ByteArray) (w : World) (hs : s.size ≤ 281474976710656) (hE : Env w) :
    Calls Tryd.prog 11 #[.string s] w fun e w' => e = .returned (.tuple #[.int .i64 (NumPlain.parseB s).1, .int .i64 (NumPlain.parseB s).2]) ∧ Below w.heap.size w w' := by
  have HE := Lib.hid hE
  clear hE
  cases hc : NumPlain.canonB s.data.toList with
  | false =>
    have HP : Hid (NumPlain.parseB s = (0, 2)) := by simp [Hid, NumPlain.parseB, NumPlain.parse, hc]
    go_enter Tryd.func11, Tryd.ntmps11
    go_wp2_with (go_at_call 27; refine (canonical_any _ _ (by unfold maxLen; omega)).mono ?_; rintro e w' ⟨rfl, rfl⟩)
    go_ret2
    exact ⟨by rw [HP.out]; rfl, Below.refl _ _⟩
  | true =>
    by_cases hr : -9223372036854775808 ≤ NumPlain.sval s.data.toList ∧ NumPlain.sval s.data.toList ≤ 9223372036854775807
    · have hp : Lib.parseIntB 64 s.data.toList = .ok (NumPlain.sval s.data.toList) := by rw [NumPlain.parseIntB_canon hc, if_pos hr]
      have HP := Lib.hid (show NumPlain.parseB s = NumPlain.right (NumPlain.sval s.data.toList) by simp [NumPlain.parseB, NumPlain.parse, hc])
      have HO := Lib.hid hp
      clear hp
      generalize NumPlain.sval s.data.toList = v at *
      cases hv : NumPlain.validB v
      all_goals
        have HR := Lib.hid (show NumPlain.right v = _ by simp only [NumPlain.right, hv]; rfl)
        go_enter Tryd.func11, Tryd.ntmps11
        go_wp2_with (go_at_call 27; refine (canonical_any _ _ (by unfold maxLen; omega)).mono ?_; rintro e w' ⟨rfl, rfl⟩)
        refine (Tryd.strconv_ParseInt_10_at64_ok s (by omega) v HO.out w).mono ?_
        rintro e w1 ⟨rfl, hw1⟩
        have hb : Below w.heap.size w w1 := by
          rcases hw1 with rfl | ⟨t, rfl⟩
          · exact Below.refl _ _
          · exact Lib.bytesWorld_below _ _ _
        have HB := Lib.hid hb
        clear hw1 hb
        go_wp2_with (go_at_call 13; refine (valid_any _ _).mono ?_; rintro e w' ⟨rfl, rfl⟩)
        go_ret2
        exact ⟨by rw [HP.out, HR.out]; rfl, HB.out⟩
    · have hp : Lib.parseIntB 64 s.data.toList = .range := by rw [NumPlain.parseIntB_canon hc, if_neg hr]
      have HP := Lib.hid (show NumPlain.parseB s = _ from parse_range hc hr)
      have HO := Lib.hid hp
      clear hp hr
      obtain ⟨_, tp, p, hvar⟩ := HE.out
      have HV := Lib.hid hvar
      clear hvar
      go_enter Tryd.func11, Tryd.ntmps11
      go_wp2_with (go_at_call 27; refine (canonical_any _ _ (by unfold maxLen; omega)).mono ?_; rintro e w' ⟨rfl, rfl⟩)
      refine (Tryd.strconv_ParseInt_10_at64_range_var s hs HO.out tp p w HV.out).mono ?_
      rintro e w1 ⟨N, rfl, _, _, hb⟩
      have HB := Lib.hid hb
      clear hb
      go_wp2_with (go_at_call 13; refine (valid_any _ _).mono ?_; rintro e w' ⟨rfl, rfl⟩)
      go_ret2
      exact ⟨by rw [HP.out]; rfl, HB.out⟩

open Go.Sort in
theorem below_grow (w : World) (k : Nat) (os : Array Obj) : Below w.heap.size w (grow (w.drewN k) os) :=
  ⟨rfl, rfl, rfl, by show w.heap.size ≤ (w.heap ++ os).size; rw [Array.size_append]; omega, fun j hj => by
    show (w.heap ++ os)[j]? = w.heap[j]?
    rw [Array.getElem?_append_left hj]⟩

set_option maxHeartbeats 400000 in
theorem format_any (n : Int) (w : World) (h0 : -9223372036854775808 ≤ n) (h1 : n ≤ 9223372036854775807) (hE : Env w) :
    Calls Tryd.prog 15 #[.int .i64 n] w fun e w' => e = .returned (.string ⟨(Lib.itoa n).toArray⟩) ∧ Below w.heap.size w w' := by
  have HE := Lib.hid hE.1
  clear hE
  go_enter Tryd.func15, Tryd.ntmps15
  go_wp2_with fail
  refine (Tryd.strconv_Itoa n h0 h1 w HE.out).mono ?_
  rintro e w1 ⟨rfl, k, os, rfl⟩
  have HB := Lib.hid (below_grow w k os)
  generalize Go.Sort.grow (w.drewN k) os = w1 at *
  go_wp2_with fail
  go_ret
  exact ⟨rfl, HB.out⟩

set_option maxHeartbeats 400000 in
theorem digits_any (s : ByteArray) (w : World) (hs : s.size ≤ maxLen) :
    Calls Tryd.prog 29 #[.string s] w fun e w' => e = .returned (.bool (NumPlain.canonUB s)) ∧ w = w' := by
  unfold maxLen at hs
  go_enter Tryd.func29, Tryd.ntmps29
  go_wp2
  go_loop [3] (fun i => ∃ k : Nat, k ≤ s.size ∧ i = .int .i64 k ∧ (s.data.toList.take k).all NumPlain.isDig = true) (fun i => s.size - (intOf i).toNat)
  case atStart => exact ⟨0, Nat.zero_le _, rfl, rfl⟩
  case round =>
    obtain ⟨k, hk, rfl, hall⟩ := hrel
    have HA := Lib.hid hall
    clear hall
    by_cases hlt : k < s.size
    · have hd := NumPlain.isDig_iff s[k]
      cases hdg : NumPlain.isDig s[k]
      · have HF := Lib.hid (show NumPlain.canonUB s = false from NumPlain.canonU_bad (NumPlain.not_all s k hlt hdg))
        rw [hdg] at hd
        by_cases hlo : 48 ≤ (s[k].toNat : Int)
        · have hhi : 57 < (s[k].toNat : Int) := by
            have := mt hd.2 (by decide)
            omega
          clear hd hdg
          go_wp2
          go_ret
          exact ⟨by rw [HF.out]; rfl, rfl⟩
        · have hlo' : (s[k].toNat : Int) < 48 := by omega
          clear hd hdg hlo
          go_wp2
          go_ret
          exact ⟨by rw [HF.out]; rfl, rfl⟩
      · have HS := Lib.hid (NumPlain.take_all_snoc s k hlt)
        have HD := Lib.hid hdg
        rw [hdg] at hd
        obtain ⟨hlo, hhi⟩ := hd.1 rfl
        clear hd hdg
        go_wp2
        go_round
        case rel => exact ⟨k + 1, by omega, by go_num, by rw [HS.out, HA.out, HD.out]; rfl⟩
        case measure => simp [intOf]; omega
    · obtain rfl : k = s.size := by omega
      have hall := NumPlain.all_of_take s _ hlt HA.out
      by_cases h1 : s.toList = [48]
      · have t5 : (s.toList == [48]) = true := by simpa using h1
        have HF := Lib.hid (show NumPlain.canonUB s = true from NumPlain.canonU_one ((toList_data s).symm.trans h1))
        clear h1 hall
        go_wp2
        go_ret
        exact ⟨by rw [HF.out]; rfl, rfl⟩
      · have t5 : (s.toList == [48]) = false := by simpa using h1
        by_cases e0 : 0 < s.size
        · have HF := Lib.hid (show NumPlain.canonUB s = _ from NumPlain.canonU_other s e0 hall (by rw [← toList_data]; exact h1))
          have t3 : s.toList.isEmpty = false := by rw [toList_data s]; exact NumPlain.data_ne s e0
          have hz := NumPlain.toNat_int s[0] 48 (by decide)
          by_cases hz0 : (s[0].toNat : Int) = 48
          · have t4 : ((s[0].toNat : Int) != 48) = false := by simpa using hz0
            have HZ := Lib.hid (hz.2 hz0)
            clear hz hz0 hall h1
            go_wp2
            go_ret
            exact ⟨by rw [HF.out, HZ.out]; rfl, rfl⟩
          · have t4 : ((s[0].toNat : Int) != 48) = true := by simpa using hz0
            have HZ := Lib.hid (mt hz.1 hz0)
            clear hz hz0 hall h1
            go_wp2
            go_ret
            exact ⟨by rw [HF.out]; simp [show ¬ s[0] = 48 from HZ.out], rfl⟩
        · have HF := Lib.hid (show NumPlain.canonUB s = false from NumPlain.canonU_empty s e0)
          have t3 : s.toList.isEmpty = true := by rw [toList_data s]; exact NumPlain.data_none s e0
          clear hall h1
          go_wp2
          go_ret
          exact ⟨by rw [HF.out]; rfl, rfl⟩

set_option maxHeartbeats 1000000 in
theorem rparse_any (s : ByteArray) (w : World) (hs : s.size ≤ maxLen) :
    Calls Tryd.prog 12 #[.string s] w fun e w' => e = .returned (.tuple #[.int .i64 (NumPlain.parseB s).1, .int .i64 (NumPlain.parseB s).2]) ∧ w = w' := by
  unfold maxLen at hs
  by_cases h0 : 0 < s.size
  · by_cases h1 : (s[0].toNat : Int) = 45
    · have t1 : ((s[0].toNat : Int) == 45) = true := by simpa using h1
      have hsz : (s.extract 1 s.size).size = s.size - 1 := by simp
      have hd : s.data.toList.headD 0 = 45 := by rw [NumPlain.headD_data s h0]; exact (NumPlain.toNat_int s[0] 45 (by decide)).2 h1
      have hB := NumPlain.behind_minus hd (show (s.extract 1 s.size).data.toList = s.data.toList.tail by rw [Lib.extract_to_end, List.drop_one])
      have hle : (s.extract 1 s.size).size ≤ 2 ^ 63 - 1 := by omega
      have hsz2 : s.size - 1 ≤ 2 ^ 63 - 1 := by omega
      clear h1 hd
      by_cases hz0 : (s.extract 1 s.size).toList = [48]
      · have HF := Lib.hid (hB.zero rfl ((toList_data _).symm.trans hz0))
        have t2 : ((s.extract 1 s.size).toList == [48]) = true := by simpa using hz0
        cases hc : NumPlain.canonUB (s.extract 1 s.size)
        all_goals
          clear hB hz0
          go_enter Tryd.func12, Tryd.ntmps12
          go_wp2_with (first | (go_at_call 29; refine (digits_any _ _ (by unfold maxLen; omega)).mono ?_; rintro e w' ⟨rfl, rfl⟩) | (go_at_call 14; refine (rvalid_any _ _).mono ?_; rintro e w' ⟨rfl, rfl⟩))
          go_ret2
          exact ⟨by rw [HF.out]; rfl, rfl⟩
      · have t2 : ((s.extract 1 s.size).toList == [48]) = false := by simpa using hz0
        have hz := fun h => hz0 ((toList_data _).trans h)
        have HZ := Lib.hid hz
        clear hz0 hz
        go_enter Tryd.func12, Tryd.ntmps12
        go_wp2_with fail
        refine (digits_any _ _ (by unfold maxLen; omega)).mono ?_
        rintro e w' ⟨rfl, rfl⟩
        generalize hx : s.extract 1 s.size = t at *
        have HX := Lib.hid hx
        clear hx
        have hz := HZ.out
        clear HZ
        cases hc : NumPlain.canonUB t
        · have HF := Lib.hid (hB.bad hc)
          go_wp2_with (first | (go_at_call 29; refine (digits_any _ _ (by unfold maxLen; omega)).mono ?_; rintro e w' ⟨rfl, rfl⟩) | (go_at_call 14; refine (rvalid_any _ _).mono ?_; rintro e w' ⟨rfl, rfl⟩))
          go_ret2
          exact ⟨by rw [HF.out]; rfl, rfl⟩
        · have hz' : True := trivial
          have hdg := NumPlain.canonUB_dig hc
          have HG := Lib.hid (hB.good hc (fun _ => hz))
          by_cases hl : 16 < t.size
          · have HF := Lib.hid (NumPlain.right_big true (NumPlain.canonUB_big hc hl))
            clear hdg hB
            go_wp2_with (first | (go_at_call 29; refine (digits_any _ _ (by unfold maxLen; omega)).mono ?_; rintro e w' ⟨rfl, rfl⟩) | (go_at_call 14; refine (rvalid_any _ _).mono ?_; rintro e w' ⟨rfl, rfl⟩))
            go_ret2
            exact ⟨by rw [HG.out, HF.out]; rfl, rfl⟩
          · have HC := Lib.hid hdg
            have hl' : t.size ≤ 16 := by omega
            clear hdg hB hl
            go_wp2_with (first | (go_at_call 29; refine (digits_any _ _ (by unfold maxLen; omega)).mono ?_; rintro e w' ⟨rfl, rfl⟩) | (go_at_call 14; refine (rvalid_any _ _).mono ?_; rintro e w' ⟨rfl, rfl⟩))
            go_loop [6, 7] (fun n i => ∃ k : Nat, k ≤ t.size ∧ i = .int .i64 k ∧ n = .int .i64 (NumPlain.decB t k)) (fun _ i => t.size - (intOf i).toNat)
            case atStart => exact ⟨0, Nat.zero_le _, rfl, rfl⟩
            case round =>
              obtain ⟨k, hk, rfl, rfl⟩ := hrel
              by_cases hlt : k < t.size
              · obtain ⟨d1, d2⟩ := NumPlain.dig_at HC.out k hlt
                have b1 := NumPlain.decB_bd HC.out k (by omega)
                have HS := Lib.hid (NumPlain.decB_succ t k hlt)
                have b2 := NumPlain.decB_bd HC.out (k + 1) (by omega)
                rw [HS.out] at b2
                generalize NumPlain.decB t k = n at *
                go_wp2
                go_round
                case rel => exact ⟨k + 1, by omega, by go_num, by rw [HS.out]; go_num⟩
                case measure => simp [intOf]; omega
              · obtain rfl : k = t.size := by omega
                have b1 := NumPlain.decB_bd HC.out t.size (by omega)
                have HA := Lib.hid (NumPlain.decB_all t)
                rw [← NumPlain.decB_all t] at HG
                generalize NumPlain.decB t t.size = n at *
                cases hv : NumPlain.validB (-(n : Int))
                all_goals
                  have HR := Lib.hid (show NumPlain.right (-(n : Int)) = _ by simp only [NumPlain.right, hv]; rfl)
                  go_wp2_with (first | (go_at_call 29; refine (digits_any _ _ (by unfold maxLen; omega)).mono ?_; rintro e w' ⟨rfl, rfl⟩) | (go_at_call 14; refine (rvalid_any _ _).mono ?_; rintro e w' ⟨rfl, rfl⟩))
                  go_ret2
                  exact ⟨by rw [HG.out]; simp only [if_true]; rw [HR.out]; rfl, rfl⟩
    · have t1 : ((s[0].toNat : Int) == 45) = false := by simpa using h1
      have hB := NumPlain.behind_plus (s := s) (by rw [NumPlain.headD_data s h0]; exact mt (NumPlain.toNat_int s[0] 45 (by decide)).1 h1)
      clear h1
      go_enter Tryd.func12, Tryd.ntmps12
      cases hc : NumPlain.canonUB s
      · have HF := Lib.hid (hB.bad hc)
        go_wp2_with (first | (go_at_call 29; refine (digits_any _ _ (by unfold maxLen; omega)).mono ?_; rintro e w' ⟨rfl, rfl⟩) | (go_at_call 14; refine (rvalid_any _ _).mono ?_; rintro e w' ⟨rfl, rfl⟩))
        go_ret2
        exact ⟨by rw [HF.out]; rfl, rfl⟩
      · have hz' : True := trivial
        have hdg := NumPlain.canonUB_dig hc
        have HG := Lib.hid (hB.good hc (fun h => by cases h))
        by_cases hl : 16 < s.size
        · have HF := Lib.hid (NumPlain.right_big false (NumPlain.canonUB_big hc hl))
          clear hdg hB
          go_wp2_with (first | (go_at_call 29; refine (digits_any _ _ (by unfold maxLen; omega)).mono ?_; rintro e w' ⟨rfl, rfl⟩) | (go_at_call 14; refine (rvalid_any _ _).mono ?_; rintro e w' ⟨rfl, rfl⟩))
          go_ret2
          exact ⟨by rw [HG.out, HF.out]; rfl, rfl⟩
        · have HC := Lib.hid hdg
          have hl' : s.size ≤ 16 := by omega
          clear hdg hB hl
          go_wp2_with (first | (go_at_call 29; refine (digits_any _ _ (by unfold maxLen; omega)).mono ?_; rintro e w' ⟨rfl, rfl⟩) | (go_at_call 14; refine (rvalid_any _ _).mono ?_; rintro e w' ⟨rfl, rfl⟩))
          go_loop [6, 7] (fun n i => ∃ k : Nat, k ≤ s.size ∧ i = .int .i64 k ∧ n = .int .i64 (NumPlain.decB s k)) (fun _ i => s.size - (intOf i).toNat)
          case atStart => exact ⟨0, Nat.zero_le _, rfl, rfl⟩
          case round =>
            obtain ⟨k, hk, rfl, rfl⟩ := hrel
            by_cases hlt : k < s.size
            · obtain ⟨d1, d2⟩ := NumPlain.dig_at HC.out k hlt
              have b1 := NumPlain.decB_bd HC.out k (by omega)
              have HS := Lib.hid (NumPlain.decB_succ s k hlt)
              have b2 := NumPlain.decB_bd HC.out (k + 1) (by omega)
              rw [HS.out] at b2
              generalize NumPlain.decB s k = n at *
              go_wp2
              go_round
              case rel => exact ⟨k + 1, by omega, by go_num, by rw [HS.out]; go_num⟩
              case measure => simp [intOf]; omega
            · obtain rfl : k = s.size := by omega
              have b1 := NumPlain.decB_bd HC.out s.size (by omega)
              have HA := Lib.hid (NumPlain.decB_all s)
              rw [← NumPlain.decB_all s] at HG
              generalize NumPlain.decB s s.size = n at *
              cases hv : NumPlain.validB (n : Int)
              all_goals
                have HR := Lib.hid (show NumPlain.right (n : Int) = _ by simp only [NumPlain.right, hv]; rfl)
                go_wp2_with (first | (go_at_call 29; refine (digits_any _ _ (by unfold maxLen; omega)).mono ?_; rintro e w' ⟨rfl, rfl⟩) | (go_at_call 14; refine (rvalid_any _ _).mono ?_; rintro e w' ⟨rfl, rfl⟩))
                go_ret2
                exact ⟨by rw [HG.out]; simp only [Bool.false_eq_true, if_false]; rw [HR.out]; rfl, rfl⟩
  · have hc : NumPlain.canonUB s = false := NumPlain.canonU_empty s h0
    have hB := NumPlain.behind_plus (s := s) (by
      have : s.data.toList = [] := by have := NumPlain.data_none s h0; simpa using this
      rw [this]; decide)
    have HF := Lib.hid (hB.bad hc)
    clear hB
    go_enter Tryd.func12, Tryd.ntmps12
    go_wp2_with (first | (go_at_call 29; refine (digits_any _ _ (by unfold maxLen; omega)).mono ?_; rintro e w' ⟨rfl, rfl⟩) | (go_at_call 14; refine (rvalid_any _ _).mono ?_; rintro e w' ⟨rfl, rfl⟩))
    go_ret2
    exact ⟨by rw [HF.out]; rfl, rfl⟩
end Go.Proofs.YtogihaefhdcgbaaDoor
