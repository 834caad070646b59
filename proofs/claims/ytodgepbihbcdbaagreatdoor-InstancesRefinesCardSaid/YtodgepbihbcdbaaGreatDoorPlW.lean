/-
  Plain laws: keys remain the same when unknown values are replaced.
-/
import Derived.Test.YtodgepbihbcdbaaGreatDoorPlV
namespace Go.Proofs.YtodgepbihbcdbaaGreatDoor
set_option linter.unusedSimpArgs false
set_option linter.unusedVariables false
namespace Abs
open Go.RowKit
open Classical in
theorem fill21_eq (v x : Val) (d : Int) : t_l21_fill v x d = g_l21_fill (fun a0 a1 a2 => if relV a0 v then t_l21_fill a0 a1 a2 else none) v x d := tieF_eq v (x, d)
theorem fill21_spec (v : Val) : ∀ (e : Nat) (x : Val) (d : Nat), v.Fits → Good e v → e ≤ d → d ≤ 1000 → t_l21_fill v x d = some (fillV v x) := by
  induction v using wfV.induction with
  | h v ih =>
    intro e x d hf hg hd hd2
    obtain ⟨f1, f2, f3, f4, f5, f6, f7⟩ := hf.parts
    obtain ⟨e, rfl, hgi⟩ := hg.item
    obtain ⟨d, rfl⟩ : ∃ c, d = c + 1 := ⟨d - 1, by omega⟩
    rw [fill21_eq, fillV_eq]
    unfold g_l21_fill
    by_cases h6 : v.kind = 6
    · rw [decide_eq_true h6, if_pos h6]; rfl
    · rw [decide_eq_false h6, if_neg h6, cond_false]
      have hn := len_i64 f4 (by decide)
      refine loop_map v.items (fun y => fillV y x) (fun acc => Val.mk v.kind v.num v.str acc v.keys) (fun i acc y hi hy ha => ?_) (fun acc ha => ?_)
      · have hm : y ∈ v.items := List.mem_of_getElem? hy
        have hw : IntKind.i64.wrap (((d + 1 : Nat) : Int) - 1) = (d : Int) := by
          rw [show ((d + 1 : Nat) : Int) - 1 = (d : Int) by omega]; exact wrap_in (by omega) (by omega)
        simp only [g_l21_fill_L1, decide_eq_true (show (i : Int) < v.items.length by omega), decide_eq_true (show ((d + 1 : Nat) : Int) > 0 by omega), cond_true, idx_nat, hy, Option.bind_some, if_pos (show relV y v from hm), hw, ih y hm e x d (f7 y hm) (hgi y hm) (by omega) (by omega), app_one acc _ (m := 80) (by decide) (show acc.length < v.items.length by omega) f4, wrap_nat hi (show v.items.length ≤ 9223372036854775807 by omega)]
      · simp only [g_l21_fill_L1, decide_eq_false (show ¬ (v.items.length : Int) < v.items.length by omega), cond_false]
theorem names_all : ∀ (l : List Val) (out : List ByteArray), (namesS l out).2 = 0 → ∀ x ∈ l, x.kind = 3
  | [], _, _, x, hx => absurd hx List.not_mem_nil
  | y :: r, out, h, x, hx => by
    rw [namesS_cons] at h
    by_cases h6 : y.kind = 6
    · rw [if_pos h6] at h; cases h
    rw [if_neg h6] at h
    by_cases h3 : y.kind = 3
    · rw [if_neg (by simp [h3])] at h
      by_cases hb : hasB out y.str = true
      · rw [if_pos hb] at h; cases h
      · rw [if_neg hb] at h
        rcases List.mem_cons.1 hx with rfl | hx
        · exact h3
        · exact names_all r _ h x hx
    · rw [if_pos h3] at h; cases h
theorem fill_same {v : Val} (h6 : v.kind ≠ 6) (h : ∀ y ∈ v.items, ∀ x, fillV y x = y) (x : Val) : fillV v x = v := by
  rw [fillV_eq, if_neg h6]
  have : v.items.map (fun y => fillV y x) = v.items := by
    rw [List.map_congr_left (g := id) fun y hy => h y hy x]; simp
  rw [this]
  cases v; rfl
theorem keys_fill (r : Int) {v : Val} (h : Ck v) (x : Val) (hk : (keysS r v).2 = 0) : keysS r (fillV v x) = keysS r v := by
  unfold keysS at hk ⊢
  by_cases h0 : r = 0
  · rw [if_pos h0, if_pos h0]
  rw [if_neg h0] at hk ⊢
  rw [if_neg h0]
  by_cases h1 : r = 1
  · rw [if_pos h1] at hk ⊢
    rw [if_pos h1]
    unfold countS at hk
    by_cases h6 : v.kind = 6
    · rw [if_pos h6] at hk; cases hk
    rw [if_neg h6] at hk
    by_cases hz : v.kind = 0
    · rw [if_pos hz] at hk; cases hk
    rw [if_neg hz] at hk
    have hi : v.items = [] := by
      cases cvS_cases (k := 2) (.inr (.inl rfl)) h with
      | unk e _ => rw [e] at h6; exact absurd rfl h6
      | bad _ e => rw [e, if_pos (show ((vZ, (6 : Int)) : Val × Int).2 ≠ 0 by decide)] at hk; cases hk
      | @val y _ e _ _ _ _ => exact e
    rw [fill_same h6 (fun y hy => by rw [hi] at hy; exact absurd hy List.not_mem_nil)]
  rw [if_neg h1] at hk ⊢
  rw [if_neg h1]
  by_cases h2 : r = 2
  · rw [if_pos h2] at hk ⊢
    rw [if_pos h2]
    unfold namedS at hk
    by_cases h6 : v.kind = 6
    · rw [if_pos h6] at hk; cases hk
    rw [if_neg h6] at hk
    by_cases h5 : v.kind = 5
    · have e : fillV v x = Val.mk v.kind v.num v.str (v.items.map fun y => fillV y x) v.keys := by rw [fillV_eq, if_neg h6]
      have ek : (fillV v x).kind = v.kind := by rw [e]; rfl
      have ey : (fillV v x).keys = v.keys := by rw [e]; rfl
      unfold namedS
      rw [if_neg (by rw [ek]; exact h6), if_pos (by rw [ek]; exact h5), if_neg h6, if_pos h5, ey]
    rw [if_neg h5] at hk
    by_cases h4 : v.kind = 4
    · rw [if_pos h4] at hk
      have hn : (namesS v.items []).2 = 0 := by
        by_cases e : (namesS v.items []).2 = 0
        · exact e
        · rw [if_pos e] at hk; exact absurd hk e
      rw [fill_same h6 (fun y hy z => ?_)]
      have k3 := names_all v.items [] hn y hy
      have hs := (h.ok.item y hy).shape
      exact fill_same (by omega) (fun u hu => by rw [hs.2.2.2.2.2.1 (by omega) (by omega)] at hu; exact absurd hu List.not_mem_nil) z
    · rw [if_neg h4] at hk; cases hk
  · rw [if_neg h2] at hk; cases hk
theorem law_Refines (r : Int) (v x : Val) (hv : v.Fits) (hx : x.Fits) : g_l21_InstancesRefines r v x = some true := by
  unfold g_l21_InstancesRefines
  obtain ⟨b, hb, hb2⟩ := right_spec hv
  rw [hb, Option.bind_some]
  cases b with
  | false => rw [Bool.not_false, cond_true, awake21]; rfl
  | true =>
    obtain ⟨hc, _⟩ := hb2 rfl
    rw [Bool.not_true, cond_false, show m_small x 20 = some (smallV x 20) from gd_of ⟨hx, by decide, by decide⟩, Option.bind_some]
    cases smallV x 20 with
    | false => rw [Bool.not_false, cond_true, awake21]; rfl
    | true =>
      rw [Bool.not_true, cond_false, m_checkE_eq hx, Option.bind_some]
      by_cases hx0 : checkE x = 0
      · have fy := fill_fits v x hx hv
        rw [decide_eq_true hx0, Bool.not_true, cond_false, Keys_spec r hc, Option.bind_some, show t_l21_fill v x 32 = some (fillV v x) from fill21_spec v 32 x 32 hv (good_check hc.ck) (by decide) (by decide), Option.bind_some]
        by_cases he : (keysS r v).2 = 0
        · rw [decide_eq_true he, Bool.not_true, cond_false, m_checkE_eq fy, Option.bind_some]
          by_cases hy : checkE (fillV v x) = 0
          · have e := keys_fill r hc x he
            rw [decide_eq_true hy, Bool.not_true, cond_false, Keys_spec r (ck_of fy hy), Option.bind_some, e, decide_eq_true he, cond_true, keys_self _ (by have := keysS_len r v; omega), Option.bind_some, cond_true, awake21]; rfl
          · rw [decide_eq_false hy, Bool.not_false, cond_true, awake21]; rfl
        · rw [decide_eq_false he, Bool.not_false, cond_true, awake21]; rfl
      · rw [decide_eq_false hx0, Bool.not_false, cond_true, awake21]; rfl
end Abs
end Go.Proofs.YtodgepbihbcdbaaGreatDoor
