/-
  Plain laws: the value at a key; parts of checked values.
-/
import Derived.Test.YtodgepbihbcdbaaGreatDoorPlK
namespace Go.Proofs.YtodgepbihbcdbaaGreatDoor
set_option linter.unusedSimpArgs false
set_option linter.unusedVariables false
namespace Abs
open Go.RowKit
theorem hasB_false {l : List ByteArray} {v : ByteArray} (h : v ∉ l) : hasB l v = false := by
  cases e : hasB l v with
  | false => rfl
  | true => exact absurd (hasB_iff.1 e) h
theorem get_full (v : Val) (key : ByteArray) (hf : v.Fits) (hk : v.kind = 5) (hl : v.keys.length = v.items.length) (hr : Rising v.keys) : g_value_Get v key = some (look v.keys v.items key, hasB v.keys key) := by
  obtain ⟨f1, f2, f3, f4, f5, f6, f7⟩ := hf.parts
  obtain ⟨q, h1, h2, h3, h4, h5⟩ := search_spec v.keys key (by have := len_i64 f5 (by decide); omega) hr
  have hk' : decide (v.kind = 5) = true := decide_eq_true hk
  unfold g_value_Get
  rw [h1, Option.bind_some, hk', Bool.not_true, cond_false]
  cases hq : q.2 with
  | false =>
    rw [Bool.not_false, cond_true, look_not _ _ _ (h5 hq), hasB_false (h5 hq)]
  | true =>
    rw [Bool.not_true, cond_false]
    have e := h4 hq
    obtain ⟨hi, _⟩ := List.getElem?_eq_some_iff.1 e
    have hi' : q.1.toNat < v.items.length := by omega
    have hd : decide (q.1 ≥ (v.items.length : Int)) = false := decide_eq_false (by omega)
    have hI : idx v.items q.1 = some v.items[q.1.toNat] := by
      have := idx_nat v.items q.1.toNat
      rw [show ((q.1.toNat : Nat) : Int) = q.1 by omega] at this
      rw [this, List.getElem?_eq_getElem hi']
    rw [hd, cond_false, hI, Option.bind_some, copied_spec _ (f7 _ (List.getElem_mem hi')), Option.bind_some]
    rw [look_at _ _ _ _ _ hr e (List.getElem?_eq_getElem hi'), hasB_iff.2 (List.mem_of_getElem? e)]
theorem get07_full (v : Val) (key : ByteArray) (hf : v.Fits) (hk : v.kind = 5) (hl : v.keys.length = v.items.length) : g_r07_Get v key = some (look v.keys v.items key, hasB v.keys key) := by
  obtain ⟨f1, f2, f3, f4, f5, f6, f7⟩ := hf.parts
  have hn := len_i64 f5 (by decide)
  unfold g_r07_Get
  rw [decide_eq_true hk, Bool.not_true, cond_false]
  have h := loop_meas (body := g_r07_Get_L1 v key) (fun s => ∃ i : Nat, s = (i : Int) ∧ i ≤ v.keys.length ∧ look (v.keys.drop i) (v.items.drop i) key = look v.keys v.items key ∧ hasB (v.keys.drop i) key = hasB v.keys key) (fun s => v.keys.length - s.toNat) (fun q => q = (look v.keys v.items key, hasB v.keys key)) (by
    rintro s ⟨i, rfl, hi, hh, hg⟩
    rcases Nat.eq_or_lt_of_le hi with h0 | h0
    · subst h0
      rw [List.drop_length] at hh hg
      refine .inr ⟨(vZ, false), by simp only [g_r07_Get_L1, decide_eq_false (show ¬ (v.keys.length : Int) < v.keys.length by omega), cond_false], ?_⟩
      rw [← hh, ← hg]; simp [look, hasB]
    · have h1 : i < v.items.length := by omega
      have hx := List.getElem?_eq_getElem h0
      have hy := List.getElem?_eq_getElem h1
      rw [look_drop _ _ _ _ h0 h1] at hh
      by_cases he : v.keys[i] = key
      · rw [if_pos he] at hh
        refine .inr ⟨(v.items[i], true), by simp only [g_r07_Get_L1, decide_eq_true (show (i : Int) < v.keys.length by omega), decide_eq_true (show (i : Int) < v.items.length by omega), cond_true, idx_nat, hx, hy, Option.bind_some, decide_eq_true he], ?_⟩
        rw [← hh, hasB_iff.2 (he ▸ List.getElem_mem h0)]
      · rw [if_neg he] at hh
        refine .inl ⟨((i + 1 : Nat) : Int), by simp only [g_r07_Get_L1, decide_eq_true (show (i : Int) < v.keys.length by omega), decide_eq_true (show (i : Int) < v.items.length by omega), cond_true, idx_nat, hx, Option.bind_some, decide_eq_false he, cond_false, wrap_nat h0 (show v.keys.length ≤ 9223372036854775807 by omega)], ⟨i + 1, rfl, h0, hh, ?_⟩, by simp only [Int.toNat_natCast]; omega⟩
        rw [← hg, List.drop_eq_getElem_cons h0]
        show hasB (v.keys.drop (i + 1)) key = (decide (key = v.keys[i]) || hasB (v.keys.drop (i + 1)) key)
        rw [decide_eq_false (fun q => he q.symm), Bool.false_or]) 0 ⟨0, rfl, Nat.zero_le _, by simp, by simp⟩
  obtain ⟨q, h1, rfl⟩ := h
  exact h1
theorem ck_of {v : Val} (hf : v.Fits) (h : checkE v = 0) : Ck v := ⟨vok_of hf h, h⟩
/-! ### Part of a checked value -/
mutual
theorem check_mono : ∀ (x : Val) (lv n lv' n' : Int), lv' ≤ lv → n' ≤ n → (checkV x lv n).1 = 0 → (checkV x lv' n').1 = 0 ∧ (checkV x lv' n').2 ≤ (checkV x lv n).2
  | .mk k m s items keys, lv, n, lv', n', h1, h2, h => by
    rw [checkV] at h ⊢
    rw [checkV]
    by_cases c1 : 32 < lv
    · rw [if_pos c1] at h; simp at h
    rw [if_neg c1] at h ⊢
    rw [if_neg (show ¬ 32 < lv' by omega)]
    by_cases c2 : 4096 ≤ n
    · rw [if_pos c2] at h; simp at h
    rw [if_neg c2] at h ⊢
    rw [if_neg (show ¬ 4096 ≤ n' by omega)]
    by_cases c3 : nodeE (.mk k m s items keys) ≠ 0
    · rw [if_pos c3] at h; exact absurd h c3
    rw [if_neg c3] at h ⊢
    rw [if_neg c3]
    exact checkL_mono items (lv + 1) (n + 1) (lv' + 1) (n' + 1) (by omega) (by omega) h
theorem checkL_mono : ∀ (l : List Val) (lv n lv' n' : Int), lv' ≤ lv → n' ≤ n → (checkL l lv n).1 = 0 → (checkL l lv' n').1 = 0 ∧ (checkL l lv' n').2 ≤ (checkL l lv n).2
  | [], lv, n, lv', n', h1, h2, h => by simp only [checkL]; exact ⟨trivial, h2⟩
  | x :: r, lv, n, lv', n', h1, h2, h => by
    rw [checkL] at h ⊢
    rw [checkL]
    by_cases c : (checkV x lv n).1 ≠ 0
    · rw [if_pos c] at h; exact absurd h c
    rw [if_neg c] at h ⊢
    obtain ⟨g1, g2⟩ := check_mono x lv n lv' n' h1 h2 (Classical.not_not.1 c)
    rw [if_neg (by simp [g1])]
    exact checkL_mono r lv _ lv' _ h1 g2 h
end
theorem checkL_item : ∀ (l : List Val) (lv n : Int), 1 ≤ lv → 0 ≤ n → n ≤ 4096 → (checkL l lv n).1 = 0 → ∀ x ∈ l, checkE x = 0
  | [], _, _, _, _, _, _, x, hx => absurd hx List.not_mem_nil
  | y :: r, lv, n, h1, h2, h3, h, x, hx => by
    rw [checkL] at h
    by_cases c : (checkV y lv n).1 ≠ 0
    · rw [if_pos c] at h; exact absurd h c
    rw [if_neg c] at h
    have c' := Classical.not_not.1 c
    rcases List.mem_cons.1 hx with rfl | hx
    · exact (check_mono x lv n 1 0 h1 h2 c').1
    · have := checkV_bd y lv n h2 h3
      exact checkL_item r lv _ h1 (by omega) this.2 h x hx
theorem check_item {v : Val} (h : checkE v = 0) : ∀ x ∈ v.items, checkE x = 0 := by
  unfold checkE at h
  rw [checkV_eq, if_neg (by decide), if_neg (by decide)] at h
  by_cases c : nodeE v ≠ 0
  · rw [if_pos c] at h; exact absurd h c
  rw [if_neg c] at h
  exact checkL_item v.items 2 1 (by decide) (by decide) (by decide) h
theorem Ck.item {v : Val} (h : Ck v) : ∀ x ∈ v.items, Ck x := fun x hx => ⟨h.ok.item x hx, check_item h.ck x hx⟩
theorem vZ_ck : Ck vZ := ⟨vZ_ok, check_simple vZ_good.node⟩
theorem Ck.look {v : Val} (h : Ck v) (n : ByteArray) : Ck (look v.keys v.items n) := by
  rcases look_mem v.keys v.items n with e | e
  · exact h.item _ e
  · rw [e]; exact vZ_ck

/-! ### Making checked values -/
theorem fits_map {items : List Val} {keys : List ByteArray} (hl : items.length ≤ 1000) (hk : keys.length ≤ 1000) (hs : ∀ s ∈ keys, s.size ≤ 140737488351232) (h : ∀ x ∈ items, x.Fits) : (Val.mk 5 0 eS items keys).Fits :=
  .mk (by decide) (by decide) eS_size (by omega) (by omega) hs h
theorem node_map1 {s : ByteArray} {x : Val} (h : vtext s = 0) : nodeE (Val.mk 5 0 eS [x] [s]) = 0 := by
  have e : vtext eS = 0 := by decide
  unfold nodeE
  rw [if_neg (show ¬ shapedV (Val.mk 5 0 eS [x] [s]) = false by simp [shapedV, shapedB, numOk, strOk, itemsOk, keysOk, Val.kind, Val.num, Val.str, Val.items, Val.keys]), if_neg (fun hh => by cases hh.1), if_neg (by simpa using e)]
  simp only [show (Val.mk 5 0 eS [x] [s]).keys = [s] from rfl, keysE]
  rw [if_neg (by simpa using h)]; rfl
end Abs
end Go.Proofs.YtodgepbihbcdbaaGreatDoor
