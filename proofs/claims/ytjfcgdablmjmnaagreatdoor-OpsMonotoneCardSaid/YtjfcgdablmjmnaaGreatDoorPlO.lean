/-
  The operators: what the program's and the reference's functions come to.
-/
import Derived.Test.YtjfcgdablmjmnaaGreatDoorPlK
import Derived.Test.YtjfcgdablmjmnaaGreatDoorFnB
namespace Go.Proofs.YtjfcgdablmjmnaaGreatDoor
set_option linter.unusedSimpArgs false
set_option linter.unusedVariables false
namespace Abs
open Go.RowKit
/-! ### A key's value -/
theorem hasB_false {l : List ByteArray} {v : ByteArray} (h : v ∉ l) : hasB l v = false := by
  cases e : hasB l v with
  | false => rfl
  | true => exact absurd (hasB_iff.1 e) h
theorem get_full (v : Val) (key : ByteArray) (hf : v.Fits) (hk : v.kind = 5) (hl : v.keys.length = v.items.length) (hr : Rising v.keys) : g_value_Get v key = some (look v.keys v.items key, hasB v.keys key) := by
  obtain ⟨f1, f2, f3, f4, f5, f6, f7⟩ := hf.parts
  obtain ⟨q, h1, h2, h3, h4, h5⟩ := search_spec v.keys key (by have := len_i64 f5 (by decide); omega) hr
  have hk' : decide (v.kind = 5) = true := decide_eq_true hk
  unfold g_value_Get
  rw [h1, Option.bind_some, hk', Bool.not_true, cond_false]
  cases hq : q.2 with
  | false =>
    rw [Bool.not_false, cond_true, look_not _ _ _ (h5 hq), hasB_false (h5 hq)]
  | true =>
    rw [Bool.not_true, cond_false]
    have e := h4 hq
    obtain ⟨hi, _⟩ := List.getElem?_eq_some_iff.1 e
    have hi' : q.1.toNat < v.items.length := by omega
    have hd : decide (q.1 ≥ (v.items.length : Int)) = false := decide_eq_false (by omega)
    have hI : idx v.items q.1 = some v.items[q.1.toNat] := by
      have := idx_nat v.items q.1.toNat
      rw [show ((q.1.toNat : Nat) : Int) = q.1 by omega] at this
      rw [this, List.getElem?_eq_getElem hi']
    rw [hd, cond_false, hI, Option.bind_some, copied_spec _ (f7 _ (List.getElem_mem hi')), Option.bind_some]
    rw [look_at _ _ _ _ _ hr e (List.getElem?_eq_getElem hi'), hasB_iff.2 (List.mem_of_getElem? e)]
theorem get07_full (v : Val) (key : ByteArray) (hf : v.Fits) (hk : v.kind = 5) (hl : v.keys.length = v.items.length) : g_r07_Get v key = some (look v.keys v.items key, hasB v.keys key) := by
  obtain ⟨f1, f2, f3, f4, f5, f6, f7⟩ := hf.parts
  have hn := len_i64 f5 (by decide)
  unfold g_r07_Get
  rw [decide_eq_true hk, Bool.not_true, cond_false]
  have h := loop_meas (body := g_r07_Get_L1 v key) (fun s => ∃ i : Nat, s = (i : Int) ∧ i ≤ v.keys.length ∧ look (v.keys.drop i) (v.items.drop i) key = look v.keys v.items key ∧ hasB (v.keys.drop i) key = hasB v.keys key) (fun s => v.keys.length - s.toNat) (fun q => q = (look v.keys v.items key, hasB v.keys key)) (by
    rintro s ⟨i, rfl, hi, hh, hg⟩
    rcases Nat.eq_or_lt_of_le hi with h0 | h0
    · subst h0
      rw [List.drop_length] at hh hg
      refine .inr ⟨(vZ, false), by simp only [g_r07_Get_L1, decide_eq_false (show ¬ (v.keys.length : Int) < v.keys.length by omega), cond_false], ?_⟩
      rw [← hh, ← hg]; simp [look, hasB]
    · have h1 : i < v.items.length := by omega
      have hx := List.getElem?_eq_getElem h0
      have hy := List.getElem?_eq_getElem h1
      rw [look_drop _ _ _ _ h0 h1] at hh
      by_cases he : v.keys[i] = key
      · rw [if_pos he] at hh
        refine .inr ⟨(v.items[i], true), by simp only [g_r07_Get_L1, decide_eq_true (show (i : Int) < v.keys.length by omega), decide_eq_true (show (i : Int) < v.items.length by omega), cond_true, idx_nat, hx, hy, Option.bind_some, decide_eq_true he], ?_⟩
        rw [← hh, hasB_iff.2 (he ▸ List.getElem_mem h0)]
      · rw [if_neg he] at hh
        refine .inl ⟨((i + 1 : Nat) : Int), by simp only [g_r07_Get_L1, decide_eq_true (show (i : Int) < v.keys.length by omega), decide_eq_true (show (i : Int) < v.items.length by omega), cond_true, idx_nat, hx, Option.bind_some, decide_eq_false he, cond_false, wrap_nat h0 (show v.keys.length ≤ 9223372036854775807 by omega)], ⟨i + 1, rfl, h0, hh, ?_⟩, by simp only [Int.toNat_natCast]; omega⟩
        rw [← hg, List.drop_eq_getElem_cons h0]
        show hasB (v.keys.drop (i + 1)) key = (decide (key = v.keys[i]) || hasB (v.keys.drop (i + 1)) key)
        rw [decide_eq_false (fun q => he q.symm), Bool.false_or]) 0 ⟨0, rfl, Nat.zero_le _, by simp, by simp⟩
  obtain ⟨q, h1, rfl⟩ := h
  exact h1
theorem ck_of {v : Val} (hf : v.Fits) (h : checkE v = 0) : Ck v := ⟨vok_of hf h, h⟩
/-! ### Part of a checked value -/
mutual
theorem check_mono : ∀ (x : Val) (lv n lv' n' : Int), lv' ≤ lv → n' ≤ n → (checkV x lv n).1 = 0 → (checkV x lv' n').1 = 0 ∧ (checkV x lv' n').2 ≤ (checkV x lv n).2
  | .mk k m s items keys, lv, n, lv', n', h1, h2, h => by
    rw [checkV] at h ⊢
    rw [checkV]
    by_cases c1 : 32 < lv
    · rw [if_pos c1] at h; simp at h
    rw [if_neg c1] at h ⊢
    rw [if_neg (show ¬ 32 < lv' by omega)]
    by_cases c2 : 4096 ≤ n
    · rw [if_pos c2] at h; simp at h
    rw [if_neg c2] at h ⊢
    rw [if_neg (show ¬ 4096 ≤ n' by omega)]
    by_cases c3 : nodeE (.mk k m s items keys) ≠ 0
    · rw [if_pos c3] at h; exact absurd h c3
    rw [if_neg c3] at h ⊢
    rw [if_neg c3]
    exact checkL_mono items (lv + 1) (n + 1) (lv' + 1) (n' + 1) (by omega) (by omega) h
theorem checkL_mono : ∀ (l : List Val) (lv n lv' n' : Int), lv' ≤ lv → n' ≤ n → (checkL l lv n).1 = 0 → (checkL l lv' n').1 = 0 ∧ (checkL l lv' n').2 ≤ (checkL l lv n).2
  | [], lv, n, lv', n', h1, h2, h => by simp only [checkL]; exact ⟨trivial, h2⟩
  | x :: r, lv, n, lv', n', h1, h2, h => by
    rw [checkL] at h ⊢
    rw [checkL]
    by_cases c : (checkV x lv n).1 ≠ 0
    · rw [if_pos c] at h; exact absurd h c
    rw [if_neg c] at h ⊢
    obtain ⟨g1, g2⟩ := check_mono x lv n lv' n' h1 h2 (Classical.not_not.1 c)
    rw [if_neg (by simp [g1])]
    exact checkL_mono r lv _ lv' _ h1 g2 h
end
theorem checkL_item : ∀ (l : List Val) (lv n : Int), 1 ≤ lv → 0 ≤ n → n ≤ 4096 → (checkL l lv n).1 = 0 → ∀ x ∈ l, checkE x = 0
  | [], _, _, _, _, _, _, x, hx => absurd hx List.not_mem_nil
  | y :: r, lv, n, h1, h2, h3, h, x, hx => by
    rw [checkL] at h
    by_cases c : (checkV y lv n).1 ≠ 0
    · rw [if_pos c] at h; exact absurd h c
    rw [if_neg c] at h
    have c' := Classical.not_not.1 c
    rcases List.mem_cons.1 hx with rfl | hx
    · exact (check_mono x lv n 1 0 h1 h2 c').1
    · have := checkV_bd y lv n h2 h3
      exact checkL_item r lv _ h1 (by omega) this.2 h x hx
theorem check_item {v : Val} (h : checkE v = 0) : ∀ x ∈ v.items, checkE x = 0 := by
  unfold checkE at h
  rw [checkV_eq, if_neg (by decide), if_neg (by decide)] at h
  by_cases c : nodeE v ≠ 0
  · rw [if_pos c] at h; exact absurd h c
  rw [if_neg c] at h
  exact checkL_item v.items 2 1 (by decide) (by decide) (by decide) h
theorem Ck.item {v : Val} (h : Ck v) : ∀ x ∈ v.items, Ck x := fun x hx => ⟨h.ok.item x hx, check_item h.ck x hx⟩
theorem vZ_ck : Ck vZ := ⟨vZ_ok, check_simple vZ_good.node⟩
theorem Ck.look {v : Val} (h : Ck v) (n : ByteArray) : Ck (look v.keys v.items n) := by
  rcases look_mem v.keys v.items n with e | e
  · exact h.item _ e
  · rw [e]; exact vZ_ck
/-! ### Unknown values among some -/
theorem open_spec (l : List Val) (hl : l.length ≤ 9223372036854775807) : g_ops_open l = some (l.any fun v => decide (v.kind = 6)) := by
  obtain ⟨n, h1, h2⟩ := loop_first l (fun v => decide (v.kind = 6)) (body := g_slices_IndexFunc_ops_open_1_L1 l) hl (fun i x hi hx => by
    simp only [g_slices_IndexFunc_ops_open_1_L1, decide_eq_true (show (i : Int) < l.length by omega), cond_true, idx_nat, hx, Option.bind_some, g_ops_open_1]
    cases decide (x.kind = 6) <;> rfl) (by simp [g_slices_IndexFunc_ops_open_1_L1])
  unfold g_ops_open g_slices_ContainsFunc_ops_open_1 g_slices_IndexFunc_ops_open_1
  rw [h1, Option.bind_some, Option.bind_some, h2]
theorem open1 (x : Val) : g_ops_open [x] = some (decide (x.kind = 6)) := by rw [open_spec _ (by simp)]; simp
theorem open2 (x y : Val) : g_ops_open [x, y] = some (decide (x.kind = 6) || decide (y.kind = 6)) := by rw [open_spec _ (by simp)]; simp
/-! ### Known -/
open Classical in
theorem known_eq (x : Val) : t_value_Known x = g_value_Known (g_value_Known_1 (fun a0 => if relV a0 x then t_value_Known a0 else none)) x := tieF_eq x ()
open Classical in
theorem known_spec (x : Val) : x.Fits → t_value_Known x = some (knownV x) := by
  induction x using wfV.induction with
  | h x ih =>
    intro hf
    obtain ⟨f1, f2, f3, f4, f5, f6, f7⟩ := hf.parts
    have hn := len_i64 f4 (by decide)
    rw [known_eq, knownV_eq]
    unfold g_value_Known
    by_cases h6 : x.kind = 6
    · rw [decide_eq_true h6]; simp [h6]
    rw [decide_eq_false h6, Bool.not_false, cond_true]
    obtain ⟨n, h1, h2⟩ := loop_first x.items (fun v => !knownV v) (body := g_value_Known_slices_ContainsFunc_value_Known_1_slices_IndexFunc_value_Known_1_L1 (g_value_Known_1 fun a0 => if relV a0 x then t_value_Known a0 else none) x.items) (by omega) (fun i y hi hy => by
      have hm : y ∈ x.items := List.mem_of_getElem? hy
      simp only [g_value_Known_slices_ContainsFunc_value_Known_1_slices_IndexFunc_value_Known_1_L1, decide_eq_true (show (i : Int) < x.items.length by omega), cond_true, idx_nat, hy, Option.bind_some, g_value_Known_1, if_pos (show relV y x from hm), ih y hm (f7 y hm)]
      cases knownV y <;> rfl) (by simp [g_value_Known_slices_ContainsFunc_value_Known_1_slices_IndexFunc_value_Known_1_L1])
    unfold g_value_Known_slices_ContainsFunc_value_Known_1 g_value_Known_slices_ContainsFunc_value_Known_1_slices_IndexFunc_value_Known_1
    rw [h1, Option.bind_some, Option.bind_some, h2]
    congr 1
    simp only [ne_eq, h6, not_false_eq_true, decide_true, Bool.true_and]
    rw [List.not_any_eq_all_not]; simp
open Classical in
theorem rknown_eq (x : Val) : t_r07_Known x = g_r07_Known (fun a0 => if relV a0 x then t_r07_Known a0 else none) x := tieF_eq x ()
open Classical in
theorem rknown_spec (x : Val) : x.Fits → t_r07_Known x = some (knownV x) := by
  induction x using wfV.induction with
  | h x ih =>
    intro hf
    obtain ⟨f1, f2, f3, f4, f5, f6, f7⟩ := hf.parts
    have hn := len_i64 f4 (by decide)
    rw [rknown_eq, knownV_eq]
    unfold g_r07_Known
    by_cases h6 : x.kind = 6
    · rw [decide_eq_true h6]; simp [h6]
    rw [decide_eq_false h6, cond_false]
    have := loop_ask (body := g_r07_Known_L1 (fun a0 => if relV a0 x then t_r07_Known a0 else none) x) x.items.length (fun i => ∀ y, x.items[i]? = some y → knownV y = true) true false (by omega) (fun i hi => by
      have hy := List.getElem?_eq_getElem hi
      have hm : x.items[i] ∈ x.items := List.getElem_mem hi
      have e : g_r07_Known_L1 (fun a0 => if relV a0 x then t_r07_Known a0 else none) x (i : Int) = some (if knownV x.items[i] then .inl (IntKind.i64.wrap ((i : Int) + 1)) else .inr false) := by
        simp only [g_r07_Known_L1, decide_eq_true (show (i : Int) < x.items.length by omega), cond_true, idx_nat, hy, Option.bind_some, if_pos (show relV x.items[i] x from hm), ih _ hm (f7 _ hm)]
        cases knownV x.items[i] <;> rfl
      rw [e]
      cases hk : knownV x.items[i] with
      | true => exact .inl ⟨fun y h => (by rw [hy] at h; cases h; exact hk), rfl⟩
      | false => exact .inr ⟨fun h => (by rw [h _ hy] at hk; cases hk), rfl⟩) (by simp [g_r07_Known_L1])
    simp only [ne_eq, h6, not_false_eq_true, decide_true, Bool.true_and]
    rcases this with ⟨h, hall⟩ | ⟨h, i, hi, hno⟩
    · rw [h]; congr 1; symm
      rw [List.all_eq_true]
      intro y hy
      obtain ⟨i, hi⟩ := List.getElem?_of_mem hy
      exact hall i (List.getElem?_eq_some_iff.1 hi).1 y hi
    · rw [h]; congr 1
      cases e : x.items.all knownV with
      | false => rfl
      | true => exact absurd (fun y hy => List.all_eq_true.1 e y (List.mem_of_getElem? hy)) hno
/-! ### Refinement, by the reference -/
open Classical in
theorem rrefines_eq (a b : Val) : t_r07_Refines a b = g_r07_Refines (fun a0 a1 => if relV a0 a then t_r07_Refines a0 a1 else none) a b := tieF_eq a b
open Classical in
theorem rrefines_spec (a : Val) : ∀ b : Val, a.Fits → ∃ q, t_r07_Refines a b = some q ∧ (q = true ↔ Refs a b) := by
  induction a using wfV.induction with
  | h a ih =>
    intro b hf
    obtain ⟨f1, f2, f3, f4, f5, f6, f7⟩ := hf.parts
    have hn := len_i64 f4 (by decide)
    have hnk := len_i64 f5 (by decide)
    rw [rrefines_eq]
    unfold g_r07_Refines
    by_cases h6 : b.kind = 6
    · exact ⟨true, by simp [h6], by simp; exact .unk h6⟩
    have no : ∀ {c : Prop}, (Refs a b → c) → ¬ c → (false = true ↔ Refs a b) := fun h hc => ⟨fun h => (by cases h), fun r => absurd (h r) hc⟩
    have inv := fun h : Refs a b => refs_inv h h6
    rw [decide_eq_false h6, cond_false]
    by_cases h1 : a.kind = b.kind
    case neg => exact ⟨false, by simp [h1], no (fun r => (inv r).1) h1⟩
    by_cases h2 : a.num = b.num
    case neg => exact ⟨false, by simp [h1, h2], no (fun r => (inv r).2.1) h2⟩
    by_cases h3 : a.str = b.str
    case neg => exact ⟨false, by simp [h1, h2, h3], no (fun r => (inv r).2.2.1) h3⟩
    rw [decide_eq_true h1, decide_eq_true h2, decide_eq_true h3]
    simp only [Bool.not_true, cond_false]
    by_cases h4 : a.items.length = b.items.length
    case neg => exact ⟨false, by rw [decide_eq_false (by omega)]; rfl, no (fun r => (inv r).2.2.2.2.1) h4⟩
    rw [decide_eq_true (show (a.items.length : Int) = b.items.length by omega)]
    simp only [Bool.not_true, cond_false]
    by_cases h5 : a.keys.length = b.keys.length
    case neg => exact ⟨false, by rw [decide_eq_false (by omega)]; rfl, no (fun r => by rw [(inv r).2.2.2.1]) h5⟩
    rw [decide_eq_true (show (a.keys.length : Int) = b.keys.length by omega)]
    simp only [Bool.not_true, cond_false]
    have items := loop_ask (body := g_r07_Refines_L2 (fun a0 a1 => if relV a0 a then t_r07_Refines a0 a1 else none) a b) a.items.length (fun i => ∀ x y, a.items[i]? = some x → b.items[i]? = some y → Refs x y) (.inr true) (.inr false) (by omega) (fun i hi => by
      have hib : i < b.items.length := by omega
      have hx := List.getElem?_eq_getElem hi
      have hy := List.getElem?_eq_getElem hib
      have hm : a.items[i] ∈ a.items := List.getElem_mem hi
      obtain ⟨q, hq, hiff⟩ := ih _ hm b.items[i] (f7 _ hm)
      have e : g_r07_Refines_L2 (fun a0 a1 => if relV a0 a then t_r07_Refines a0 a1 else none) a b (i : Int) = some (if q then .inl (IntKind.i64.wrap ((i : Int) + 1)) else .inr (.inr false)) := by
        simp only [g_r07_Refines_L2, decide_eq_true (show (i : Int) < a.items.length by omega), cond_true, idx_nat, hx, hy, Option.bind_some, if_pos (show relV a.items[i] a from hm), hq]
        cases q <;> rfl
      rw [e]
      cases q with
      | true => exact .inl ⟨fun x y h k => (by rw [hx] at h; rw [hy] at k; cases h; cases k; exact hiff.1 rfl), rfl⟩
      | false => exact .inr ⟨fun h => (by have := hiff.2 (h _ _ hx hy); cases this), rfl⟩) (by simp [g_r07_Refines_L2])
    obtain ⟨q2, hq2, hi2⟩ : ∃ q2 : Bool, loopO (g_r07_Refines_L2 (fun a0 a1 => if relV a0 a then t_r07_Refines a0 a1 else none) a b) 0 = some (.inr q2) ∧ (q2 = true ↔ ∀ (i : Nat) (x y : Val), a.items[i]? = some x → b.items[i]? = some y → Refs x y) := by
      rcases items with ⟨h, hall⟩ | ⟨h, i, hi, hno⟩
      · refine ⟨true, h, by simp only [true_iff]; exact fun i x y hx hy => hall i (List.getElem?_eq_some_iff.1 hx).1 x y hx hy⟩
      · exact ⟨false, h, by simp only [Bool.false_eq_true, false_iff]; exact fun hall => hno (hall i)⟩
    have keys := loop_ask (body := g_r07_Refines_L1 (fun a0 a1 => if relV a0 a then t_r07_Refines a0 a1 else none) a b) a.keys.length (fun i => a.keys[i]? = b.keys[i]?) q2 false (by omega) (fun i hi => by
      have hib : i < b.keys.length := by omega
      have hx := List.getElem?_eq_getElem hi
      have hy := List.getElem?_eq_getElem hib
      have e : g_r07_Refines_L1 (fun a0 a1 => if relV a0 a then t_r07_Refines a0 a1 else none) a b (i : Int) = some (if a.keys[i] = b.keys[i] then .inl (IntKind.i64.wrap ((i : Int) + 1)) else .inr false) := by
        simp only [g_r07_Refines_L1, decide_eq_true (show (i : Int) < a.keys.length by omega), cond_true, idx_nat, hx, hy, Option.bind_some]
        by_cases e : a.keys[i] = b.keys[i]
        · rw [decide_eq_true e, if_pos e]; rfl
        · rw [decide_eq_false e, if_neg e]; rfl
      rw [e]
      by_cases e : a.keys[i] = b.keys[i]
      · rw [if_pos e]; exact .inl ⟨by rw [hx, hy, e], rfl⟩
      · rw [if_neg e]; exact .inr ⟨fun h => e (by rw [hx, hy] at h; exact Option.some.inj h), rfl⟩) (by
        simp only [g_r07_Refines_L1, decide_eq_false (show ¬ (a.keys.length : Int) < a.keys.length by omega), cond_false]
        exact hq2)
    rcases keys with ⟨h, hall⟩ | ⟨h, i, hi, hno⟩
    · have hke : a.keys = b.keys := list_ext h5 hall
      exact ⟨q2, h, hi2.trans ⟨fun r => .node h1 h2 h3 hke h4 r, fun r => (inv r).2.2.2.2.2⟩⟩
    · exact ⟨false, h, no (fun r => by rw [(inv r).2.2.2.1]) hno⟩
/-! ### Equality -/
def encP : Option Bool → Bool × Bool
  | none => (false, false)
  | some q => (q, true)
def encR : Option Bool → Int
  | none => 2
  | some true => 1
  | some false => 0
theorem eqL_drop {a b : List Val} {i : Nat} (ha : i < a.length) (hb : i < b.length) : eqL (a.drop i) (b.drop i) = match eqS a[i] b[i] with
      | some false => some false
      | some true => eqL (a.drop (i + 1)) (b.drop (i + 1))
      | none => cmb false (eqL (a.drop (i + 1)) (b.drop (i + 1))) := by
  rw [List.drop_eq_getElem_cons ha, List.drop_eq_getElem_cons hb, eqL_cons]
  cases eqS a[i] b[i] with
  | none => rfl
  | some q => cases q <;> rfl
open Classical in
theorem pequal_eq (a b : Val) : t_ops_equality a b = g_ops_equality (fun a0 a1 => if relV a0 a then t_ops_equality a0 a1 else none) a b := tieF_eq a b
open Classical in
theorem pequal_spec (a : Val) : ∀ b : Val, a.Fits → t_ops_equality a b = some (encP (eqS a b)) := by
  induction a using wfV.induction with
  | h a ih =>
    intro b hf
    obtain ⟨f1, f2, f3, f4, f5, f6, f7⟩ := hf.parts
    have hn := len_i64 f4 (by decide)
    have hnk := len_i64 f5 (by decide)
    rw [pequal_eq, eqS_eq]
    unfold g_ops_equality
    rw [open2, Option.bind_some]
    by_cases h6 : a.kind = 6 ∨ b.kind = 6
    · rw [if_pos h6]
      have : (decide (a.kind = 6) || decide (b.kind = 6)) = true := by simpa using h6
      rw [this]; rfl
    rw [if_neg h6]
    have : (decide (a.kind = 6) || decide (b.kind = 6)) = false := by simpa using h6
    rw [this, cond_false]
    have no : ∀ {c : Prop}, ¬ c → (c → False) := fun h => h
    by_cases h1 : a.kind = b.kind
    case neg => rw [if_pos (.inl h1), decide_eq_false h1]; rfl
    by_cases h2 : a.num = b.num
    case neg => rw [if_pos (.inr (.inl h2)), decide_eq_true h1, decide_eq_false h2]; rfl
    by_cases h3 : a.str = b.str
    case neg => rw [if_pos (.inr (.inr (.inl h3))), decide_eq_true h1, decide_eq_true h2, decide_eq_false h3]; rfl
    rw [decide_eq_true h1, decide_eq_true h2, decide_eq_true h3]
    simp only [Bool.not_true, cond_false]
    by_cases h4 : a.items.length = b.items.length
    case neg => rw [if_pos (.inr (.inr (.inr (.inl h4)))), decide_eq_false (by omega)]; rfl
    rw [decide_eq_true (show (a.items.length : Int) = b.items.length by omega), equal_spec _ _ (by omega)]
    simp only [Bool.not_true, cond_false, Option.bind_some]
    by_cases h5 : a.keys = b.keys
    case neg => rw [if_pos (.inr (.inr (.inr (.inr h5)))), decide_eq_false h5]; rfl
    rw [if_neg (by simp [h1, h2, h3, h4, h5]), decide_eq_true h5]
    simp only [Bool.not_true, cond_false]
    have := loop_meas (body := g_ops_equality_L1 (fun a0 a1 => if relV a0 a then t_ops_equality a0 a1 else none) a b) (fun s => ∃ i : Nat, s.2 = (i : Int) ∧ i ≤ a.items.length ∧ eqL a.items b.items = cmb s.1 (eqL (a.items.drop i) (b.items.drop i))) (fun s => a.items.length - s.2.toNat) (fun q => q = encP (eqL a.items b.items)) (by
      rintro ⟨kn, s⟩ ⟨i, rfl, hi, hh⟩
      simp only at hh
      rcases Nat.eq_or_lt_of_le hi with h0 | h0
      · subst h0
        refine .inr ⟨(kn, kn), by simp only [g_ops_equality_L1, decide_eq_false (show ¬ (a.items.length : Int) < a.items.length by omega), cond_false], ?_⟩
        rw [hh, List.drop_length, eqL]
        cases kn <;> rfl
      · have hib : i < b.items.length := by omega
        have hx := List.getElem?_eq_getElem h0
        have hy := List.getElem?_eq_getElem hib
        have hm : a.items[i] ∈ a.items := List.getElem_mem h0
        have he := ih _ hm b.items[i] (f7 _ hm)
        rw [eqL_drop h0 hib] at hh
        have hb : g_ops_equality_L1 (fun a0 a1 => if relV a0 a then t_ops_equality a0 a1 else none) a b (kn, (i : Int)) = match eqS a.items[i] b.items[i] with
            | some false => some (.inr (false, true))
            | some true => some (.inl (kn, ((i + 1 : Nat) : Int)))
            | none => some (.inl (false, ((i + 1 : Nat) : Int))) := by
          simp only [g_ops_equality_L1, decide_eq_true (show (i : Int) < a.items.length by omega), cond_true, idx_nat, hx, hy, Option.bind_some, if_pos (show relV a.items[i] a from hm), he, wrap_nat h0 (show a.items.length ≤ 9223372036854775807 by omega)]
          cases eqS a.items[i] b.items[i] with
          | none => cases kn <;> rfl
          | some q => cases q <;> cases kn <;> rfl
        rw [hb]
        cases e : eqS a.items[i] b.items[i] with
        | none =>
          rw [e] at hh
          refine .inl ⟨_, rfl, ⟨i + 1, rfl, h0, ?_⟩, by simp only [Int.toNat_natCast]; omega⟩
          rw [hh]; exact cmb_none _ _
        | some q => cases q with
          | true =>
            rw [e] at hh
            exact .inl ⟨_, rfl, ⟨i + 1, rfl, h0, hh⟩, by simp only [Int.toNat_natCast]; omega⟩
          | false =>
            rw [e] at hh
            refine .inr ⟨_, rfl, ?_⟩
            rw [hh]; cases kn <;> rfl) (true, 0) ⟨0, rfl, Nat.zero_le _, rfl⟩
    obtain ⟨q, h, rfl⟩ := this
    exact h
open Classical in
theorem requal19_eq (a b : Val) : t_r19_equal a b = g_r19_equal (fun a0 a1 => if relV a0 a then t_r19_equal a0 a1 else none) a b := tieF_eq a b
open Classical in
theorem requal19_spec (a : Val) : ∀ b : Val, a.Fits → t_r19_equal a b = some (encR (eqS a b)) := by
  induction a using wfV.induction with
  | h a ih =>
    intro b hf
    obtain ⟨f1, f2, f3, f4, f5, f6, f7⟩ := hf.parts
    have hn := len_i64 f4 (by decide)
    have hnk := len_i64 f5 (by decide)
    rw [requal19_eq, eqS_eq]
    unfold g_r19_equal
    by_cases h6 : a.kind = 6
    · rw [if_pos (.inl h6), decide_eq_true h6]; rfl
    by_cases h7 : b.kind = 6
    · rw [if_pos (.inr h7), decide_eq_false h6, decide_eq_true h7]; rfl
    rw [if_neg (by omega), decide_eq_false h6, decide_eq_false h7, cond_false, cond_false]
    by_cases h1 : a.kind = b.kind
    case neg => rw [if_pos (.inl h1), decide_eq_false h1]; rfl
    by_cases h2 : a.num = b.num
    case neg => rw [if_pos (.inr (.inl h2)), decide_eq_true h1, decide_eq_false h2]; rfl
    by_cases h3 : a.str = b.str
    case neg => rw [if_pos (.inr (.inr (.inl h3))), decide_eq_true h1, decide_eq_true h2, decide_eq_false h3]; rfl
    rw [decide_eq_true h1, decide_eq_true h2, decide_eq_true h3]
    simp only [Bool.not_true, cond_false]
    by_cases h4 : a.items.length = b.items.length
    case neg => rw [if_pos (.inr (.inr (.inr (.inl h4)))), decide_eq_false (by omega)]; rfl
    rw [decide_eq_true (show (a.items.length : Int) = b.items.length by omega)]
    simp only [Bool.not_true, cond_false]
    by_cases h5 : a.keys.length = b.keys.length
    case neg => rw [if_pos (.inr (.inr (.inr (.inr fun q => h5 (by rw [q]))))), decide_eq_false (by omega)]; rfl
    rw [decide_eq_true (show (a.keys.length : Int) = b.keys.length by omega)]
    simp only [Bool.not_true, cond_false]
    have items := loop_meas (body := g_r19_equal_L2 (fun a0 a1 => if relV a0 a then t_r19_equal a0 a1 else none) a b) (fun s => ∃ (i : Nat) (kn : Bool), s = (encR (if kn then some true else none), (i : Int)) ∧ i ≤ a.items.length ∧ eqL a.items b.items = cmb kn (eqL (a.items.drop i) (b.items.drop i))) (fun s => a.items.length - s.2.toNat) (fun q => q = .inr (encR (eqL a.items b.items))) (by
      rintro s ⟨i, kn, rfl, hi, hh⟩
      rcases Nat.eq_or_lt_of_le hi with h0 | h0
      · subst h0
        refine .inr ⟨.inr (encR (if kn then some true else none)), by simp only [g_r19_equal_L2, decide_eq_false (show ¬ (a.items.length : Int) < a.items.length by omega), cond_false], ?_⟩
        rw [hh, List.drop_length, eqL]
        cases kn <;> rfl
      · have hib : i < b.items.length := by omega
        have hx := List.getElem?_eq_getElem h0
        have hy := List.getElem?_eq_getElem hib
        have hm : a.items[i] ∈ a.items := List.getElem_mem h0
        have he := ih _ hm b.items[i] (f7 _ hm)
        rw [eqL_drop h0 hib] at hh
        have hb : g_r19_equal_L2 (fun a0 a1 => if relV a0 a then t_r19_equal a0 a1 else none) a b (encR (if kn then some true else none), (i : Int)) = match eqS a.items[i] b.items[i] with
            | some false => some (.inr (.inr 0))
            | some true => some (.inl (encR (if kn then some true else none), ((i + 1 : Nat) : Int)))
            | none => some (.inl (2, ((i + 1 : Nat) : Int))) := by
          simp only [g_r19_equal_L2, decide_eq_true (show (i : Int) < a.items.length by omega), cond_true, idx_nat, hx, hy, Option.bind_some, if_pos (show relV a.items[i] a from hm), he, wrap_nat h0 (show a.items.length ≤ 9223372036854775807 by omega)]
          cases eqS a.items[i] b.items[i] with
          | none => rfl
          | some q => cases q <;> rfl
        rw [hb]
        cases e : eqS a.items[i] b.items[i] with
        | none =>
          rw [e] at hh
          refine .inl ⟨_, rfl, ⟨i + 1, false, rfl, h0, ?_⟩, by simp only [Int.toNat_natCast]; omega⟩
          rw [hh]; exact cmb_none _ _
        | some q => cases q with
          | true =>
            rw [e] at hh
            exact .inl ⟨_, rfl, ⟨i + 1, kn, rfl, h0, hh⟩, by simp only [Int.toNat_natCast]; omega⟩
          | false =>
            rw [e] at hh
            refine .inr ⟨_, rfl, ?_⟩
            rw [hh]; cases kn <;> rfl) (1, 0) ⟨0, true, rfl, Nat.zero_le _, rfl⟩
    obtain ⟨q2, hq2, rfl⟩ := items
    have keys := loop_ask (body := g_r19_equal_L1 (fun a0 a1 => if relV a0 a then t_r19_equal a0 a1 else none) a b) a.keys.length (fun i => a.keys[i]? = b.keys[i]?) (encR (eqL a.items b.items)) 0 (by omega) (fun i hi => by
      have hib : i < b.keys.length := by omega
      have hx := List.getElem?_eq_getElem hi
      have hy := List.getElem?_eq_getElem hib
      have e : g_r19_equal_L1 (fun a0 a1 => if relV a0 a then t_r19_equal a0 a1 else none) a b (i : Int) = some (if a.keys[i] = b.keys[i] then .inl (IntKind.i64.wrap ((i : Int) + 1)) else .inr 0) := by
        simp only [g_r19_equal_L1, decide_eq_true (show (i : Int) < a.keys.length by omega), cond_true, idx_nat, hx, hy, Option.bind_some]
        by_cases e : a.keys[i] = b.keys[i]
        · rw [decide_eq_true e, if_pos e]; rfl
        · rw [decide_eq_false e, if_neg e]; rfl
      rw [e]
      by_cases e : a.keys[i] = b.keys[i]
      · rw [if_pos e]; exact .inl ⟨by rw [hx, hy, e], rfl⟩
      · rw [if_neg e]; exact .inr ⟨fun h => e (by rw [hx, hy] at h; exact Option.some.inj h), rfl⟩) (by
        simp only [g_r19_equal_L1, decide_eq_false (show ¬ (a.keys.length : Int) < a.keys.length by omega), cond_false]
        exact hq2)
    rcases keys with ⟨h, hall⟩ | ⟨h, i, hi, hno⟩
    · have hke : a.keys = b.keys := list_ext h5 hall
      rw [h, if_neg (by simp [h1, h2, h3, h4, hke])]
    · rw [h, if_pos (.inr (.inr (.inr (.inr fun q => hno (by rw [q])))))]; rfl
end Abs
end Go.Proofs.YtjfcgdablmjmnaaGreatDoor
