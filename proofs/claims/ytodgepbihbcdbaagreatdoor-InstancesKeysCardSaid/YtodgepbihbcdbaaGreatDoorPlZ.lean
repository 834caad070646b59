/-
  The reference's conversions come to the same as the program's; the law about strings and bools of values.
-/
import Derived.Test.YtodgepbihbcdbaaGreatDoorPlJ
namespace Go.Proofs.YtodgepbihbcdbaaGreatDoor
set_option linter.unusedSimpArgs false
set_option linter.unusedVariables false
namespace Abs
open Go.RowKit
theorem has_spec (l : List ByteArray) (v : ByteArray) (hl : l.length ≤ 9223372036854775807) : g_r11_has l v = some (hasB l v) := by
  have h := loop_meas (body := g_r11_has_L1 l v) (fun s => ∃ i : Nat, s = (i : Int) ∧ i ≤ l.length ∧ hasB (l.drop i) v = hasB l v) (fun s => l.length - s.toNat) (fun q => q = hasB l v) (by
    rintro s ⟨i, rfl, hi, hh⟩
    rcases Nat.eq_or_lt_of_le hi with h0 | h0
    · subst h0
      rw [List.drop_length] at hh
      exact .inr ⟨false, by simp only [g_r11_has_L1, decide_eq_false (show ¬ (l.length : Int) < l.length by omega), cond_false], by rw [← hh]; rfl⟩
    · have hx := List.getElem?_eq_getElem h0
      rw [List.drop_eq_getElem_cons h0] at hh
      have hc : hasB (l[i] :: l.drop (i + 1)) v = (decide (v = l[i]) || hasB (l.drop (i + 1)) v) := rfl
      rw [hc] at hh
      by_cases he : l[i] = v
      · refine .inr ⟨true, by simp only [g_r11_has_L1, decide_eq_true (show (i : Int) < l.length by omega), cond_true, idx_nat, hx, Option.bind_some, decide_eq_true he], ?_⟩
        rw [← hh, decide_eq_true he.symm, Bool.true_or]
      · refine .inl ⟨((i + 1 : Nat) : Int), by simp only [g_r11_has_L1, decide_eq_true (show (i : Int) < l.length by omega), cond_true, idx_nat, hx, Option.bind_some, decide_eq_false he, cond_false, wrap_nat h0 hl], ⟨i + 1, rfl, h0, ?_⟩, by simp only [Int.toNat_natCast]; omega⟩
        rw [← hh, decide_eq_false (fun k => he k.symm), Bool.false_or]) 0 ⟨0, rfl, Nat.zero_le _, by simp⟩
  obtain ⟨q, h1, rfl⟩ := h
  exact h1
theorem look_drop (ks : List ByteArray) (xs : List Val) (n : ByteArray) (i : Nat) (hi : i < ks.length) (hx : i < xs.length) :
    look (ks.drop i) (xs.drop i) n = if ks[i] = n then xs[i] else look (ks.drop (i + 1)) (xs.drop (i + 1)) n := by
  rw [List.drop_eq_getElem_cons hi, List.drop_eq_getElem_cons hx]; rfl
theorem get07_spec (v : Val) (key : ByteArray) (hf : v.Fits) (hk : v.kind = 5) (hl : v.keys.length = v.items.length) : ∃ b, g_r07_Get v key = some (look v.keys v.items key, b) := by
  obtain ⟨f1, f2, f3, f4, f5, f6, f7⟩ := hf.parts
  have hn := len_i64 f5 (by decide)
  unfold g_r07_Get
  rw [decide_eq_true hk, Bool.not_true, cond_false]
  have h := loop_meas (body := g_r07_Get_L1 v key) (fun s => ∃ i : Nat, s = (i : Int) ∧ i ≤ v.keys.length ∧ look (v.keys.drop i) (v.items.drop i) key = look v.keys v.items key) (fun s => v.keys.length - s.toNat) (fun q => q.1 = look v.keys v.items key) (by
    rintro s ⟨i, rfl, hi, hh⟩
    rcases Nat.eq_or_lt_of_le hi with h0 | h0
    · subst h0
      rw [List.drop_length] at hh
      refine .inr ⟨(vZ, false), by simp only [g_r07_Get_L1, decide_eq_false (show ¬ (v.keys.length : Int) < v.keys.length by omega), cond_false], ?_⟩
      rw [← hh]; simp [look]
    · have h1 : i < v.items.length := by omega
      have hx := List.getElem?_eq_getElem h0
      have hy := List.getElem?_eq_getElem h1
      rw [look_drop _ _ _ _ h0 h1] at hh
      by_cases he : v.keys[i] = key
      · rw [if_pos he] at hh
        exact .inr ⟨(v.items[i], true), by simp only [g_r07_Get_L1, decide_eq_true (show (i : Int) < v.keys.length by omega), decide_eq_true (show (i : Int) < v.items.length by omega), cond_true, idx_nat, hx, hy, Option.bind_some, decide_eq_true he], hh⟩
      · rw [if_neg he] at hh
        exact .inl ⟨((i + 1 : Nat) : Int), by simp only [g_r07_Get_L1, decide_eq_true (show (i : Int) < v.keys.length by omega), decide_eq_true (show (i : Int) < v.items.length by omega), cond_true, idx_nat, hx, Option.bind_some, decide_eq_false he, cond_false, wrap_nat h0 (show v.keys.length ≤ 9223372036854775807 by omega)], ⟨i + 1, rfl, h0, hh⟩, by simp only [Int.toNat_natCast]; omega⟩) 0 ⟨0, rfl, Nat.zero_le _, by simp⟩
  obtain ⟨q, h1, h2⟩ := h
  exact ⟨q.2, by rw [h1, ← h2]⟩
theorem simple_bool (v : Val) : g_r11_simple v 1 = g_convert_toBool v := by
  unfold g_r11_simple g_convert_toBool
  rw [decide_eq_true (show (1 : Int) = 1 from rfl), cond_true]
  rfl
theorem simple_number (v : Val) (hf : v.Fits) : g_r11_simple v 2 = g_convert_toNumber v := by
  obtain ⟨f1, f2, f3, f4, f5, f6, f7⟩ := hf.parts
  unfold g_r11_simple g_convert_toNumber
  rw [decide_eq_false (show ¬ (2 : Int) = 1 by decide), decide_eq_true (show (2 : Int) = 2 from rfl), cond_false, cond_true]
  rw [show m_parse v.str = some (NumPlain.parseB v.str) from gd_of (by omega)]
  simp only [Option.bind_some, g_value_Number]
  by_cases h2 : v.kind = 2
  · rw [decide_eq_true h2]; rfl
  rw [decide_eq_false h2]
  by_cases h3 : v.kind = 3
  · rw [decide_eq_true h3]
    by_cases h4 : (NumPlain.parseB v.str).2 = 0
    · rw [decide_eq_true h4]; rfl
    · rw [decide_eq_false h4]; rfl
  · rw [decide_eq_false h3]; rfl
theorem simple_string (v : Val) (hf : v.Fits) : g_r11_simple v 3 = g_convert_toString v := by
  obtain ⟨f1, f2, f3, f4, f5, f6, f7⟩ := hf.parts
  unfold g_r11_simple g_convert_toString g_r11_word
  rw [decide_eq_false (show ¬ (3 : Int) = 1 by decide), decide_eq_false (show ¬ (3 : Int) = 2 by decide), cond_false, cond_false]
  rw [show m_format v.num = some (fmtB v.num) from gd_of f2]
  simp only [Option.bind_some, g_value_String]
  by_cases h3 : v.kind = 3
  · rw [decide_eq_true h3]; rfl
  rw [decide_eq_false h3]
  by_cases h2 : v.kind = 2
  · rw [decide_eq_true h2]; rfl
  rw [decide_eq_false h2]
  by_cases h1 : v.kind = 1
  · rw [decide_eq_true h1]
    cases decide (v.num = 1) <;> rfl
  · rw [decide_eq_false h1]; rfl
/-- A loop that gathers values and names until an error. -/
theorem loop_each2 {O : Type} (l : List (Ty × ByteArray)) (f : Ty × ByteArray → Val × Int) {body : Int × List Val × List ByteArray → Option ((Int × List Val × List ByteArray) ⊕ O)} (R : List Val → List ByteArray → O) (E : Int → O)
    (step : ∀ (i : Nat) (acc : List Val) (x : Ty × ByteArray), i < l.length → l[i]? = some x → acc.length = i → body ((i : Int), acc, (l.take i).map (·.2)) = some (if (f x).2 = 0 then .inl (((i + 1 : Nat) : Int), acc ++ [(f x).1], (l.take (i + 1)).map (·.2)) else .inr (E (f x).2)))
    (stop : ∀ acc : List Val, acc.length = l.length → body ((l.length : Int), acc, l.map (·.2)) = some (.inr (R acc (l.map (·.2))))) :
    loopO body (0, [], []) = some (if (eachS f l).2 = 0 then R (eachS f l).1 (l.map (·.2)) else E (eachS f l).2) := by
  have key : ∀ n (i : Nat) (acc : List Val), l.length - i = n → i ≤ l.length → acc.length = i →
      loopO body ((i : Int), acc, (l.take i).map (·.2)) = some (if (eachS f (l.drop i)).2 = 0 then R (acc ++ (eachS f (l.drop i)).1) (l.map (·.2)) else E (eachS f (l.drop i)).2) := by
    intro n
    induction n with
    | zero =>
      intro i acc hn hi ha
      obtain rfl : i = l.length := by omega
      rw [List.take_length, loop_done (stop acc ha), List.drop_length]
      simp [eachS]
    | succ n ih =>
      intro i acc hn hi ha
      have hlt : i < l.length := by omega
      have hs := step i acc _ hlt (List.getElem?_eq_getElem hlt) ha
      rw [List.drop_eq_getElem_cons hlt]
      by_cases he : (f l[i]).2 = 0
      · rw [if_pos he] at hs
        rw [loop_next hs, ih (i + 1) _ (by omega) (by omega) (by simp [ha])]
        have e2 : eachS f (l[i] :: l.drop (i + 1)) = if (eachS f (l.drop (i + 1))).2 ≠ 0 then ([], (eachS f (l.drop (i + 1))).2) else ((f l[i]).1 :: (eachS f (l.drop (i + 1))).1, 0) := by
          rw [eachS, if_neg (by simp [he])]
        rw [e2]
        by_cases hr : (eachS f (l.drop (i + 1))).2 = 0
        · simp [hr]
        · simp [hr]
      · rw [if_neg he] at hs
        rw [loop_done hs, eachS, if_pos he]
        simp [he]
  have := key _ 0 [] rfl (Nat.zero_le _) rfl
  simpa using this
theorem robject_spec (rec : Val → Ty → Option (Val × Int)) (v : Val) (t : Ty) (hv : Vok v) (h5 : v.kind = 5) (ht : t.elems.length = t.names.length) (hl : t.elems.length ≤ 1000)
    (h : ∀ e ∈ t.elems, ∀ x, Vok x → rec x e = some (toS e x)) :
    g_r11_object rec v t = some (if ∀ x ∈ v.keys, hasB t.names x = true then colR 5 t.names (eachS (fun p : Ty × ByteArray => toS p.1 (look v.keys v.items p.2)) (t.elems.zip t.names)) else (vZ, 13)) := by
  obtain ⟨f1, f2, f3, f4, f5, f6, f7⟩ := hv.1.parts
  have hn := len_i64 f5 (by decide)
  unfold g_r11_object
  have hz : (t.elems.zip t.names).length = t.names.length := by rw [List.length_zip]; omega
  have hsnd : (t.elems.zip t.names).map (·.2) = t.names := List.map_snd_zip (by omega)
  have inner : loopO (g_r11_object_L2 rec v t) (0, [], []) = some (.inr (colR 5 t.names (eachS (fun p : Ty × ByteArray => toS p.1 (look v.keys v.items p.2)) (t.elems.zip t.names)))) := by
    rw [loop_each2 (t.elems.zip t.names) (fun p : Ty × ByteArray => toS p.1 (look v.keys v.items p.2)) (body := g_r11_object_L2 rec v t) (fun acc ns => .inr (Val.mk 5 0 eS acc ns, 0)) (fun er => .inr (vZ, er)) (fun i acc p hi hp ha => ?_) (fun acc ha => ?_)]
    · rw [hsnd]; unfold colR; split <;> rfl
    · obtain ⟨he, hnm⟩ := zip_at hp
      have hm : p.1 ∈ t.elems := List.mem_of_getElem? he
      obtain ⟨b, hg⟩ := get07_spec v p.2 hv.1 h5 (hv.shape.2.2.2.2.2.2.1 h5)
      have hr := h p.1 hm _ (hv.look p.2)
      have hlt : decide ((i : Int) < t.names.length) = true := decide_eq_true (by omega)
      have hlt2 : decide ((i : Int) < t.elems.length) = true := decide_eq_true (by omega)
      have htk : ((t.elems.zip t.names).take (i + 1)).map (·.2) = ((t.elems.zip t.names).take i).map (·.2) ++ [p.2] := by
        rw [List.take_add_one, hp]; simp
      have hal : (((t.elems.zip t.names).take i).map (·.2)).length < 1000 := by simp only [List.length_map, List.length_take]; omega
      by_cases her : (toS p.1 (look v.keys v.items p.2)).2 = 0
      · rw [htk]
        simp only [g_r11_object_L2, hlt, hlt2, cond_true, idx_nat, hnm, he, Option.bind_some, hg, hr, decide_eq_true her, Bool.not_true, cond_false, app_one acc _ (m := 80) (n := 1000) (by decide) (show acc.length < 1000 by omega) (by decide), app_one _ p.2 (m := 16) (n := 1000) (by decide) hal (by decide), wrap_nat (show i < t.names.length by omega) (show t.names.length ≤ 9223372036854775807 by omega), if_pos her]
      · simp only [g_r11_object_L2, hlt, hlt2, cond_true, idx_nat, hnm, he, Option.bind_some, hg, hr, decide_eq_false her, Bool.not_false, if_neg her]
    · rw [hz]; simp only [g_r11_object_L2, decide_eq_false (show ¬ (t.names.length : Int) < t.names.length by omega), cond_false]
  have := loop_meas (body := g_r11_object_L1 rec v t) (fun k => ∃ i : Nat, k = (i : Int) ∧ i ≤ v.keys.length ∧ ∀ (j : Nat) x, j < i → v.keys[j]? = some x → hasB t.names x = true) (fun k => v.keys.length - k.toNat) (fun r => r = if ∀ x ∈ v.keys, hasB t.names x = true then colR 5 t.names (eachS (fun p : Ty × ByteArray => toS p.1 (look v.keys v.items p.2)) (t.elems.zip t.names)) else (vZ, 13)) (by
    rintro k ⟨i, rfl, hi, hp⟩
    rcases Nat.eq_or_lt_of_le hi with h0 | h0
    · subst h0
      refine .inr ⟨_, by simp only [g_r11_object_L1, decide_eq_false (show ¬ (v.keys.length : Int) < v.keys.length by omega), cond_false, inner]; rfl, ?_⟩
      rw [if_pos]
      intro x hx
      obtain ⟨j, hj⟩ := List.getElem?_of_mem hx
      exact hp j x (List.getElem?_eq_some_iff.1 hj).1 hj
    · have hx := List.getElem?_eq_getElem h0
      have hm : v.keys[i] ∈ v.keys := List.getElem_mem h0
      have hlt : decide ((i : Int) < v.keys.length) = true := decide_eq_true (by omega)
      cases hh : hasB t.names v.keys[i] with
      | true =>
        refine .inl ⟨((i + 1 : Nat) : Int), by simp only [g_r11_object_L1, hlt, cond_true, idx_nat, hx, Option.bind_some, has_spec t.names v.keys[i] (by omega), hh, Bool.not_true, cond_false, wrap_nat h0 (show v.keys.length ≤ 9223372036854775807 by omega)], ⟨i + 1, rfl, h0, fun j x hj he => ?_⟩, by simp only [Int.toNat_natCast]; omega⟩
        rcases Nat.eq_or_lt_of_le (Nat.le_of_lt_succ hj) with rfl | hj
        · rw [hx] at he; cases he; exact hh
        · exact hp j x hj he
      | false =>
        refine .inr ⟨(vZ, 13), by simp only [g_r11_object_L1, hlt, cond_true, idx_nat, hx, Option.bind_some, has_spec t.names v.keys[i] (by omega), hh, Bool.not_false], ?_⟩
        rw [if_neg]
        intro hall; rw [hall _ hm] at hh; cases hh) 0 ⟨0, rfl, Nat.zero_le _, fun j x hj => by omega⟩
  obtain ⟨r, h1, rfl⟩ := this
  exact h1
theorem reach_spec (rec : Val → Ty → Option (Val × Int)) (v : Val) (t e : Ty) (he : t.elems = [e]) (hf : v.Fits) (h : ∀ x ∈ v.items, rec x e = some (toS e x)) {body : Int × List Val → Option ((Int × List Val) ⊕ (Val × Int))} (hb : body = g_r11_to_L1 rec v t) :
    loopO body (0, []) = some (colR v.kind v.keys (eachS (fun x => toS e x) v.items)) := by
  subst hb
  obtain ⟨f1, f2, f3, f4, f5, f6, f7⟩ := hf.parts
  have hn := len_i64 f4 (by decide)
  have hI : idx t.elems 0 = some e := by rw [he]; simp [idx]
  rw [loop_each v.items (fun x => toS e x) (body := g_r11_to_L1 rec v t) (fun acc => (Val.mk v.kind 0 eS acc v.keys, 0)) (fun er => (vZ, er)) (fun i acc x hi hx ha => ?_) (fun acc ha => ?_)]
  · unfold colR; rfl
  · have hm : x ∈ v.items := List.mem_of_getElem? hx
    by_cases her : (toS e x).2 = 0
    · simp only [g_r11_to_L1, decide_eq_true (show (i : Int) < v.items.length by omega), cond_true, idx_nat, hx, hI, Option.bind_some, h x hm, decide_eq_true her, Bool.not_true, cond_false, app_one acc _ (m := 80) (by decide) (show acc.length < v.items.length by omega) f4, wrap_nat hi (show v.items.length ≤ 9223372036854775807 by omega), if_pos her]
    · simp only [g_r11_to_L1, decide_eq_true (show (i : Int) < v.items.length by omega), cond_true, idx_nat, hx, hI, Option.bind_some, h x hm, decide_eq_false her, Bool.not_false, if_neg her]
  · simp only [g_r11_to_L1, decide_eq_false (show ¬ (v.items.length : Int) < v.items.length by omega), cond_false]
open Classical in
theorem rto_eq (v : Val) (t : Ty) : t_r11_to v t = g_r11_to (g_r11_object fun a0 a1 => if relT a1 t then t_r11_to a0 a1 else none) (fun a0 a1 => if relT a1 t then t_r11_to a0 a1 else none) v t := tieF_eq t v
open Classical in
theorem rto_spec (t : Ty) : ∀ v : Val, Tok t → Vok v → t_r11_to v t = some (toS t v) := by
  induction t using tyWf_ind with
  | h t ih =>
    intro v ht hv
    obtain ⟨hl, k0, k6, t6, t45, hri⟩ := ht.facts
    rw [rto_eq, toS_eq]
    unfold g_r11_to
    by_cases c1 : t.kind = 0
    · rw [decide_eq_true c1, if_pos (.inl c1), cond_true]
    by_cases c2 : v.kind = 0
    · rw [decide_eq_false c1, decide_eq_true c2, if_pos (.inr (.inl c2)), cond_true, cond_false]
    by_cases c3 : v.kind = 6
    · rw [decide_eq_false c1, decide_eq_false c2, decide_eq_true c3, if_pos (.inr (.inr c3)), cond_true, cond_false, cond_false]
    rw [decide_eq_false c1, decide_eq_false c2, decide_eq_false c3, if_neg (by omega)]
    simp only [cond_false]
    have hE : ∀ e, t.elems = [e] → ∀ x ∈ v.items, (fun a0 a1 => if relT a1 t then t_r11_to a0 a1 else none) x e = some (toS e x) := by
      intro e he x hx
      have hem : e ∈ t.elems := by rw [he]; exact List.mem_singleton.2 rfl
      simp only [if_pos (show relT e t from hem)]
      exact ih e hem x (ht.elem e hem) (hv.item x hx)
    by_cases t6' : t.kind = 6
    · rw [decide_eq_true t6', cond_true, if_neg (by omega), if_neg (by omega), if_neg (by omega), if_neg (by omega)]
      by_cases v5 : v.kind = 5
      · rw [decide_eq_true v5, Bool.not_true, cond_false, if_pos v5, robject_spec _ v t hv v5 (t6 t6') hl (fun e he x hx => by
          simp only [if_pos (show relT e t from he)]
          exact ih e he x (ht.elem e he) hx)]; rfl
      · rw [decide_eq_false v5, Bool.not_false, cond_true, if_neg v5]
    rw [decide_eq_false t6', cond_false]
    by_cases t4 : t.kind = 4
    · obtain ⟨e, he⟩ : ∃ e, t.elems = [e] := List.length_eq_one_iff.1 (t45 (.inl t4))
      have hH : headS t.elems v.items = eachS (fun x => toS e x) v.items := by rw [he, headS]
      rw [if_neg (by omega), if_neg (by omega), if_neg (by omega), if_pos (by omega), hH, decide_eq_true t4, decide_eq_false (show ¬ t.kind = 5 by omega), Bool.not_true, cond_false, cond_false]
      by_cases v4 : v.kind = 4
      · rw [decide_eq_true v4, Bool.not_true, cond_false, if_pos (by omega), decide_eq_true (show (t.elems.length : Int) = 1 by rw [he]; rfl), Bool.not_true, cond_false]
        exact reach_spec _ v t e he hv.1 (hE e he) rfl
      · rw [decide_eq_false v4, Bool.not_false, cond_true, if_neg (by omega)]
    by_cases t5 : t.kind = 5
    · obtain ⟨e, he⟩ : ∃ e, t.elems = [e] := List.length_eq_one_iff.1 (t45 (.inr t5))
      have hH : headS t.elems v.items = eachS (fun x => toS e x) v.items := by rw [he, headS]
      rw [if_neg (by omega), if_neg (by omega), if_neg (by omega), if_pos (by omega), hH, decide_eq_false t4, decide_eq_true t5, Bool.not_false, cond_true, Bool.not_true, cond_false]
      by_cases v5 : v.kind = 5
      · rw [decide_eq_true v5, Bool.not_true, cond_false, if_pos (by omega), decide_eq_true (show (t.elems.length : Int) = 1 by rw [he]; rfl), Bool.not_true, cond_false]
        exact reach_spec _ v t e he hv.1 (hE e he) rfl
      · rw [decide_eq_false v5, Bool.not_false, cond_true, if_neg (by omega)]
    rw [decide_eq_false t4, decide_eq_false t5, Bool.not_false, cond_true, cond_true]
    by_cases t1 : t.kind = 1
    · rw [if_pos t1, t1, simple_bool, (toBool_prim.eq hv.1).1]; rfl
    by_cases t2 : t.kind = 2
    · rw [if_neg t1, if_pos t2, t2, simple_number v hv.1, (toNumber_prim.eq hv.1).1]; rfl
    have t3 : t.kind = 3 := by omega
    rw [if_neg t1, if_neg t2, if_pos t3, t3, simple_string v hv.1, (toString_prim.eq hv.1).1]; rfl
open Classical in
theorem requal_eq (a b : Val) : t_r07_Equal a b = g_r07_Equal (fun a0 a1 => if relV a0 a then t_r07_Equal a0 a1 else none) a b := tieF_eq a b
open Classical in
theorem requal_spec (a : Val) : ∀ b : Val, a.Fits → ∃ q, t_r07_Equal a b = some q ∧ (q = true ↔ a = b) := by
  induction a using wfV.induction with
  | h a ih =>
    intro b hf
    obtain ⟨f1, f2, f3, f4, f5, f6, f7⟩ := hf.parts
    rw [requal_eq]
    unfold g_r07_Equal
    by_cases h1 : a.kind = b.kind
    case neg => exact ⟨false, by simp [h1], by simp; intro e; subst e; exact h1 rfl⟩
    by_cases h2 : a.num = b.num
    case neg => exact ⟨false, by simp [h1, h2], by simp; intro e; subst e; exact h2 rfl⟩
    by_cases h3 : a.str = b.str
    case neg => exact ⟨false, by simp [h1, h2, h3], by simp; intro e; subst e; exact h3 rfl⟩
    by_cases h5 : a.items.length = b.items.length
    case neg =>
      have h5' : ¬ (a.items.length : Int) = b.items.length := by omega
      exact ⟨false, by simp [h1, h2, h3, h5'], by simp; intro e; subst e; exact h5 rfl⟩
    by_cases h4 : a.keys.length = b.keys.length
    case neg =>
      have h4' : ¬ (a.keys.length : Int) = b.keys.length := by omega
      exact ⟨false, by simp [h1, h2, h3, h5, h4'], by simp; intro e; subst e; exact h4 rfl⟩
    rw [decide_eq_true h1, decide_eq_true h2, decide_eq_true h3, decide_eq_true (show (a.items.length : Int) = b.items.length by omega), decide_eq_true (show (a.keys.length : Int) = b.keys.length by omega)]
    simp only [Bool.not_true, cond_false]
    have hn := len_i64 f4 (by decide)
    have hm := len_i64 f5 (by decide)
    have inner : ∃ q, loopO (g_r07_Equal_L2 (fun a0 a1 => if relV a0 a then t_r07_Equal a0 a1 else none) a b) 0 = some (.inr q) ∧ (q = true ↔ ∀ i, i < a.items.length → a.items[i]? = b.items[i]?) := by
      have := loop_meas (body := g_r07_Equal_L2 (fun a0 a1 => if relV a0 a then t_r07_Equal a0 a1 else none) a b) (fun s => ∃ i : Nat, s = (i : Int) ∧ i ≤ a.items.length ∧ ∀ j, j < i → a.items[j]? = b.items[j]?) (fun s => a.items.length - s.toNat) (fun r => ∃ q, r = .inr q ∧ (q = true ↔ ∀ i, i < a.items.length → a.items[i]? = b.items[i]?)) (by
        rintro s ⟨i, rfl, hi, hp⟩
        rcases Nat.eq_or_lt_of_le hi with h0 | h0
        · subst h0
          exact .inr ⟨.inr true, by simp only [g_r07_Equal_L2, decide_eq_false (show ¬ (a.items.length : Int) < a.items.length by omega), cond_false], true, rfl, by simpa using hp⟩
        · have hxi := List.getElem?_eq_getElem h0
          have hyi := List.getElem?_eq_getElem (show i < b.items.length by omega)
          have hmem : a.items[i] ∈ a.items := List.getElem_mem h0
          obtain ⟨q, hq, hiff⟩ := ih _ hmem b.items[i] (f7 _ hmem)
          have hrel : relV a.items[i] a := hmem
          have hlt : decide ((i : Int) < a.items.length) = true := decide_eq_true (by omega)
          cases q with
          | true =>
            refine .inl ⟨((i + 1 : Nat) : Int), by simp only [g_r07_Equal_L2, hlt, cond_true, idx_nat, hxi, hyi, Option.bind_some, if_pos hrel, hq, Bool.not_true, cond_false, wrap_nat h0 (show a.items.length ≤ 9223372036854775807 by omega)], ⟨i + 1, rfl, h0, fun j hj => ?_⟩, by simp only [Int.toNat_natCast]; omega⟩
            rcases Nat.eq_or_lt_of_le (Nat.le_of_lt_succ hj) with rfl | hj
            · rw [hxi, hyi, hiff.1 rfl]
            · exact hp j hj
          | false =>
            refine .inr ⟨.inr false, by simp only [g_r07_Equal_L2, hlt, cond_true, idx_nat, hxi, hyi, Option.bind_some, if_pos hrel, hq, Bool.not_false], false, rfl, ⟨fun h => (by cases h), fun hall => ?_⟩⟩
            have he := hall i h0
            rw [hxi, hyi] at he; simp at he
            have := hiff.2 he; cases this) 0 ⟨0, rfl, Nat.zero_le _, fun j hj => by omega⟩
      obtain ⟨r, h1, q, rfl, h2⟩ := this
      exact ⟨q, h1, h2⟩
    obtain ⟨q0, i1, i2⟩ := inner
    have := loop_meas (body := g_r07_Equal_L1 (fun a0 a1 => if relV a0 a then t_r07_Equal a0 a1 else none) a b) (fun s => ∃ i : Nat, s = (i : Int) ∧ i ≤ a.keys.length ∧ ∀ j, j < i → a.keys[j]? = b.keys[j]?) (fun s => a.keys.length - s.toNat) (fun q => q = true ↔ a = b) (by
      rintro s ⟨i, rfl, hi, hp⟩
      rcases Nat.eq_or_lt_of_le hi with h0 | h0
      · subst h0
        refine .inr ⟨q0, by simp only [g_r07_Equal_L1, decide_eq_false (show ¬ (a.keys.length : Int) < a.keys.length by omega), cond_false, i1], i2.trans ⟨fun hall => ?_, ?_⟩⟩
        · exact val_ext h1 h2 h3 (list_ext h5 hall) (list_ext h4 hp)
        · intro e i _; rw [e]
      · have hxi := List.getElem?_eq_getElem h0
        have hyi := List.getElem?_eq_getElem (show i < b.keys.length by omega)
        have hlt : decide ((i : Int) < a.keys.length) = true := decide_eq_true (by omega)
        by_cases he : a.keys[i] = b.keys[i]
        · refine .inl ⟨((i + 1 : Nat) : Int), by simp only [g_r07_Equal_L1, hlt, cond_true, idx_nat, hxi, hyi, Option.bind_some, decide_eq_true he, Bool.not_true, cond_false, wrap_nat h0 (show a.keys.length ≤ 9223372036854775807 by omega)], ⟨i + 1, rfl, h0, fun j hj => ?_⟩, by simp only [Int.toNat_natCast]; omega⟩
          rcases Nat.eq_or_lt_of_le (Nat.le_of_lt_succ hj) with rfl | hj
          · rw [hxi, hyi, he]
          · exact hp j hj
        · refine .inr ⟨false, by simp only [g_r07_Equal_L1, hlt, cond_true, idx_nat, hxi, hyi, Option.bind_some, decide_eq_false he, Bool.not_false], ⟨fun h => (by cases h), fun e => ?_⟩⟩
          subst e; exact absurd rfl he) 0 ⟨0, rfl, Nat.zero_le _, fun j hj => by omega⟩
    exact this
/-! ### Strings and bools -/
theorem vtext_num (n : Int) (h : -9223372036854775808 ≤ n ∧ n ≤ 9223372036854775807) : vtext (fmtB n) = 0 := by
  have hl := itoa_len' n h.1 (by omega)
  have hs : (fmtB n).size ≤ 20 := by
    show (fmtB n).size ≤ _
    unfold fmtB
    rw [← ByteArray.size_data, List.size_toArray]
    omega
  have hb : ∀ b ∈ Lib.itoa n, b.toNat < 128 := by
    have hd : ∀ (k u : Nat), u ≤ k → ∀ b ∈ Lib.decDigits u, b.toNat < 128 := by
      intro k
      induction k with
      | zero =>
        intro u hu b hb
        rw [Lib.decDigits_one (by omega)] at hb
        obtain rfl : u = 0 := by omega
        simp at hb; subst hb; decide
      | succ k ih =>
        intro u hu b hb
        by_cases h : u < 10
        · rw [Lib.decDigits_one h] at hb
          simp at hb; subst hb
          simp [UInt8.toNat_ofNat']; omega
        · rw [Lib.decDigits, dif_neg h] at hb
          rcases List.mem_append.1 hb with hb | hb
          · exact ih (u / 10) (by omega) b hb
          · simp at hb; subst hb
            simp [UInt8.toNat_ofNat']; omega
    intro b hb
    unfold Lib.itoa at hb
    split at hb
    · rcases List.mem_cons.1 (by simpa using hb) with rfl | hb
      · decide
      · exact hd _ _ (Nat.le_refl _) b hb
    · exact hd _ _ (Nat.le_refl _) b hb
  unfold vtext
  rw [if_neg (by omega), if_pos]
  unfold utfB
  rw [decide_eq_true (by omega), Bool.true_and]
  have e : (fmtB n).data.toList = Lib.itoa n := by unfold fmtB; simp
  rw [e, Lib.validD_ascii (Lib.itoa n).length (Lib.itoa n) (fun b hb' => hb b (by simpa using hb'))]
  simp [Lib.validD_nil]
theorem node_bool2 (n : Int) (h : n = 0 ∨ n = 1) : nodeE (Val.mk 1 n eS [] []) = 0 := by
  have e : vtext eS = 0 := by decide
  unfold nodeE
  rw [if_neg (show ¬ shapedV (Val.mk 1 n eS [] []) = false by rcases h with rfl | rfl <;> simp [shapedV, shapedB, numOk, strOk, itemsOk, keysOk, Val.kind, Val.num, Val.str, Val.items, Val.keys]), if_neg (fun hh => by cases hh.1), if_neg (by simpa using e)]
  rfl
theorem textfalse : vtext ⟨#[102, 97, 108, 115, 101]⟩ = 0 := by decide
theorem str_valid (v : Val) (hv : Vok v) (hc : checkE v = 0) (h : (primS g_convert_toString v).2 = 0) : checkE (primS g_convert_toString v).1 = 0 := by
  obtain ⟨f1, f2, f3, f4, f5, f6, f7⟩ := hv.1.parts
  unfold primS g_convert_toString at h ⊢
  by_cases h1 : v.kind = 3
  · rw [decide_eq_true h1]; exact hc
  rw [decide_eq_false h1, cond_false] at h ⊢
  by_cases h2 : v.kind = 2
  · rw [decide_eq_true h2, cond_true, show m_format v.num = some (fmtB v.num) from gd_of f2, Option.bind_some]
    exact check_simple (node_text (vtext_num _ f2))
  rw [decide_eq_false h2, cond_false] at h ⊢
  by_cases h3 : v.kind = 1
  · rw [decide_eq_true h3, cond_true]
    cases decide (v.num = 1)
    · exact check_simple (node_text textfalse)
    · exact check_simple (node_text texttrue)
  · rw [decide_eq_false h3] at h; cases h
theorem bool_valid (v : Val) (hc : checkE v = 0) (h : (primS g_convert_toBool v).2 = 0) : checkE (primS g_convert_toBool v).1 = 0 := by
  unfold primS g_convert_toBool at h ⊢
  by_cases h1 : v.kind = 1
  · rw [decide_eq_true h1]; exact hc
  rw [decide_eq_false h1, cond_false] at h ⊢
  by_cases h3 : v.kind = 3
  case neg => rw [decide_eq_false h3] at h; cases h
  rw [decide_eq_true h3, cond_true] at h ⊢
  cases hd : decide (v.str = (⟨#[116, 114, 117, 101]⟩ : ByteArray))
  · rw [hd] at h
    rw [cond_false] at h ⊢
    cases hd2 : decide (v.str = (⟨#[102, 97, 108, 115, 101]⟩ : ByteArray))
    · rw [hd2] at h; cases h
    · exact check_simple (node_bool2 0 (.inl rfl))
  · exact check_simple (node_bool2 1 (.inr rfl))
/-- A conversion to a string or a bool needs no check. -/
theorem toE_simple {k : Int} (hk : k = 1 ∨ k = 3) (v : Val) (hv : Vok v) (hc : checkE v = 0) (h0 : v.kind ≠ 0) : toE v (Ty.mk k [] []) = (if (toS (Ty.mk k [] []) v).2 = 0 then ((toS (Ty.mk k [] []) v).1, 0) else (vZ, (toS (Ty.mk k [] []) v).2)) := by
  by_cases h : (toS (Ty.mk k [] []) v).2 = 0
  · rw [if_pos h, toE_good h]
    by_cases h6 : v.kind = 6
    · have : toS (Ty.mk k [] []) v = (v, 0) := by rw [toS_eq, if_pos (.inr (.inr h6))]
      rw [this]; exact hc
    · rcases hk with rfl | rfl
      · rw [toS_bool v h0 h6] at h ⊢; exact bool_valid v hc h
      · rw [toS_str v h0 h6] at h ⊢; exact str_valid v hv hc h
  · rw [if_neg h, toE_bad h]
theorem toS_simple_bad {k : Int} (hk : k = 1 ∨ k = 3) (v : Val) (hf : v.Fits) (h : (toS (Ty.mk k [] []) v).2 ≠ 0) : (toS (Ty.mk k [] []) v).1 = vZ := by
  by_cases h0 : v.kind = 0 ∨ v.kind = 6
  · have : toS (Ty.mk k [] []) v = (v, 0) := by rw [toS_eq, if_pos (.inr h0)]
    rw [this] at h; exact absurd rfl h
  · obtain ⟨f1, f2, f3, f4, f5, f6, f7⟩ := hf.parts
    rcases hk with rfl | rfl
    · rw [toS_bool v (by omega) (by omega)] at h ⊢
      unfold primS g_convert_toBool at h ⊢
      by_cases h1 : v.kind = 1
      · rw [decide_eq_true h1] at h; exact absurd rfl h
      rw [decide_eq_false h1, cond_false] at h ⊢
      by_cases h3 : v.kind = 3
      case neg => rw [decide_eq_false h3]; rfl
      rw [decide_eq_true h3, cond_true] at h ⊢
      cases hd : decide (v.str = (⟨#[116, 114, 117, 101]⟩ : ByteArray))
      · rw [hd] at h
        rw [cond_false] at h ⊢
        cases hd2 : decide (v.str = (⟨#[102, 97, 108, 115, 101]⟩ : ByteArray))
        · rfl
        · rw [hd2] at h; exact absurd rfl h
      · rw [hd] at h; exact absurd rfl h
    · rw [toS_str v (by omega) (by omega)] at h ⊢
      unfold primS g_convert_toString at h ⊢
      by_cases h1 : v.kind = 3
      · rw [decide_eq_true h1] at h; exact absurd rfl h
      rw [decide_eq_false h1, cond_false] at h ⊢
      by_cases h2 : v.kind = 2
      · rw [decide_eq_true h2, cond_true, show m_format v.num = some (fmtB v.num) from gd_of f2, Option.bind_some] at h; exact absurd rfl h
      rw [decide_eq_false h2, cond_false] at h ⊢
      by_cases h3 : v.kind = 1
      · rw [decide_eq_true h3, cond_true] at h
        cases hd : decide (v.num = 1) <;> rw [hd] at h <;> exact absurd rfl h
      · rw [decide_eq_false h3]; rfl
end Abs
end Go.Proofs.YtodgepbihbcdbaaGreatDoor
