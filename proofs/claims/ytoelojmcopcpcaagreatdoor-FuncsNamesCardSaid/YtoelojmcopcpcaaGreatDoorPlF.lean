/-
  The law of names: Names and Arity are the reference's; the chapter's examples.
-/
import Derived.Test.YtoelojmcopcpcaaGreatDoorFnZ
import Derived.Test.YtoelojmcopcpcaaGreatDoorPlA
namespace Go.Proofs.YtoelojmcopcpcaaGreatDoor
set_option linter.unusedSimpArgs false
set_option linter.unusedVariables false
namespace Abs
open Go.RowKit
theorem loop_run {O : Type} {body : Int → Option (Int ⊕ O)} (n : Nat) (q : O) (step : ∀ i : Nat, i < n → body (i : Int) = some (.inl ((i + 1 : Nat) : Int))) (stop : body (n : Int) = some (.inr q)) : loopO body 0 = some q := by
  obtain ⟨p, h1, h2⟩ := loop_meas (body := body) (fun s => ∃ i : Nat, s = (i : Int) ∧ i ≤ n) (fun s => n - s.toNat) (fun p => p = q) (by
    rintro s ⟨i, rfl, hi⟩
    rcases Nat.eq_or_lt_of_le hi with h0 | h0
    · subst h0; exact .inr ⟨q, stop, rfl⟩
    · exact .inl ⟨_, step i h0, ⟨i + 1, rfl, h0⟩, by simp only [Int.toNat_natCast]; omega⟩) 0 ⟨0, rfl, Nat.zero_le _⟩
  rw [h1, h2]
/-! ### The names -/
noncomputable def nmL : List ByteArray := (g_funcs_Names).getD []
theorem names_p : g_funcs_Names = some nmL := rfl
theorem names_r : g_r18_Names = some nmL := rfl
theorem nmL_len : nmL.length = 32 := rfl
theorem known_in {n : ByteArray} (h : n ∈ nmL) : g_r18_known n = some true := by
  unfold g_r18_known
  rw [names_r, Option.bind_some]
  obtain ⟨p, h1, h2⟩ := loop_meas (body := g_r18_known_L1 n nmL) (fun s => ∃ i : Nat, s = (i : Int) ∧ i ≤ nmL.length ∧ n ∈ nmL.drop i) (fun s => nmL.length - s.toNat) (fun p => p = true) (by
    rintro s ⟨i, rfl, hi, hm⟩
    rcases Nat.eq_or_lt_of_le hi with h0 | h0
    · rw [h0, List.drop_length] at hm; exact absurd hm List.not_mem_nil
    · have hx := List.getElem?_eq_getElem h0
      have hl := nmL_len
      by_cases he : nmL[i] = n
      · exact .inr ⟨true, by simp only [g_r18_known_L1, decide_eq_true (show (i : Int) < nmL.length by omega), cond_true, idx_nat, hx, Option.bind_some, decide_eq_true he], rfl⟩
      · refine .inl ⟨((i + 1 : Nat) : Int), by simp only [g_r18_known_L1, decide_eq_true (show (i : Int) < nmL.length by omega), cond_true, idx_nat, hx, Option.bind_some, decide_eq_false he, cond_false, wrap_nat h0 (show nmL.length ≤ 9223372036854775807 by omega)], ⟨i + 1, rfl, h0, ?_⟩, by simp only [Int.toNat_natCast]; omega⟩
        rw [List.drop_eq_getElem_cons h0] at hm
        rcases List.mem_cons.1 hm with e | e
        · exact absurd e.symm he
        · exact e) 0 ⟨0, rfl, Nat.zero_le _, by simpa using h⟩
  rw [h1, h2]
theorem known_out {n : ByteArray} (h : n ∉ nmL) : g_r18_known n = some false := by
  unfold g_r18_known
  rw [names_r, Option.bind_some]
  have hl := nmL_len
  refine loop_run nmL.length false (fun i h0 => ?_) ?_
  · have hx := List.getElem?_eq_getElem h0
    have he : ¬ nmL[i] = n := fun e => h (e ▸ List.getElem_mem h0)
    simp only [g_r18_known_L1, decide_eq_true (show (i : Int) < nmL.length by omega), cond_true, idx_nat, hx, Option.bind_some, decide_eq_false he, cond_false, wrap_nat h0 (show nmL.length ≤ 9223372036854775807 by omega)]
  · simp only [g_r18_known_L1, decide_eq_false (show ¬ (nmL.length : Int) < nmL.length by omega), cond_false]
theorem arity_same (n : ByteArray) : ∃ r, g_funcs_Arity n = some r ∧ g_r18_Arity n = some r := by
  by_cases h : n ∈ nmL
  · have hk := known_in h
    unfold nmL g_funcs_Names at h
    simp only [Option.getD_some, List.mem_cons, List.not_mem_nil, or_false] at h
    rcases h with rfl | rfl | rfl | rfl | rfl | rfl | rfl | rfl | rfl | rfl | rfl | rfl | rfl | rfl | rfl | rfl | rfl | rfl | rfl | rfl | rfl | rfl | rfl | rfl | rfl | rfl | rfl | rfl | rfl | rfl | rfl | rfl
    all_goals (unfold g_r18_Arity; rw [hk]; clear hk; exact ⟨_, rfl, rfl⟩)
  · refine ⟨(0, 0, false), ?_, ?_⟩
    · unfold nmL g_funcs_Names at h
      simp only [Option.getD_some, List.mem_cons, List.not_mem_nil, or_false, not_or] at h
      unfold g_funcs_Arity g_funcs_find
      simp only [h, decide_false, cond_false, Option.bind_some, Bool.not_false, cond_true]
    · unfold g_r18_Arity
      rw [known_out h]; rfl
/-! ### The examples -/
theorem fits_s {k n : Int} {s : ByteArray} (hk : -100 ≤ k ∧ k ≤ 100) (hn : -9223372036854775808 ≤ n ∧ n ≤ 9223372036854775807) (hs : s.size ≤ 140737488351232) : (Val.mk k n s [] []).Fits :=
  .mk ⟨by omega, by omega⟩ hn hs (by simp) (by simp) (fun s h => absurd h List.not_mem_nil) (fun s h => absurd h List.not_mem_nil)
abbrev nV (n : Int) : Val := Val.mk 2 n eS [] []
abbrev uV : Val := Val.mk 6 0 eS [] []
abbrev lV (l : List Val) : Val := Val.mk 4 0 eS l []
open Classical in
theorem eq_step (a b : Val) : t_value_Equal a b = g_value_Equal (fun a0 a1 => if relV a0 a then t_value_Equal a0 a1 else none) a b := tieF_eq a b
open Classical in
theorem unlike_step (a b : Val) : t_funcs_unlike a b = g_funcs_unlike (fun a0 a1 => if relV a0 a then t_funcs_unlike a0 a1 else none) a b := tieF_eq a b
open Classical in
theorem known_step (x : Val) : t_value_Known x = g_value_Known (g_value_Known_1 (fun a0 => if relV a0 x then t_value_Known a0 else none)) x := tieF_eq x ()
theorem seq_nil : g_slices_Equal [] [] = some true := by
  unfold g_slices_Equal
  show loopO _ 0 = _
  exact loop_done rfl
theorem eq_num (a b : Int) : t_value_Equal (nV a) (nV b) = some (decide (a = b)) := by
  rw [eq_step]
  unfold g_value_Equal
  show (bif (decide (a = b)) then _ else some false) = _
  by_cases h : a = b
  · rw [decide_eq_true h, cond_true]
    show (g_slices_Equal [] []).bind _ = _
    rw [seq_nil, Option.bind_some, cond_true]
    unfold g_value_Equal_slices_EqualFunc_value_Equal
    show (loopO _ 0).bind _ = _
    rw [loop_done (q := true) rfl]; rfl
  · rw [decide_eq_false h, cond_false]
theorem eq_unk (b : Int) : t_value_Equal uV (nV b) = some false := by
  rw [eq_step]; rfl
theorem known_num (a : Int) : t_value_Known (nV a) = some true := by
  rw [known_step]
  unfold g_value_Known g_value_Known_slices_ContainsFunc_value_Known_1 g_value_Known_slices_ContainsFunc_value_Known_1_slices_IndexFunc_value_Known_1
  show ((loopO _ 0).bind _).bind _ = _
  rw [loop_done (q := (-1 : Int)) rfl]; rfl
theorem alike_num (a b : Int) : g_funcs_alike (nV a) (nV b) = some (decide (a = b)) := by
  unfold g_funcs_alike
  rw [eq_num, Option.bind_some]
  cases decide (a = b) with
  | false => rfl
  | true => rw [cond_true, known_num]; rfl
theorem alike_unk (b : Int) : g_funcs_alike uV (nV b) = some false := by
  unfold g_funcs_alike
  rw [eq_unk]; rfl
theorem unlike_unk (b : Int) : t_funcs_unlike uV (nV b) = some false := by
  rw [unlike_step]; rfl
theorem is_one (v : Val) (k : Int) : g_funcs_is v [k] = some (decide (v.kind = k) || decide (v.kind = 6)) := by
  unfold g_funcs_is
  by_cases h : v.kind = k
  · rw [decide_eq_true h]
    refine loop_done ?_
    show (bif (decide (v.kind = k)) then _ else _) = _
    rw [decide_eq_true h]; rfl
  · rw [decide_eq_false h]
    rw [loop_next (s' := 1) (by
      show (bif (decide (v.kind = k)) then _ else _) = _
      rw [decide_eq_false h]; rfl)]
    refine loop_done ?_
    rfl
theorem check_num {n : Int} (h : checkE (nV n) = 0) (hn : -9223372036854775808 ≤ n ∧ n ≤ 9223372036854775807) : m_checkE (nV n) = some 0 ∧ cpy (nV n) = some (nV n) := by
  have hf : (nV n).Fits := fits_s (by decide) hn (by decide)
  exact ⟨by rw [show m_checkE (nV n) = some (checkE (nV n)) from gd_of hf, h], gd_of hf⟩
theorem check_unk : m_checkE uV = some 0 ∧ cpy uV = some uV := by
  have hf : uV.Fits := fits_s (by decide) (by decide) (by decide)
  exact ⟨by rw [show m_checkE uV = some (checkE uV) from gd_of hf, show checkE uV = 0 by decide +kernel], gd_of hf⟩
theorem check_true : m_checkE (Val.mk 1 1 eS [] []) = some 0 ∧ cpy (Val.mk 1 1 eS [] []) = some (Val.mk 1 1 eS [] []) := by
  have hf : (Val.mk 1 1 eS [] []).Fits := fits_s (by decide) (by decide) (by decide)
  exact ⟨by rw [show m_checkE (Val.mk 1 1 eS [] []) = some (checkE (Val.mk 1 1 eS [] [])) from gd_of hf, show checkE (Val.mk 1 1 eS [] []) = 0 by decide +kernel], gd_of hf⟩
def bCon : ByteArray := ⟨#[99, 111, 110, 116, 97, 105, 110, 115]⟩
def bEl : ByteArray := ⟨#[101, 108, 101, 109, 101, 110, 116]⟩
/-- A call of two arguments whose first is a list, up to the function itself. -/
theorem call_two {name : ByteArray} {l : List Val} {n : Int} {b2 : UInt8} {r v : Val} (hfind : g_funcs_find name = some (SpecG.mk ⟨#[108, b2]⟩ 2 2 false, true)) (hfit : g_funcs_fits (nV n) (b2.toNat : Int) = some true)
    (happ : g_funcs_apply name [lV l, nV n] = some (r, 0)) (hc : m_checkE r = some 0 ∧ cpy r = some v) : g_funcs_Call name [lV l, nV n] = some (v, 0) := by
  unfold g_funcs_Call
  rw [hfind, Option.bind_some]
  show loopO (g_funcs_Call_L1 name [lV l, nV n] (SpecG.mk ⟨#[108, b2]⟩ 2 2 false, true)) 0 = _
  have f0 : g_funcs_fits (lV l) 108 = some true := by
    unfold g_funcs_fits
    show (g_funcs_is (lV l) [4]).bind _ = _
    rw [is_one]; rfl
  have l0 : g_funcs_spec__letter (SpecG.mk ⟨#[108, b2]⟩ 2 2 false) 0 = some 108 := rfl
  have l1 : g_funcs_spec__letter (SpecG.mk ⟨#[108, b2]⟩ 2 2 false) 1 = some (b2.toNat : Int) := rfl
  have d0 : decide ((0 : Int) < (([lV l, nV n] : List Val).length : Int)) = true := rfl
  have d1 : decide ((1 : Int) < (([lV l, nV n] : List Val).length : Int)) = true := rfl
  have d2 : decide ((2 : Int) < (([lV l, nV n] : List Val).length : Int)) = false := rfl
  have i0 : idx [lV l, nV n] 0 = some (lV l) := rfl
  have i1 : idx [lV l, nV n] 1 = some (nV n) := rfl
  have w0 : IntKind.i64.wrap (0 + 1) = 1 := by decide
  have w1 : IntKind.i64.wrap (1 + 1) = 2 := by decide
  rw [loop_next (s' := 1) (by
    unfold g_funcs_Call_L1
    simp only [d0, cond_true, i0, l0, f0, w0, Option.bind_some, Bool.not_true, cond_false])]
  rw [loop_next (s' := 2) (by
    unfold g_funcs_Call_L1
    simp only [d1, cond_true, i1, l1, hfit, w1, Option.bind_some, Bool.not_true, cond_false])]
  refine loop_done ?_
  unfold g_funcs_Call_L1
  simp only [d2, cond_false, happ, Option.bind_some, decide_true, cond_true, hc.1, hc.2, Bool.not_true]
theorem con_yes : g_funcs_contains [uV, nV 1] (nV 1) = some (Val.mk 1 1 eS [] []) := by
  unfold g_funcs_contains
  rw [loop_next (s' := (1, false)) (by
    unfold g_funcs_contains_L1
    show (g_funcs_alike uV (nV 1)).bind _ = _
    rw [alike_unk, Option.bind_some]
    show (t_funcs_unlike uV (nV 1)).bind _ = _
    rw [unlike_unk]; rfl)]
  refine loop_done ?_
  unfold g_funcs_contains_L1
  show (g_funcs_alike (nV 1) (nV 1)).bind _ = _
  rw [alike_num]; rfl
theorem con_unk : g_funcs_contains [uV, nV 1] (nV 2) = some uV := by
  unfold g_funcs_contains
  rw [loop_next (s' := (1, false)) (by
    unfold g_funcs_contains_L1
    show (g_funcs_alike uV (nV 2)).bind _ = _
    rw [alike_unk, Option.bind_some]
    show (t_funcs_unlike uV (nV 2)).bind _ = _
    rw [unlike_unk]; rfl)]
  rw [loop_next (s' := (2, false)) (by
    unfold g_funcs_contains_L1
    show (g_funcs_alike (nV 1) (nV 2)).bind _ = _
    rw [alike_num]; rfl)]
  refine loop_done ?_
  rfl
theorem app_con (l : List Val) (x : Val) {r : Val} (h : g_funcs_contains l x = some r) : g_funcs_apply bCon [lV l, x] = some (r, 0) := by
  unfold g_funcs_apply
  show (g_funcs_search bCon [lV l, x]).bind _ = _
  have : g_funcs_search bCon [lV l, x] = some (r, 0) := by
    unfold g_funcs_search
    show (g_funcs_contains l x).bind _ = _
    rw [h]; rfl
  rw [this]; rfl
theorem app_el : g_funcs_apply bEl [lV [nV 1, nV 2, nV 3], nV (-1)] = some (nV 3, 0) := by kernel_rfl
theorem call_abs : g_funcs_Call ⟨#[97, 98, 115]⟩ [Val.mk 0 0 eS [] []] = some (Val.mk 0 0 eS [] [], 6) := by
  unfold g_funcs_Call
  rw [show g_funcs_find ⟨#[97, 98, 115]⟩ = some (SpecG.mk ⟨#[110]⟩ 1 1 true, true) from rfl, Option.bind_some]
  show loopO (g_funcs_Call_L1 ⟨#[97, 98, 115]⟩ [Val.mk 0 0 eS [] []] (SpecG.mk ⟨#[110]⟩ 1 1 true, true)) 0 = _
  refine loop_done ?_
  unfold g_funcs_Call_L1
  have l0 : g_funcs_spec__letter (SpecG.mk ⟨#[110]⟩ 1 1 true) 0 = some 110 := rfl
  have d0 : decide ((0 : Int) < (([Val.mk 0 0 eS [] []] : List Val).length : Int)) = true := rfl
  have i0 : idx [Val.mk 0 0 eS [] []] 0 = some (Val.mk 0 0 eS [] []) := rfl
  have f0 : g_funcs_fits (Val.mk 0 0 eS [] []) 110 = some false := by
    unfold g_funcs_fits
    show (g_funcs_is (Val.mk 0 0 eS [] []) [2]).bind _ = _
    rw [is_one]; rfl
  simp only [d0, cond_true, i0, l0, f0, Option.bind_some, Bool.not_false]
theorem awake18 : g_l18_awake = some true := by
  have y5 : g_funcs_Call bCon [lV [uV, nV 1], nV 1] = some (Val.mk 1 1 eS [] [], 0) := call_two rfl rfl (app_con _ _ con_yes) check_true
  have y10 : g_funcs_Call bCon [lV [uV, nV 1], nV 2] = some (uV, 0) := call_two rfl rfl (app_con _ _ con_unk) check_unk
  have f2 : g_funcs_fits (nV (-1)) ((110 : UInt8).toNat : Int) = some true := by
    unfold g_funcs_fits
    show (g_funcs_is (nV (-1)) [2]).bind _ = _
    rw [is_one]; rfl
  have y16 : g_funcs_Call bEl [lV [nV 1, nV 2, nV 3], nV (-1)] = some (nV 3, 0) := call_two (b2 := 110) rfl f2 app_el (check_num (by decide +kernel) (by decide))
  have y17 := call_abs
  have y18 : g_funcs_Call ⟨#[110, 111, 112, 101]⟩ [] = some (Val.mk 0 0 eS [] [], 17) := rfl
  have y19 : g_funcs_Arity ⟨#[108, 111, 111, 107, 117, 112]⟩ = some (2, 3, true) := rfl
  unfold g_l18_awake
  show ((g_funcs_Call bCon [lV [uV, nV 1], nV 1]).bind fun y5 => _) = _
  rw [y5, Option.bind_some]
  show ((g_funcs_Call bCon [lV [uV, nV 1], nV 2]).bind fun y5 => _) = _
  rw [y10, Option.bind_some]
  show ((g_funcs_Call bEl [lV [nV 1, nV 2, nV 3], nV (-1)]).bind fun y5 => _) = _
  rw [y16, Option.bind_some, y17, Option.bind_some, y18, Option.bind_some, y19, Option.bind_some, names_p, Option.bind_some]
  rfl
theorem law_Names (name : ByteArray) (h : name.size ≤ 140737488351232) : g_l18_FuncsNames name = some true := by
  have hl := nmL_len
  unfold g_l18_FuncsNames
  rw [names_p, Option.bind_some, names_r, Option.bind_some, decide_eq_true rfl, Bool.not_true, cond_false]
  refine loop_run nmL.length true (fun i h0 => ?_) ?_
  · have hx := List.getElem?_eq_getElem h0
    simp only [g_l18_FuncsNames_L1, decide_eq_true (show (i : Int) < nmL.length by omega), cond_true, idx_nat, hx, Option.bind_some, decide_true, Bool.not_true, cond_false, wrap_nat h0 (show nmL.length ≤ 9223372036854775807 by omega)]
  · unfold g_l18_FuncsNames_L1
    obtain ⟨r, r1, r2⟩ := arity_same name
    simp only [decide_eq_false (show ¬ (nmL.length : Int) < nmL.length by omega), cond_false, r1, r2, Option.bind_some, decide_true, cond_true, beq_self_eq_true, awake18]
end Abs
end Go.Proofs.YtoelojmcopcpcaaGreatDoor
