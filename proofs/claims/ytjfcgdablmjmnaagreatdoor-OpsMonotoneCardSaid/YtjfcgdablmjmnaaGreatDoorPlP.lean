/-
  The operators on values, as functions; the laws about calls, entries, logic, comparisons and known arguments.
-/
import Derived.Test.YtjfcgdablmjmnaaGreatDoorPlO
namespace Go.Proofs.YtjfcgdablmjmnaaGreatDoor
set_option linter.unusedSimpArgs false
set_option linter.unusedVariables false
namespace Abs
open Go.RowKit
theorem vBool_eq (b : Bool) : g_value_Bool b = some (bV b) := by cases b <;> rfl
theorem rBool_eq (b : Bool) : g_r07_Bool b = some (bV b) := by cases b <;> rfl
theorem vNumber_eq (n : Int) : g_value_Number n = some (vNum n) := rfl
theorem vString_eq (s : ByteArray) : g_value_String s = some (vText s) := rfl
theorem vUnknown_eq : g_value_Unknown = some vU := rfl
theorem rNumber_eq (n : Int) : g_r07_Number n = some (vNum n) := rfl
theorem rString_eq (s : ByteArray) : g_r07_String s = some (vText s) := rfl
theorem rUnknown_eq : g_r07_Unknown = some vU := rfl
theorem rNull_eq : g_r07_Null = some vZ := rfl
theorem cpy_eq {x : Val} (h : x.Fits) : cpy x = some x := gd_of h
theorem req_refl {x : Val} (h : x.Fits) : t_r07_Equal x x = some true := by
  obtain ⟨q, h1, h2⟩ := requal_spec x x h
  rw [h1, h2.2 rfl]
/-! ### Attributes, indexes -/
def attrS (v : Val) (name : ByteArray) : Val × Int := if v.kind = 6 then (vU, 0) else if v.kind = 5 then (if hasB v.keys name = true then (look v.keys v.items name, 0) else (vZ, 16)) else (vZ, 6)
theorem Attr_spec {v : Val} (h : Ck v) (name : ByteArray) : g_ops_Attr v name = some (attrS v name) := by
  unfold g_ops_Attr attrS
  by_cases h6 : v.kind = 6
  · rw [decide_eq_true h6, if_pos h6, vU_of h.ok h6]; rfl
  rw [decide_eq_false h6, if_neg h6, cond_false]
  by_cases h5 : v.kind = 5
  · rw [decide_eq_true h5, if_pos h5, cond_true, get_full v name h.ok.1 h5 (h.ok.shape.2.2.2.2.2.2.1 h5) h.ok.rising, Option.bind_some]
    cases hasB v.keys name <;> rfl
  · rw [decide_eq_false h5, if_neg h5]; rfl
theorem rAttr_spec {v : Val} (h : Ck v) (name : ByteArray) : g_r19_Attr v name = some (attrS v name) := by
  unfold g_r19_Attr attrS
  by_cases h6 : v.kind = 6
  · rw [decide_eq_true h6, if_pos h6]; rfl
  rw [decide_eq_false h6, if_neg h6, cond_false]
  by_cases h5 : v.kind = 5
  · rw [decide_eq_true h5, if_pos h5, Bool.not_true, cond_false, get07_full v name h.ok.1 h5 (h.ok.shape.2.2.2.2.2.2.1 h5), Option.bind_some]
    cases hasB v.keys name <;> rfl
  · rw [decide_eq_false h5, if_neg h5]; rfl
theorem asNum_spec {v : Val} (h : Ck v) : g_ops_asNumber v = some (cvS 2 v) := by
  unfold g_ops_asNumber
  by_cases h0 : v.kind = 0
  · rw [decide_eq_true h0]; unfold cvS; rw [if_pos h0]; rfl
  · rw [decide_eq_false h0, cond_false, To_sc (.inr (.inl rfl)) h h0]; rfl
theorem rnum_spec {v : Val} (h : Ck v) : g_r19_number v = some (cvS 2 v) := by
  unfold g_r19_number
  by_cases h0 : v.kind = 0
  · rw [decide_eq_true h0]; unfold cvS; rw [if_pos h0]; rfl
  · rw [decide_eq_false h0, cond_false, rTo_sc (.inr (.inl rfl)) h h0]; rfl
/-- What is done with a converted value. -/
def thenS (q : Val × Int) (f : Val → Val × Int) : Val × Int := if q.2 ≠ 0 then (vZ, q.2) else if q.1.kind = 6 then (vU, 0) else f q.1
theorem thenS_unk (f : Val → Val × Int) : thenS (vU, 0) f = (vU, 0) := rfl
theorem thenS_bad (f : Val → Val × Int) : thenS (vZ, 6) f = (vZ, 6) := rfl
theorem thenS_val {x : Val} (h : x.kind ≠ 6) (f : Val → Val × Int) : thenS (x, 0) f = f x := by unfold thenS; rw [if_neg (by simp), if_neg h]
noncomputable def indexS (v key : Val) : Val × Int :=
  if v.kind = 6 then (vU, 0)
  else if v.kind = 4 then thenS (cvS 2 key) fun x => if x.num < 0 ∨ x.num ≥ v.items.length then (vZ, 16) else ((v.items[x.num.toNat]?).getD vZ, 0)
  else if v.kind = 5 then thenS (cvS 3 key) fun x => attrS v x.str
  else (vZ, 6)
theorem idx_in {α : Type} {l : List α} {n : Int} (h0 : ¬ n < 0) (h1 : ¬ n ≥ l.length) : ∃ x, l[n.toNat]? = some x ∧ idx l n = some x := by
  have hi : n.toNat < l.length := by omega
  refine ⟨_, List.getElem?_eq_getElem hi, ?_⟩
  unfold idx
  rw [if_pos (by omega), List.getElem?_eq_getElem hi]
theorem Index_spec {v key : Val} (h : Ck v) (hk : Ck key) : g_ops_Index v key = some (indexS v key) := by
  unfold g_ops_Index indexS
  by_cases h6 : v.kind = 6
  · rw [decide_eq_true h6, if_pos h6, vU_of h.ok h6]; rfl
  rw [decide_eq_false h6, if_neg h6, cond_false]
  by_cases h4 : v.kind = 4
  · rw [decide_eq_true h4, if_pos h4, cond_true]
    unfold g_ops_item
    rw [asNum_spec hk, Option.bind_some]
    cases cvS_cases (k := 2) (.inr (.inl rfl)) hk with
    | unk e1 e2 => rw [e2, thenS_unk]; simp [open1]
    | bad e1 e2 => rw [e2, thenS_bad]; simp
    | @val x e1 e2 e3 e4 e5 e6 =>
      rw [e6, thenS_val (by omega)]
      simp only [decide_true, Bool.not_true, cond_false, open1, Option.bind_some, decide_eq_false (show ¬ x.kind = 6 by omega)]
      by_cases n0 : x.num < 0
      · rw [decide_eq_true n0, if_pos (.inl n0)]; rfl
      rw [decide_eq_false n0, cond_false]
      by_cases n1 : x.num ≥ v.items.length
      · rw [decide_eq_true n1, if_pos (.inr n1)]; rfl
      rw [decide_eq_false n1, if_neg (by omega), cond_false]
      obtain ⟨y, y1, y2⟩ := idx_in n0 n1
      rw [y2, Option.bind_some, cpy_eq (h.item y (List.mem_of_getElem? y1)).ok.1, y1]; rfl
  rw [decide_eq_false h4, if_neg h4, cond_false]
  by_cases h5 : v.kind = 5
  · rw [decide_eq_true h5, if_pos h5, cond_true, Text_sc hk, Option.bind_some]
    cases cvS_cases (k := 3) (.inr (.inr rfl)) hk with
    | unk e1 e2 => rw [e2, thenS_unk]; simp [open1]
    | bad e1 e2 => rw [e2, thenS_bad]; simp
    | @val x e1 e2 e3 e4 e5 e6 =>
      rw [e6, thenS_val (by omega)]
      simp only [decide_true, Bool.not_true, cond_false, open1, Option.bind_some, decide_eq_false (show ¬ x.kind = 6 by omega), Attr_spec h]
  · rw [decide_eq_false h5, if_neg h5]; rfl
theorem rIndex_spec {v key : Val} (h : Ck v) (hk : Ck key) : g_r19_Index v key = some (indexS v key) := by
  unfold g_r19_Index indexS
  by_cases h6 : v.kind = 6
  · rw [decide_eq_true h6, if_pos h6]; rfl
  rw [decide_eq_false h6, if_neg h6, cond_false]
  by_cases h5 : v.kind = 5
  · rw [decide_eq_true h5, if_neg (by omega), if_pos h5, cond_true, rText_sc hk, Option.bind_some]
    cases cvS_cases (k := 3) (.inr (.inr rfl)) hk with
    | unk e1 e2 => rw [e2, thenS_unk]; rfl
    | bad e1 e2 => rw [e2, thenS_bad]; rfl
    | @val x e1 e2 e3 e4 e5 e6 =>
      rw [e6, thenS_val (by omega)]
      simp only [decide_true, Bool.not_true, cond_false, Option.bind_some, decide_eq_false (show ¬ x.kind = 6 by omega), rAttr_spec h]
  rw [decide_eq_false h5, cond_false]
  by_cases h4 : v.kind = 4
  · rw [decide_eq_true h4, if_pos h4, Bool.not_true, cond_false, rnum_spec hk, Option.bind_some]
    cases cvS_cases (k := 2) (.inr (.inl rfl)) hk with
    | unk e1 e2 => rw [e2, thenS_unk]; rfl
    | bad e1 e2 => rw [e2, thenS_bad]; rfl
    | @val x e1 e2 e3 e4 e5 e6 =>
      rw [e6, thenS_val (by omega)]
      simp only [decide_true, Bool.not_true, cond_false, Option.bind_some, decide_eq_false (show ¬ x.kind = 6 by omega)]
      by_cases n0 : x.num < 0
      · rw [decide_eq_true n0, if_pos (.inl n0)]; rfl
      rw [decide_eq_false n0, cond_false]
      by_cases n1 : x.num ≥ v.items.length
      · rw [decide_eq_true n1, if_pos (.inr n1)]; rfl
      rw [decide_eq_false n1, if_neg (by omega), cond_false]
      obtain ⟨y, y1, y2⟩ := idx_in n0 n1
      rw [y2, y1]; rfl
  · rw [decide_eq_false h4, if_neg h4, if_neg h5]; rfl
/-! ### Unary operators -/
noncomputable def unaryS (op : Int) (v : Val) : Val × Int :=
  if op = 1 then thenS (cvS 1 v) fun x => (bV (decide (x.num = 0)), 0)
  else if op = 2 then thenS (cvS 2 v) fun x => (vNum (IntKind.i64.wrap (0 - x.num)), 0)
  else (vZ, 1)
theorem Unary_spec {v : Val} (h : Ck v) (op : Int) : g_ops_Unary op v = some (unaryS op v) := by
  unfold g_ops_Unary unaryS
  by_cases h1 : op = 1
  · rw [decide_eq_true h1, if_pos h1, cond_true, Truth_sc h, Option.bind_some]
    cases cvS_cases (k := 1) (.inl rfl) h with
    | unk e1 e2 => rw [e2, thenS_unk]; simp [open1]
    | bad e1 e2 => rw [e2, thenS_bad]; simp
    | @val x e1 e2 e3 e4 e5 e6 =>
      rw [e6, thenS_val (by omega)]
      simp only [decide_true, Bool.not_true, cond_false, open1, Option.bind_some, decide_eq_false (show ¬ x.kind = 6 by omega), vBool_eq]
  rw [decide_eq_false h1, if_neg h1, cond_false]
  by_cases h2 : op = 2
  · rw [decide_eq_true h2, if_pos h2, cond_true, asNum_spec h, Option.bind_some]
    cases cvS_cases (k := 2) (.inr (.inl rfl)) h with
    | unk e1 e2 => rw [e2, thenS_unk]; simp [open1]
    | bad e1 e2 => rw [e2, thenS_bad]; simp
    | @val x e1 e2 e3 e4 e5 e6 =>
      rw [e6, thenS_val (by omega)]
      simp only [decide_true, Bool.not_true, cond_false, open1, Option.bind_some, decide_eq_false (show ¬ x.kind = 6 by omega), vNumber_eq]
  · rw [decide_eq_false h2, if_neg h2]; rfl
theorem rUnary_spec {v : Val} (h : Ck v) (op : Int) : g_r19_Unary op v = some (unaryS op v) := by
  unfold g_r19_Unary unaryS
  by_cases h1 : op = 1
  · rw [decide_eq_true h1, if_pos h1, Bool.not_true, cond_false, rnum_spec h, Option.bind_some, rTruth_sc h, Option.bind_some]
    cases cvS_cases (k := 1) (.inl rfl) h with
    | unk e1 e2 => rw [e2, thenS_unk]; rfl
    | bad e1 e2 => rw [e2, thenS_bad]; rfl
    | @val x e1 e2 e3 e4 e5 e6 =>
      rw [e6, thenS_val (by omega)]
      simp only [decide_true, Bool.not_true, cond_false, Option.bind_some, decide_eq_false (show ¬ x.kind = 6 by omega), rBool_eq]
  rw [decide_eq_false h1, if_neg h1, Bool.not_false, cond_true]
  by_cases h2 : op = 2
  · rw [decide_eq_true h2, if_pos h2, Bool.not_true, cond_false, rnum_spec h, Option.bind_some]
    cases cvS_cases (k := 2) (.inr (.inl rfl)) h with
    | unk e1 e2 => rw [e2, thenS_unk]; rfl
    | bad e1 e2 => rw [e2, thenS_bad]; rfl
    | @val x e1 e2 e3 e4 e5 e6 =>
      rw [e6, thenS_val (by omega)]
      simp only [decide_true, Bool.not_true, cond_false, Option.bind_some, decide_eq_false (show ¬ x.kind = 6 by omega), rNumber_eq]
  · rw [decide_eq_false h2, if_neg h2]; rfl
/-! ### Binary operators -/
noncomputable def logicS (a b : Val) (stop : Int) : Val × Int :=
  let x := cvS 1 a
  let y := cvS 1 b
  if x.2 ≠ 0 then (vZ, x.2) else if y.2 ≠ 0 then (vZ, y.2)
  else if (x.1.kind ≠ 6 ∧ x.1.num = stop) ∨ (y.1.kind ≠ 6 ∧ y.1.num = stop) then (bV (decide (stop = 1)), 0)
  else if x.1.kind = 6 ∨ y.1.kind = 6 then (vU, 0) else (bV (decide (stop = 0)), 0)
theorem logic_spec {a b : Val} (ha : Ck a) (hb : Ck b) (stop : Int) : g_ops_logic a b stop = some (logicS a b stop) := by
  unfold g_ops_logic logicS
  simp only [Truth_sc ha, Truth_sc hb, Option.bind_some, open1, open2, vBool_eq, vUnknown_eq]
  cases cvS_cases (k := 1) (.inl rfl) ha with
  | bad e1 e2 => rw [e2]; simp
  | unk e1 e2 =>
    rw [e2]
    cases cvS_cases (k := 1) (.inl rfl) hb with
    | bad f1 f2 => rw [f2]; simp
    | unk f1 f2 => rw [f2]; simp [kind_mk]
    | @val y f1 f2 f3 f4 f5 f6 =>
      rw [f6]
      by_cases g : y.num = stop <;> simp [f4, g, kind_mk]
  | @val x e1 e2 e3 e4 e5 e6 =>
    rw [e6]
    cases cvS_cases (k := 1) (.inl rfl) hb with
    | bad f1 f2 => rw [f2]; simp
    | unk f1 f2 =>
      rw [f2]
      by_cases g : x.num = stop <;> simp [e4, g, kind_mk]
    | @val y f1 f2 f3 f4 f5 f6 =>
      rw [f6]
      by_cases g : x.num = stop <;> by_cases g2 : y.num = stop <;> simp [e4, f4, g, g2]
theorem rlogic_spec {a b : Val} (ha : Ck a) (hb : Ck b) (stop : Int) : g_r19_logic a b stop = some (logicS a b stop) := by
  unfold g_r19_logic logicS
  simp only [rTruth_sc ha, rTruth_sc hb, Option.bind_some, rBool_eq, rUnknown_eq]
  cases cvS_cases (k := 1) (.inl rfl) ha with
  | bad e1 e2 => rw [e2]; simp
  | unk e1 e2 =>
    rw [e2]
    cases cvS_cases (k := 1) (.inl rfl) hb with
    | bad f1 f2 => rw [f2]; simp
    | unk f1 f2 => rw [f2]; simp [kind_mk]
    | @val y f1 f2 f3 f4 f5 f6 =>
      rw [f6]
      by_cases g : y.num = stop <;> simp [f4, g, kind_mk]
  | @val x e1 e2 e3 e4 e5 e6 =>
    rw [e6]
    cases cvS_cases (k := 1) (.inl rfl) hb with
    | bad f1 f2 => rw [f2]; simp
    | unk f1 f2 =>
      rw [f2]
      by_cases g : x.num = stop <;> simp [e4, g, kind_mk]
    | @val y f1 f2 f3 f4 f5 f6 =>
      rw [f6]
      by_cases g : x.num = stop <;> by_cases g2 : y.num = stop <;> simp [e4, f4, g, g2]
def cmpS (op a b : Int) : Bool := if op = 7 then decide (a < b) else if op = 8 then decide (a ≤ b) else if op = 9 then decide (a > b) else decide (a ≥ b)
def ariS (op a b : Int) : Int × Int := if op = 11 then NumPlain.add a b else if op = 12 then NumPlain.sub a b else if op = 13 then NumPlain.mul a b else if op = 14 then NumPlain.div a b else NumPlain.mod a b
theorem compared_spec (op a b : Int) : g_ops_compared op a b = some (cmpS op a b) := by
  unfold g_ops_compared cmpS
  by_cases h7 : op = 7
  · simp [h7]
  by_cases h8 : op = 8
  · simp [h8]
  by_cases h9 : op = 9
  · simp [h9]
  · simp [h7, h8, h9]
theorem rcompare_spec (op a b : Int) : g_r19_compare op a b = some (bV (cmpS op a b)) := by
  unfold g_r19_compare cmpS
  simp only [rBool_eq, Option.bind_some]
  by_cases h7 : op = 7
  · simp [h7]
  by_cases h8 : op = 8
  · simp [h8]
  by_cases h9 : op = 9
  · simp [h9]
  · simp [h7, h8, h9]
theorem computed_spec (op a b : Int) : g_ops_computed op a b = some (ariS op a b) := by
  unfold g_ops_computed ariS m_add m_sub m_mul m_div m_mod
  simp only [Option.bind_some]
  by_cases h1 : op = 11
  · simp [h1]
  by_cases h2 : op = 12
  · simp [h2]
  by_cases h3 : op = 13
  · simp [h3]
  by_cases h4 : op = 14
  · simp [h4]
  · simp [h1, h2, h3, h4]
theorem rcompute_spec (op a b : Int) : g_r19_compute op a b = some (ariS op a b) := by
  unfold g_r19_compute ariS m_add m_sub m_mul m_div m_mod
  simp only [Option.bind_some]
  by_cases h1 : op = 11
  · simp [h1]
  by_cases h2 : op = 12
  · simp [h2]
  by_cases h3 : op = 13
  · simp [h3]
  by_cases h4 : op = 14
  · simp [h4]
  · simp [h1, h2, h3, h4]
noncomputable def numericS (op : Int) (a b : Val) : Val × Int :=
  let x := cvS 2 a
  let y := cvS 2 b
  if x.2 ≠ 0 then (vZ, x.2) else if y.2 ≠ 0 then (vZ, y.2)
  else if x.1.kind = 6 ∨ y.1.kind = 6 then (vU, 0)
  else if op ≤ 10 then (bV (cmpS op x.1.num y.1.num), 0)
  else if (ariS op x.1.num y.1.num).2 ≠ 0 then (vZ, (ariS op x.1.num y.1.num).2) else (vNum (ariS op x.1.num y.1.num).1, 0)
theorem numeric_spec {a b : Val} (ha : Ck a) (hb : Ck b) (op : Int) : g_ops_numeric op a b = some (numericS op a b) := by
  unfold g_ops_numeric numericS
  simp only [asNum_spec ha, asNum_spec hb, Option.bind_some, open2, vBool_eq, vUnknown_eq, vNumber_eq, compared_spec, computed_spec]
  cases cvS_cases (k := 2) (.inr (.inl rfl)) ha with
  | bad e1 e2 => rw [e2]; simp
  | unk e1 e2 =>
    rw [e2]
    cases cvS_cases (k := 2) (.inr (.inl rfl)) hb with
    | bad f1 f2 => rw [f2]; simp
    | unk f1 f2 => rw [f2]; simp [kind_mk]
    | @val y f1 f2 f3 f4 f5 f6 => rw [f6]; simp [kind_mk]
  | @val x e1 e2 e3 e4 e5 e6 =>
    rw [e6]
    cases cvS_cases (k := 2) (.inr (.inl rfl)) hb with
    | bad f1 f2 => rw [f2]; simp
    | unk f1 f2 => rw [f2]; simp [kind_mk]
    | @val y f1 f2 f3 f4 f5 f6 =>
      rw [f6]
      by_cases g : op ≤ 10
      · simp [e4, f4, g]
      · by_cases g2 : (ariS op x.num y.num).2 = 0 <;> simp [e4, f4, g, g2]
theorem rnumeric_spec {a b : Val} (ha : Ck a) (hb : Ck b) (op : Int) : g_r19_numeric op a b = some (numericS op a b) := by
  unfold g_r19_numeric numericS
  simp only [rnum_spec ha, rnum_spec hb, Option.bind_some, rUnknown_eq, rNumber_eq, rcompare_spec, rcompute_spec]
  cases cvS_cases (k := 2) (.inr (.inl rfl)) ha with
  | bad e1 e2 => rw [e2]; simp
  | unk e1 e2 =>
    rw [e2]
    cases cvS_cases (k := 2) (.inr (.inl rfl)) hb with
    | bad f1 f2 => rw [f2]; simp
    | unk f1 f2 => rw [f2]; simp [kind_mk]
    | @val y f1 f2 f3 f4 f5 f6 => rw [f6]; simp [kind_mk]
  | @val x e1 e2 e3 e4 e5 e6 =>
    rw [e6]
    cases cvS_cases (k := 2) (.inr (.inl rfl)) hb with
    | bad f1 f2 => rw [f2]; simp
    | unk f1 f2 => rw [f2]; simp [kind_mk, e4]
    | @val y f1 f2 f3 f4 f5 f6 =>
      rw [f6]
      by_cases g : op ≤ 10
      · simp [e4, f4, g]
      · by_cases g2 : (ariS op x.num y.num).2 = 0 <;> simp [e4, f4, g, g2]
noncomputable def binaryS (op : Int) (a b : Val) : Val × Int :=
  if op < 3 ∨ op > 15 then (vZ, 1) else if op = 3 then logicS a b 1 else if op = 4 then logicS a b 0 else if op > 6 then numericS op a b
  else match eqS a b with
    | none => (vU, 0)
    | some q => (bV (q == decide (op = 5)), 0)
theorem Binary_spec {a b : Val} (ha : Ck a) (hb : Ck b) (op : Int) : g_ops_Binary op a b = some (binaryS op a b) := by
  unfold g_ops_Binary binaryS
  simp only [logic_spec ha hb, numeric_spec ha hb, pequal_spec a b ha.ok.1, vBool_eq, vUnknown_eq, Option.bind_some]
  by_cases h1 : op < 3
  · simp [h1]
  by_cases h2 : op > 15
  · simp [h1, h2]
  by_cases h3 : op = 3
  · simp [h3]
  by_cases h4 : op = 4
  · simp [h4]
  by_cases h5 : op > 6
  · simp [h1, h2, h3, h4, h5]
  rw [if_neg (by omega), if_neg h3, if_neg h4, if_neg h5]
  simp only [decide_eq_false h1, decide_eq_false h2, decide_eq_false h3, decide_eq_false h4, decide_eq_false h5, cond_false]
  cases eqS a b with
  | none => rfl
  | some q => rfl
theorem rBinary_spec {a b : Val} (ha : Ck a) (hb : Ck b) (op : Int) : g_r19_Binary op a b = some (binaryS op a b) := by
  unfold g_r19_Binary binaryS
  simp only [rlogic_spec ha hb, rnumeric_spec ha hb, requal19_spec a b ha.ok.1, rBool_eq, rUnknown_eq, Option.bind_some]
  by_cases h1 : op < 3
  · simp [h1]
  by_cases h2 : op > 15
  · simp [h1, h2]
  by_cases h3 : op = 3
  · simp [h3]
  by_cases h4 : op = 4
  · simp [h4]
  by_cases h5 : op > 6
  · simp [h1, h2, h3, h4, h5]
  rw [if_neg (by omega), if_neg h3, if_neg h4, if_neg h5]
  simp only [decide_eq_false h1, decide_eq_false h2, decide_eq_false h3, decide_eq_false h4, decide_eq_false h5, cond_false]
  cases eqS a b with
  | none => rfl
  | some q => cases q <;> rfl
/-! ### Choices -/
open Classical in
noncomputable def chooseS (c a b : Val) : Val × Int :=
  let q := cvS 1 c
  if q.2 ≠ 0 then (vZ, q.2) else if q.1.kind = 6 then (if knownV a = true ∧ a = b then (a, 0) else (vU, 0)) else if q.1.num = 1 then (a, 0) else (b, 0)
theorem Choose_spec {c a b : Val} (hc : Ck c) (ha : Ck a) (hb : Ck b) : g_ops_Choose c a b = some (chooseS c a b) := by
  unfold g_ops_Choose chooseS
  obtain ⟨q, q1, q2⟩ := value_equal_spec a b ha.ok.1
  simp only [Truth_sc hc, Option.bind_some, open1, known_spec a ha.ok.1, q1, cpy_eq ha.ok.1, cpy_eq hb.ok.1, vUnknown_eq]
  cases cvS_cases (k := 1) (.inl rfl) hc with
  | bad e1 e2 => rw [e2]; simp
  | unk e1 e2 =>
    rw [e2]
    cases hk : knownV a with
    | false => simp [kind_mk]
    | true => cases q with
      | true => obtain rfl := q2.1 rfl; simp [kind_mk]
      | false =>
        have : ¬ a = b := fun e => by have := q2.2 e; cases this
        simp [kind_mk, this]
  | @val x e1 e2 e3 e4 e5 e6 =>
    rw [e6]
    by_cases g : x.num = 1 <;> simp [e4, g]
theorem rChoose_spec {c a b : Val} (hc : Ck c) (ha : Ck a) (hb : Ck b) : g_r19_Choose c a b = some (chooseS c a b) := by
  unfold g_r19_Choose chooseS
  obtain ⟨q, q1, q2⟩ := requal_spec a b ha.ok.1
  simp only [rTruth_sc hc, Option.bind_some, rknown_spec a ha.ok.1, q1, rUnknown_eq]
  cases cvS_cases (k := 1) (.inl rfl) hc with
  | bad e1 e2 => rw [e2]; simp
  | unk e1 e2 =>
    rw [e2]
    cases hk : knownV a with
    | false => simp [kind_mk]
    | true => cases q with
      | true => obtain rfl := q2.1 rfl; simp [kind_mk]
      | false =>
        have : ¬ a = b := fun e => by have := q2.2 e; cases this
        simp [kind_mk, this]
  | @val x e1 e2 e3 e4 e5 e6 =>
    rw [e6]
    by_cases g : x.num = 1 <;> simp [e4, g]
/-! ### A call -/
noncomputable def callS (c : CallG) : Val × Int :=
  if c.kind = 0 then attrS c.a c.name else if c.kind = 1 then indexS c.a c.b else if c.kind = 2 then unaryS c.op c.a else if c.kind = 3 then binaryS c.op c.a c.b else chooseS c.a c.b c.c
theorem do_spec {c : CallG} (ha : Ck c.a) (hb : Ck c.b) (hc : Ck c.c) : g_l19_do c = some (callS c) := by
  unfold g_l19_do callS
  simp only [Attr_spec ha, Index_spec ha hb, Unary_spec ha, Binary_spec ha hb, Choose_spec ha hb hc, Option.bind_some]
  by_cases h0 : c.kind = 0
  · simp [h0]
  by_cases h1 : c.kind = 1
  · simp [h1]
  by_cases h2 : c.kind = 2
  · simp [h2]
  by_cases h3 : c.kind = 3
  · simp [h3]
  · simp [h0, h1, h2, h3]
theorem said_spec {c : CallG} (ha : Ck c.a) (hb : Ck c.b) (hc : Ck c.c) : g_l19_said c = some (callS c) := by
  unfold g_l19_said callS
  simp only [rAttr_spec ha, rIndex_spec ha hb, rUnary_spec ha, rBinary_spec ha hb, rChoose_spec ha hb hc, Option.bind_some]
  by_cases h0 : c.kind = 0
  · simp [h0]
  by_cases h1 : c.kind = 1
  · simp [h1]
  by_cases h2 : c.kind = 2
  · simp [h2]
  by_cases h3 : c.kind = 3
  · simp [h3]
  · simp [h0, h1, h2, h3]
theorem valid_spec (l : List Val) (hl : l.length ≤ 9223372036854775807) (hf : ∀ x ∈ l, x.Fits) : ∃ q, g_l19_valid l = some q ∧ (q = true → ∀ x ∈ l, Ck x ∧ smallV x 300 = true) := by
  have := loop_ask (body := g_l19_valid_L1 l) l.length (fun i => ∀ x, l[i]? = some x → checkE x = 0 ∧ smallV x 300 = true) true false hl (fun i hi => by
    have hx := List.getElem?_eq_getElem hi
    have hfx := hf _ (List.getElem_mem hi)
    have e : g_l19_valid_L1 l (i : Int) = some (if checkE l[i] = 0 ∧ smallV l[i] 300 = true then .inl (IntKind.i64.wrap ((i : Int) + 1)) else .inr false) := by
      simp only [g_l19_valid_L1, decide_eq_true (show (i : Int) < l.length by omega), cond_true, idx_nat, hx, Option.bind_some, show m_small l[i] 300 = some (smallV l[i] 300) from gd_of ⟨hfx, by decide, by decide⟩, show m_checkE l[i] = some (checkE l[i]) from gd_of hfx]
      cases smallV l[i] 300 with
      | false => simp
      | true => by_cases h : checkE l[i] = 0 <;> simp [h]
    rw [e]
    by_cases h : checkE l[i] = 0 ∧ smallV l[i] 300 = true
    · rw [if_pos h]; exact .inl ⟨fun x k => (by rw [hx] at k; cases k; exact h), rfl⟩
    · rw [if_neg h]; exact .inr ⟨fun k => h (k _ hx), rfl⟩) (by simp [g_l19_valid_L1])
  unfold g_l19_valid
  rcases this with ⟨h, hall⟩ | ⟨h, _⟩
  · refine ⟨true, h, fun _ x hx => ?_⟩
    obtain ⟨i, hi⟩ := List.getElem?_of_mem hx
    have := hall i (List.getElem?_eq_some_iff.1 hi).1 x hi
    exact ⟨ck_of (hf x hx) this.1, this.2⟩
  · exact ⟨false, h, fun k => by cases k⟩
theorem cvS_U (k : Int) : cvS k vU = (vU, 0) := by unfold cvS; rw [if_neg (by decide), toS_eq, if_pos (.inr (.inr rfl))]
theorem cvS_B (b : Bool) : cvS 1 (bV b) = (bV b, 0) := by
  cases b
  all_goals
    unfold cvS
    rw [if_neg (by decide), toS_bool _ (by decide) (by decide)]; rfl
theorem awake19 : g_l19_awake = some true := by
  have k5 : Ck (vNum 5) := vNum_ck (by decide)
  have k6 : Ck (vNum 6) := vNum_ck (by decide)
  have k1 : Ck (vNum 1) := vNum_ck (by decide)
  have kt : Ck (vText ⟨#[49]⟩) := vText_ck text1 (by decide)
  have ky : Ck (vText ⟨#[116, 114, 117, 101]⟩) := vText_ck texttrue (by decide)
  have kl : Ck (Val.mk 4 0 eS [vNum 5, vNum 6] []) := by
    refine ck_of (fits_list (by decide) (by decide) fun x hx => ?_) (check_two rfl rfl (node_number (by decide)) (node_number (by decide)))
    simp at hx; rcases hx with rfl | rfl
    · exact k5.ok.1
    · exact k6.ok.1
  have c1 : cvS 2 (vText ⟨#[49]⟩) = (vNum 1, 0) := by
    unfold cvS
    rw [if_neg (by decide), toS_num _ (by decide) (by decide), num_text1]
  have c2 : cvS 1 (vText ⟨#[116, 114, 117, 101]⟩) = (bV true, 0) := by
    unfold cvS
    rw [if_neg (by decide), toS_bool _ (by decide) (by decide)]; rfl
  have i1 : indexS (Val.mk 4 0 eS [vNum 5, vNum 6] []) (vText ⟨#[49]⟩) = (vNum 6, 0) := by
    unfold indexS
    rw [c1, thenS_val (by decide)]; rfl
  have b1 : binaryS 4 vU (bV false) = (bV false, 0) := by
    unfold binaryS logicS
    rw [cvS_U, cvS_B]; rfl
  have a1 : attrS vZ ⟨#[97]⟩ = (vZ, 6) := rfl
  have h1 : chooseS vU (vNum 1) (vNum 1) = (vNum 1, 0) := by
    unfold chooseS
    rw [cvS_U]
    have : knownV (vNum 1) = true := by rw [knownV_eq]; rfl
    simp [this, kind_mk]
  have u1 : unaryS 1 (vText ⟨#[116, 114, 117, 101]⟩) = (bV false, 0) := by
    unfold unaryS
    rw [if_pos rfl, c2, thenS_val (by decide)]; rfl
  unfold g_l19_awake g_r07_List
  simp only [rNumber_eq, rString_eq, rUnknown_eq, rBool_eq, rNull_eq, Option.bind_some]
  rw [Index_spec kl kt, i1, Option.bind_some, Binary_spec vU_ck (bV_ck false), b1, Option.bind_some, Attr_spec vZ_ck, a1, Option.bind_some, Choose_spec vU_ck k1 k1, h1, Option.bind_some, Unary_spec ky, u1, Option.bind_some]
  simp only [req_refl k6.ok.1, req_refl (bV_ck false).ok.1, req_refl k1.ok.1, Option.bind_some, decide_true, cond_true]
/-! ### What results are -/
/-- A result: an error without a value, or a checked value. -/
structure Res (r : Val × Int) : Prop where
  bad : r.2 ≠ 0 → r.1 = vZ
  ok : r.2 = 0 → Ck r.1
theorem res_err {e : Int} (h : e ≠ 0) : Res (vZ, e) := ⟨fun _ => rfl, fun k => absurd k h⟩
theorem res_val {x : Val} (h : Ck x) : Res (x, 0) := ⟨fun k => absurd rfl k, fun _ => h⟩
theorem attr_res {v : Val} (h : Ck v) (n : ByteArray) : Res (attrS v n) := by
  unfold attrS
  split
  · exact res_val vU_ck
  · split
    · split
      · exact res_val (h.look n)
      · exact res_err (by decide)
    · exact res_err (by decide)
theorem then_res {k : Int} (hk : k = 1 ∨ k = 2 ∨ k = 3) {v : Val} (h : Ck v) {f : Val → Val × Int} (hf : ∀ x, Ck x → x.kind = k → Res (f x)) : Res (thenS (cvS k v) f) := by
  cases cvS_cases hk h with
  | bad e1 e2 => rw [e2, thenS_bad]; exact res_err (by decide)
  | unk e1 e2 => rw [e2, thenS_unk]; exact res_val vU_ck
  | @val x e1 e2 e3 e4 e5 e6 => rw [e6, thenS_val (by omega)]; exact hf x e5 e4
theorem num_bound {x : Val} (h : Ck x) (hk : x.kind = 2) : NumPlain.validB x.num = true := by
  obtain ⟨d, hd⟩ := h.ok.2
  exact (node_facts hd.node).2.1 hk
theorem ari_valid {op a b : Int} (h : (ariS op a b).2 = 0) : NumPlain.validB (ariS op a b).1 = true := by
  have add : ∀ {n : Int}, (NumPlain.right n).2 = 0 → NumPlain.validB (NumPlain.right n).1 = true := by
    intro n h
    rcases NumPlain.right_cases n with ⟨e, hv⟩ | e
    · rw [e]; exact hv
    · rw [e] at h; cases h
  have one : ∀ {f : Bool} {n : Int}, (if f = true then NumPlain.right n else (0, 1)).2 = 0 → NumPlain.validB (if f = true then NumPlain.right n else (0, 1)).1 = true := by
    intro f n h
    cases f with
    | true => exact add h
    | false => cases h
  unfold ariS at h ⊢
  by_cases h1 : op = 11
  · simp only [h1, if_true] at h ⊢; exact one h
  by_cases h2 : op = 12
  · simp only [h1, h2, if_true, if_false] at h ⊢; exact one h
  by_cases h3 : op = 13
  · simp only [h1, h2, h3, if_true, if_false] at h ⊢; exact one h
  have z : NumPlain.validB 0 = true := by decide
  by_cases h4 : op = 14
  · simp only [h1, h2, h3, h4, if_true, if_false] at h ⊢
    rcases NumPlain.div_cases a b with ⟨e, _⟩ | ⟨e, _⟩ | ⟨e, _, _, hv, _⟩
    · show NumPlain.validB (NumPlain.div a b).1 = true; rw [e]; exact z
    · show NumPlain.validB (NumPlain.div a b).1 = true; rw [e]; exact z
    · show NumPlain.validB (NumPlain.div a b).1 = true; rw [e]; exact hv
  · simp only [h1, h2, h3, h4, if_false] at h ⊢
    rcases NumPlain.div_cases a b with ⟨_, e, _⟩ | ⟨_, e, _⟩ | ⟨_, e, _, _, hv, _⟩
    · rw [e]; exact z
    · rw [e]; exact z
    · rw [e]; exact hv
theorem index_res {v k : Val} (hv : Ck v) (hk : Ck k) : Res (indexS v k) := by
  unfold indexS
  split
  · exact res_val vU_ck
  split
  · refine then_res (.inr (.inl rfl)) hk fun x _ _ => ?_
    split
    · exact res_err (by decide)
    · refine res_val ?_
      cases e : v.items[x.num.toNat]? with
      | none => exact vZ_ck
      | some y => exact hv.item y (List.mem_of_getElem? e)
  split
  · exact then_res (.inr (.inr rfl)) hk fun x _ _ => attr_res hv _
  · exact res_err (by decide)
theorem neg_valid {n : Int} (h : NumPlain.validB n = true) : NumPlain.validB (IntKind.i64.wrap (0 - n)) = true := by
  have := (NumPlain.validB_iff n).1 h
  rw [wrap_in (by omega) (by omega)]
  exact NumPlain.validB_mk (by omega) (by omega)
theorem unary_res {v : Val} (hv : Ck v) (op : Int) : Res (unaryS op v) := by
  unfold unaryS
  split
  · exact then_res (.inl rfl) hv fun x _ _ => res_val (bV_ck _)
  split
  · exact then_res (.inr (.inl rfl)) hv fun x hx hk => res_val (vNum_ck (neg_valid (num_bound hx hk)))
  · exact res_err (by decide)
theorem binary_res {a b : Val} (ha : Ck a) (hb : Ck b) (op : Int) : Res (binaryS op a b) := by
  have lg : ∀ stop, Res (logicS a b stop) := by
    intro stop
    unfold logicS
    simp only
    split
    · exact res_err (by assumption)
    split
    · exact res_err (by assumption)
    split
    · exact res_val (bV_ck _)
    split
    · exact res_val vU_ck
    · exact res_val (bV_ck _)
  unfold binaryS
  split
  · exact res_err (by decide)
  split
  · exact lg _
  split
  · exact lg _
  split
  · unfold numericS
    simp only
    split
    · exact res_err (by assumption)
    split
    · exact res_err (by assumption)
    split
    · exact res_val vU_ck
    split
    · exact res_val (bV_ck _)
    split
    · exact res_err (by assumption)
    · rename_i h; exact res_val (vNum_ck (ari_valid (Classical.not_not.1 h)))
  · split
    · exact res_val vU_ck
    · exact res_val (bV_ck _)
theorem choose_res {c a b : Val} (ha : Ck a) (hb : Ck b) : Res (chooseS c a b) := by
  unfold chooseS
  simp only
  split
  · exact res_err (by assumption)
  split
  · split
    · exact res_val ha
    · exact res_val vU_ck
  split
  · exact res_val ha
  · exact res_val hb
theorem call_res {c : CallG} (ha : Ck c.a) (hb : Ck c.b) (hc : Ck c.c) : Res (callS c) := by
  unfold callS
  split
  · exact attr_res ha _
  split
  · exact index_res ha hb
  split
  · exact unary_res ha _
  split
  · exact binary_res ha hb _
  · exact choose_res hb hc
theorem Res.fits {r : Val × Int} (h : Res r) : r.1.Fits := by
  by_cases e : r.2 = 0
  · exact (h.ok e).ok.1
  · rw [h.bad e]; exact vZ_fits
/-! ### The laws -/
theorem law_Calls (c : CallG) (fa : c.a.Fits) (fb : c.b.Fits) (fc : c.c.Fits) : g_l19_OpsCalls c = some true := by
  obtain ⟨q, h1, h2⟩ := valid_spec [c.a, c.b, c.c] (by simp) (by simp [fa, fb, fc])
  unfold g_l19_OpsCalls
  rw [h1, Option.bind_some]
  cases q with
  | false => rw [Bool.not_false, cond_true, awake19]; rfl
  | true =>
    have ka := (h2 rfl c.a (by simp)).1
    have kb := (h2 rfl c.b (by simp)).1
    have kc := (h2 rfl c.c (by simp)).1
    rw [Bool.not_true, cond_false, do_spec ka kb kc, said_spec ka kb kc, Option.bind_some, Option.bind_some, decide_eq_true rfl, cond_true, req_refl (call_res ka kb kc).fits, Option.bind_some, cond_true, awake19]; rfl
theorem known_bV (b : Bool) : knownV (bV b) = true := by rw [knownV_eq]; cases b <;> rfl
theorem known_num (n : Int) : knownV (vNum n) = true := by rw [knownV_eq]; rfl
theorem known_Z : knownV vZ = true := by rw [knownV_eq]; rfl
theorem known_look {v : Val} (h : knownV v = true) (n : ByteArray) : knownV (look v.keys v.items n) = true := by
  rcases look_mem v.keys v.items n with e | e
  · exact knownV_item h _ e
  · rw [e]; exact known_Z
theorem then_known {k : Int} (hk : k = 1 ∨ k = 2 ∨ k = 3) {v : Val} (h : Ck v) (hn : knownV v = true) {f : Val → Val × Int} (hf : ∀ x, (f x).2 = 0 → knownV (f x).1 = true) (h0 : (thenS (cvS k v) f).2 = 0) : knownV (thenS (cvS k v) f).1 = true := by
  cases cvS_cases hk h with
  | bad e1 e2 => rw [e2, thenS_bad] at h0; cases h0
  | unk e1 e2 => rw [e1] at hn; rw [knownV_eq] at hn; cases hn
  | @val x e1 e2 e3 e4 e5 e6 =>
    rw [e6, thenS_val (by omega)] at h0 ⊢
    exact hf x h0
theorem attr_known {v : Val} (hn : knownV v = true) (n : ByteArray) : knownV (attrS v n).1 = true := by
  unfold attrS
  rw [if_neg (knownV_kind hn)]
  split
  · split
    · exact known_look hn n
    · exact known_Z
  · exact known_Z
theorem call_known {c : CallG} (ha : Ck c.a) (hb : Ck c.b) (hc : Ck c.c) (na : knownV c.a = true) (nb : knownV c.b = true) (nc : knownV c.c = true) (h : (callS c).2 = 0) : knownV (callS c).1 = true := by
  unfold callS at h ⊢
  split at h
  · rename_i c0; rw [if_pos c0]; exact attr_known na _
  rename_i c0; rw [if_neg c0]
  split at h
  · rename_i c1
    rw [if_pos c1]
    unfold indexS at h ⊢
    rw [if_neg (knownV_kind na)] at h ⊢
    split at h
    · rename_i k4; rw [if_pos k4]
      refine then_known (.inr (.inl rfl)) hb nb (fun x hx => ?_) h
      split
      · exact known_Z
      · cases e : c.a.items[x.num.toNat]? with
        | none => exact known_Z
        | some y => exact knownV_item na y (List.mem_of_getElem? e)
    rename_i k4; rw [if_neg k4]
    split at h
    · rename_i k5; rw [if_pos k5]
      exact then_known (.inr (.inr rfl)) hb nb (fun x hx => attr_known na _) h
    · cases h
  rename_i c1; rw [if_neg c1]
  split at h
  · rename_i c2
    rw [if_pos c2]
    unfold unaryS at h ⊢
    split at h
    · rename_i k1; rw [if_pos k1]; exact then_known (.inl rfl) ha na (fun x _ => known_bV _) h
    rename_i k1; rw [if_neg k1]
    split at h
    · rename_i k2; rw [if_pos k2]; exact then_known (.inr (.inl rfl)) ha na (fun x _ => known_num _) h
    · cases h
  rename_i c2; rw [if_neg c2]
  have nu : ∀ {k : Int} {v : Val}, k = 1 ∨ k = 2 ∨ k = 3 → Ck v → knownV v = true → (cvS k v).2 = 0 → (cvS k v).1.kind ≠ 6 := by
    intro k v hk hv hn h0
    cases cvS_cases hk hv with
    | bad e1 e2 => rw [e2] at h0; cases h0
    | unk e1 e2 => rw [e1, knownV_eq] at hn; cases hn
    | @val x e1 e2 e3 e4 e5 e6 => rw [e6]; simp only; omega
  split at h
  · rename_i c3
    rw [if_pos c3]
    have lg : ∀ stop, (logicS c.a c.b stop).2 = 0 → knownV (logicS c.a c.b stop).1 = true := by
      intro stop h
      unfold logicS at h ⊢
      simp only at h ⊢
      split at h
      · rename_i q; exact absurd h q
      rename_i q1; rw [if_neg q1]
      split at h
      · rename_i q; exact absurd h q
      rename_i q2; rw [if_neg q2]
      split
      · exact known_bV _
      rw [if_neg (by
        have h1 := nu (.inl rfl) ha na (Classical.not_not.1 q1)
        have h2 := nu (.inl rfl) hb nb (Classical.not_not.1 q2)
        rintro (q | q)
        · exact h1 q
        · exact h2 q)]
      exact known_bV _
    unfold binaryS at h ⊢
    split at h
    · cases h
    rename_i k1; rw [if_neg k1]
    split at h
    · rename_i k2; rw [if_pos k2]; exact lg _ h
    rename_i k2; rw [if_neg k2]
    split at h
    · rename_i k3; rw [if_pos k3]; exact lg _ h
    rename_i k3; rw [if_neg k3]
    split at h
    · rename_i k4; rw [if_pos k4]
      unfold numericS at h ⊢
      simp only at h ⊢
      split at h
      · rename_i q; exact absurd h q
      rename_i q1; rw [if_neg q1]
      split at h
      · rename_i q; exact absurd h q
      rename_i q2; rw [if_neg q2]
      have h1 := nu (.inr (.inl rfl)) ha na (Classical.not_not.1 q1)
      have h2 := nu (.inr (.inl rfl)) hb nb (Classical.not_not.1 q2)
      have h12 : ¬ ((cvS 2 c.a).1.kind = 6 ∨ (cvS 2 c.b).1.kind = 6) := by
        rintro (q | q)
        · exact h1 q
        · exact h2 q
      rw [if_neg h12] at h ⊢
      split
      · exact known_bV _
      · rename_i k5
        rw [if_neg k5] at h
        split
        · exact known_Z
        · exact known_num _
    · rename_i k4; rw [if_neg k4]
      obtain ⟨q, e, _⟩ := eqS_known c.a c.b na nb
      rw [e]; exact known_bV _
  · rename_i c3
    rw [if_neg c3]
    unfold chooseS at h ⊢
    simp only at h ⊢
    split at h
    · rename_i q; exact absurd h q
    rename_i q1; rw [if_neg q1]
    rw [if_neg (nu (.inl rfl) ha na (Classical.not_not.1 q1))]
    split
    · exact nb
    · exact nc
theorem law_Known (c : CallG) (fa : c.a.Fits) (fb : c.b.Fits) (fc : c.c.Fits) : g_l19_OpsKnown c = some true := by
  obtain ⟨q, h1, h2⟩ := valid_spec [c.a, c.b, c.c] (by simp) (by simp [fa, fb, fc])
  unfold g_l19_OpsKnown
  rw [h1, Option.bind_some]
  cases q with
  | false => rw [Bool.not_false, cond_true, awake19]; rfl
  | true =>
    have ka := (h2 rfl c.a (by simp)).1
    have kb := (h2 rfl c.b (by simp)).1
    have kc := (h2 rfl c.c (by simp)).1
    have hr := call_res ka kb kc
    rw [Bool.not_true, cond_false, do_spec ka kb kc, Option.bind_some]
    by_cases h0 : (callS c).2 = 0
    · rw [decide_eq_true h0, Bool.not_true, cond_false, show m_checkE (callS c).1 = some (checkE (callS c).1) from gd_of hr.fits, (hr.ok h0).ck, Option.bind_some, decide_eq_true rfl, Bool.not_true, cond_false, rknown_spec _ fa, Option.bind_some]
      cases na : knownV c.a with
      | false => rw [Bool.not_false, cond_true, awake19]; rfl
      | true =>
        rw [Bool.not_true, cond_false, rknown_spec _ fb, Option.bind_some]
        cases nb : knownV c.b with
        | false => rw [Bool.not_false, cond_true, awake19]; rfl
        | true =>
          rw [Bool.not_true, cond_false, rknown_spec _ fc, Option.bind_some]
          cases nc : knownV c.c with
          | false => rw [Bool.not_false, cond_true, awake19]; rfl
          | true =>
            rw [Bool.not_true, cond_false, rknown_spec _ hr.fits, Option.bind_some, call_known ka kb kc na nb nc h0, cond_true, awake19]; rfl
    · rw [decide_eq_false h0, Bool.not_false, cond_true, rNull_eq, Option.bind_some, hr.bad h0, req_refl vZ_fits, Option.bind_some, cond_true, awake19]; rfl
/-! ### Entries -/
def entriesS (v : Val) : List Val × List Val × Bool × Int :=
  if v.kind = 6 then ([], [], false, 0)
  else if v.kind = 4 then ((List.range v.items.length).map (fun (i : Nat) => vNum (i : Int)), v.items, true, 0)
  else if v.kind = 5 then (v.keys.map vText, v.items, true, 0)
  else ([], [], false, 6)
theorem range_at {n i x : Nat} (h : (List.range n)[i]? = some x) : x = i ∧ i < n := by
  obtain ⟨h1, h2⟩ := List.getElem?_eq_some_iff.1 h
  simp at h1 h2; omega
theorem Entries_spec {v : Val} (h : Ck v) : g_ops_Entries v = some (entriesS v) := by
  obtain ⟨f1, f2, f3, f4, f5, f6, f7⟩ := h.ok.1.parts
  have hn := len_i64 f4 (by decide)
  unfold g_ops_Entries entriesS
  by_cases h6 : v.kind = 6
  · rw [decide_eq_true h6, if_pos h6]; rfl
  rw [decide_eq_false h6, if_neg h6, cond_false]
  by_cases h4 : v.kind = 4
  · rw [decide_eq_true h4, if_pos h4, cond_true]
    refine loop_map (List.range v.items.length) (fun (i : Nat) => vNum (i : Int)) (body := g_ops_Entries_L1 v) (fun acc => (acc, v.items, true, 0)) (fun i acc x hi hx ha => ?_) (fun acc ha => ?_)
    · obtain ⟨rfl, hi'⟩ := range_at hx
      simp only [g_ops_Entries_L1, decide_eq_true (show (x : Int) < v.items.length by omega), cond_true, vNumber_eq, Option.bind_some, app_one acc _ (m := 80) (n := v.items.length) (by decide) (by omega) f4, wrap_nat hi' (show v.items.length ≤ 9223372036854775807 by omega)]
    · rw [List.length_range]
      simp only [g_ops_Entries_L1, decide_eq_false (show ¬ (v.items.length : Int) < v.items.length by omega), cond_false, cpy_eq h.ok.1, Option.bind_some]
  rw [decide_eq_false h4, if_neg h4, cond_false]
  by_cases h5 : v.kind = 5
  · have hl := h.ok.shape.2.2.2.2.2.2.1 h5
    rw [decide_eq_true h5, if_pos h5, cond_true]
    refine loop_map v.keys vText (body := g_ops_Entries_L2 v) (fun acc => (acc, v.items, true, 0)) (fun i acc x hi hx ha => ?_) (fun acc ha => ?_)
    · simp only [g_ops_Entries_L2, decide_eq_true (show (i : Int) < v.keys.length by omega), cond_true, idx_nat, hx, vString_eq, Option.bind_some, app_one acc _ (m := 80) (n := v.items.length) (by decide) (by omega) f4, wrap_nat hi (show v.keys.length ≤ 9223372036854775807 by omega)]
    · simp only [g_ops_Entries_L2, decide_eq_false (show ¬ (v.keys.length : Int) < v.keys.length by omega), cond_false, cpy_eq h.ok.1, Option.bind_some]
  · rw [decide_eq_false h5, if_neg h5]; rfl
theorem rEntries_spec {v : Val} (h : Ck v) : g_r19_Entries v = some (entriesS v) := by
  obtain ⟨f1, f2, f3, f4, f5, f6, f7⟩ := h.ok.1.parts
  have hn := len_i64 f4 (by decide)
  unfold g_r19_Entries entriesS
  by_cases h6 : v.kind = 6
  · rw [decide_eq_true h6, if_pos h6]; rfl
  rw [decide_eq_false h6, if_neg h6, cond_false]
  by_cases h4 : v.kind = 4
  · rw [decide_eq_true h4, if_pos h4, Bool.not_true, cond_false]
    refine loop_map (List.range v.items.length) (fun (i : Nat) => vNum (i : Int)) (body := g_r19_Entries_L2 v) (fun acc => (acc, v.items, true, 0)) (fun i acc x hi hx ha => ?_) (fun acc ha => ?_)
    · obtain ⟨rfl, hi'⟩ := range_at hx
      simp only [g_r19_Entries_L2, decide_eq_true (show (x : Int) < v.items.length by omega), cond_true, rNumber_eq, Option.bind_some, app_one acc _ (m := 80) (n := v.items.length) (by decide) (by omega) f4, wrap_nat hi' (show v.items.length ≤ 9223372036854775807 by omega)]
    · rw [List.length_range]
      simp only [g_r19_Entries_L2, decide_eq_false (show ¬ (v.items.length : Int) < v.items.length by omega), cond_false]
  rw [decide_eq_false h4, if_neg h4, Bool.not_false, cond_true]
  by_cases h5 : v.kind = 5
  · have hl := h.ok.shape.2.2.2.2.2.2.1 h5
    rw [decide_eq_true h5, if_pos h5, Bool.not_true, cond_false]
    refine loop_map v.keys vText (body := g_r19_Entries_L1 v) (fun acc => (acc, v.items, true, 0)) (fun i acc x hi hx ha => ?_) (fun acc ha => ?_)
    · simp only [g_r19_Entries_L1, decide_eq_true (show (i : Int) < v.items.length by omega), cond_true, idx_nat, hx, rString_eq, Option.bind_some, app_one acc _ (m := 80) (n := v.items.length) (by decide) (by omega) f4, wrap_nat (show i < v.items.length by omega) (show v.items.length ≤ 9223372036854775807 by omega)]
    · simp only [g_r19_Entries_L1, hl, decide_eq_false (show ¬ (v.items.length : Int) < v.items.length by omega), cond_false]
  · rw [decide_eq_false h5, if_neg h5]; rfl
theorem fits_items {l : List Val} (hl : l.length * 80 ≤ 140737488351232) (h : ∀ x ∈ l, x.Fits) : (Val.mk 4 0 eS l []).Fits :=
  .mk (by decide) (by decide) (by decide) hl (by simp) (fun _ h => absurd h List.not_mem_nil) h
theorem same_refl {l : List Val} (hl : l.length * 80 ≤ 140737488351232) (h : ∀ x ∈ l, x.Fits) : g_l19_same l l = some true := by
  unfold g_l19_same g_r07_List
  rw [Option.bind_some, Option.bind_some, req_refl (fits_items hl h)]; rfl
theorem law_Entries (v : Val) (hf : v.Fits) : g_l19_OpsEntries v = some true := by
  obtain ⟨q, h1, h2⟩ := valid_spec [v] (by simp) (by simp [hf])
  unfold g_l19_OpsEntries
  rw [h1, Option.bind_some]
  cases q with
  | false => rw [Bool.not_false, cond_true, awake19]; rfl
  | true =>
    have k := (h2 rfl v (by simp)).1
    obtain ⟨f1, f2, f3, f4, f5, f6, f7⟩ := hf.parts
    have hn := len_i64 f4 (by decide)
    rw [Bool.not_true, cond_false, Entries_spec k, rEntries_spec k, Option.bind_some, Option.bind_some, decide_eq_true rfl, cond_true]
    have hb : ((entriesS v).2.2.1 == (entriesS v).2.2.1) = true := by simp
    have e1 : g_l19_same (entriesS v).1 (entriesS v).1 = some true := by
      unfold entriesS
      split
      · exact same_refl (by simp) (by simp)
      split
      · refine same_refl (by simpa using f4) fun x hx => ?_
        simp only [List.mem_map, List.mem_range] at hx
        obtain ⟨i, hi, rfl⟩ := hx
        exact fits_simple (by decide) (by omega) eS_size
      split
      · rename_i h5
        have hl := k.ok.shape.2.2.2.2.2.2.1 h5
        refine same_refl (by rw [List.length_map, hl]; exact f4) fun x hx => ?_
        simp only [List.mem_map] at hx
        obtain ⟨s, hs, rfl⟩ := hx
        exact fits_simple (by decide) (by decide) (f6 s hs)
      · exact same_refl (by simp) (by simp)
    have e2 : g_l19_same (entriesS v).2.1 (entriesS v).2.1 = some true := by
      unfold entriesS
      split
      · exact same_refl (by simp) (by simp)
      split
      · exact same_refl f4 f7
      split
      · exact same_refl f4 f7
      · exact same_refl (by simp) (by simp)
    rw [hb, cond_true, e1, Option.bind_some, cond_true, e2, Option.bind_some, cond_true, awake19]; rfl
/-! ### Logic -/
/-- A bool, or unknown. -/
def tri : Option Bool → Val
  | none => vU
  | some b => bV b
theorem tri_ck (x : Option Bool) : Ck (tri x) := by cases x with | none => exact vU_ck | some b => exact bV_ck b
theorem cvS_tri (x : Option Bool) : cvS 1 (tri x) = (tri x, 0) := by cases x with | none => exact cvS_U 1 | some b => exact cvS_B b
def and3 : Option Bool → Option Bool → Option Bool
  | some false, _ => some false
  | _, some false => some false
  | none, _ => none
  | _, none => none
  | some true, some true => some true
def or3 : Option Bool → Option Bool → Option Bool
  | some true, _ => some true
  | _, some true => some true
  | none, _ => none
  | _, none => none
  | some false, some false => some false
theorem and_tri (x y : Option Bool) : binaryS 4 (tri x) (tri y) = (tri (and3 x y), 0) := by
  unfold binaryS logicS
  rw [cvS_tri, cvS_tri]
  rcases x with _ | (_ | _) <;> rcases y with _ | (_ | _) <;> simp [tri, bV, and3, kind_mk, num_mk]
theorem or_tri (x y : Option Bool) : binaryS 3 (tri x) (tri y) = (tri (or3 x y), 0) := by
  unfold binaryS logicS
  rw [cvS_tri, cvS_tri]
  rcases x with _ | (_ | _) <;> rcases y with _ | (_ | _) <;> simp [tri, bV, or3, kind_mk, num_mk]
theorem not_tri (x : Option Bool) : unaryS 1 (tri x) = (tri (x.map fun b => !b), 0) := by
  unfold unaryS
  rw [cvS_tri]
  rcases x with _ | (_ | _) <;> simp [tri, bV, thenS, kind_mk, num_mk]
theorem tri_of {v : Val} (h : Ck v) (hk : v.kind = 1 ∨ v.kind = 6) : ∃ x, v = tri x := by
  rcases hk with hk | hk
  · obtain ⟨s0, s1, s2, s3, s4, s5, s6, s7⟩ := h.ok.shape
    rcases s3 hk with e | e
    · exact ⟨some false, val_ext hk e (s4 (by omega)) (s5 (by omega) (by omega)) (s7 (by omega))⟩
    · exact ⟨some true, val_ext hk e (s4 (by omega)) (s5 (by omega) (by omega)) (s7 (by omega))⟩
  · exact ⟨none, vU_of h.ok hk⟩
theorem logical_spec (l : List Val) (hl : l.length ≤ 9223372036854775807) (hf : ∀ x ∈ l, x.Fits) : ∃ q, g_l19_logical l = some q ∧ (q = true → ∀ x ∈ l, Ck x ∧ (x.kind = 1 ∨ x.kind = 6)) := by
  obtain ⟨q, h1, h2⟩ := valid_spec l hl hf
  have := loop_ask (body := g_l19_logical_L1 l) l.length (fun i => ∀ x, l[i]? = some x → (x.kind = 1 ∨ x.kind = 6)) q false hl (fun i hi => by
    have hx := List.getElem?_eq_getElem hi
    by_cases k1 : l[i].kind = 1
    · exact .inl ⟨fun x k => (by rw [hx] at k; cases k; exact .inl k1), by simp only [g_l19_logical_L1, decide_eq_true (show (i : Int) < l.length by omega), cond_true, idx_nat, hx, Option.bind_some, decide_eq_true k1, Bool.not_true, cond_false]⟩
    by_cases k6 : l[i].kind = 6
    · exact .inl ⟨fun x k => (by rw [hx] at k; cases k; exact .inr k6), by simp only [g_l19_logical_L1, decide_eq_true (show (i : Int) < l.length by omega), cond_true, idx_nat, hx, Option.bind_some, decide_eq_false k1, decide_eq_true k6, Bool.not_true, Bool.not_false, cond_true, cond_false]⟩
    · exact .inr ⟨fun h => (by rcases h _ hx with e | e; exact k1 e; exact k6 e), by simp only [g_l19_logical_L1, decide_eq_true (show (i : Int) < l.length by omega), cond_true, idx_nat, hx, Option.bind_some, decide_eq_false k1, decide_eq_false k6, Bool.not_false, cond_true]⟩) (by simp [g_l19_logical_L1, h1])
  unfold g_l19_logical
  rcases this with ⟨h, hall⟩ | ⟨h, _⟩
  · refine ⟨q, h, fun hq x hx => ?_⟩
    obtain ⟨i, hi⟩ := List.getElem?_of_mem hx
    exact ⟨(h2 hq x hx).1, hall i (List.getElem?_eq_some_iff.1 hi).1 x hi⟩
  · exact ⟨false, h, fun k => by cases k⟩
theorem bin4 (x y : Option Bool) : g_l19_OpsLogic_1 4 (tri x) (tri y) = some (tri (and3 x y)) := by
  unfold g_l19_OpsLogic_1; rw [Binary_spec (tri_ck x) (tri_ck y), and_tri]; rfl
theorem bin3 (x y : Option Bool) : g_l19_OpsLogic_1 3 (tri x) (tri y) = some (tri (or3 x y)) := by
  unfold g_l19_OpsLogic_1; rw [Binary_spec (tri_ck x) (tri_ck y), or_tri]; rfl
theorem not2 (x : Option Bool) : g_l19_OpsLogic_2 (tri x) = some (tri (x.map fun b => !b)) := by
  unfold g_l19_OpsLogic_2; rw [Unary_spec (tri_ck x), not_tri]; rfl
theorem eq_tri {x y : Option Bool} (h : x = y) : t_r07_Equal (tri x) (tri y) = some true := by subst h; exact req_refl (tri_ck x).ok.1
theorem law_Logic (a b c : Val) (fa : a.Fits) (fb : b.Fits) (fc : c.Fits) : g_l19_OpsLogic a b c = some true := by
  obtain ⟨q, h1, h2⟩ := logical_spec [a, b, c] (by simp) (by simp [fa, fb, fc])
  unfold g_l19_OpsLogic
  rw [h1, Option.bind_some]
  cases q with
  | false => rw [Bool.not_false, cond_true, awake19]; rfl
  | true =>
    have ka := h2 rfl a (by simp)
    have kb := h2 rfl b (by simp)
    have kc := h2 rfl c (by simp)
    obtain ⟨x, rfl⟩ := tri_of ka.1 ka.2
    obtain ⟨y, rfl⟩ := tri_of kb.1 kb.2
    obtain ⟨z, rfl⟩ := tri_of kc.1 kc.2
    rw [Bool.not_true, cond_false]
    have s0 : g_l19_OpsLogic_L1 (tri x) (tri y) (tri z) 0 = some (.inl 1) := by
      unfold g_l19_OpsLogic_L1
      rw [decide_eq_true (by decide), cond_true, show idx [(4 : Int), 3] 0 = some 4 from rfl]
      simp only [Option.bind_some, bin4]
      rw [eq_tri (by rcases x with _ | (_ | _) <;> rcases y with _ | (_ | _) <;> rfl), Option.bind_some, Bool.not_true, cond_false]
      rw [eq_tri (by rcases x with _ | (_ | _) <;> rcases y with _ | (_ | _) <;> rcases z with _ | (_ | _) <;> rfl), Option.bind_some, Bool.not_true, cond_false]
      rw [eq_tri (by rcases x with _ | (_ | _) <;> rfl), Option.bind_some, Bool.not_true, cond_false]
      rfl
    have s1 : g_l19_OpsLogic_L1 (tri x) (tri y) (tri z) 1 = some (.inl 2) := by
      unfold g_l19_OpsLogic_L1
      rw [decide_eq_true (by decide), cond_true, show idx [(4 : Int), 3] 1 = some 3 from rfl]
      simp only [Option.bind_some, bin3]
      rw [eq_tri (by rcases x with _ | (_ | _) <;> rcases y with _ | (_ | _) <;> rfl), Option.bind_some, Bool.not_true, cond_false]
      rw [eq_tri (by rcases x with _ | (_ | _) <;> rcases y with _ | (_ | _) <;> rcases z with _ | (_ | _) <;> rfl), Option.bind_some, Bool.not_true, cond_false]
      rw [eq_tri (by rcases x with _ | (_ | _) <;> rfl), Option.bind_some, Bool.not_true, cond_false]
      rfl
    have s2 : g_l19_OpsLogic_L1 (tri x) (tri y) (tri z) 2 = some (.inr true) := by
      unfold g_l19_OpsLogic_L1
      rw [decide_eq_false (by decide), cond_false]
      simp only [Option.bind_some, bin4, not2, bin3]
      rw [eq_tri (by rcases x with _ | (_ | _) <;> rcases y with _ | (_ | _) <;> rfl), Option.bind_some, cond_true]
      rw [eq_tri (by rcases x with _ | (_ | _) <;> rfl), Option.bind_some, cond_true, awake19]; rfl
    rw [loop_next s0, loop_next s1, loop_done s2]
/-! ### Comparisons -/
theorem eq_bV (p q : Bool) : t_r07_Equal (bV p) (bV q) = some (p == q) := by
  obtain ⟨r, h1, h2⟩ := requal_spec (bV p) (bV q) (bV_ck p).ok.1
  rw [h1]; congr 1
  cases p <;> cases q <;> simp [bV] at h2 ⊢ <;> simpa using h2
theorem bin5 {a b : Val} (ha : Ck a) (hb : Ck b) : g_ops_Binary 5 a b = some (match eqS a b with | none => (vU, 0) | some q => (bV q, 0)) := by
  rw [Binary_spec ha hb]
  unfold binaryS
  rw [if_neg (by decide), if_neg (by decide), if_neg (by decide), if_neg (by decide)]
  cases eqS a b with
  | none => rfl
  | some q => cases q <;> rfl
theorem bin6 {a b : Val} (ha : Ck a) (hb : Ck b) : g_ops_Binary 6 a b = some (match eqS a b with | none => (vU, 0) | some q => (bV (!q), 0)) := by
  rw [Binary_spec ha hb]
  unfold binaryS
  rw [if_neg (by decide), if_neg (by decide), if_neg (by decide), if_neg (by decide)]
  cases eqS a b with
  | none => rfl
  | some q => cases q <;> rfl
theorem num_of {v : Val} (h : Ck v) (hk : v.kind = 2) : v = vNum v.num := by
  obtain ⟨s0, s1, s2, s3, s4, s5, s6, s7⟩ := h.ok.shape
  exact val_ext hk rfl (s4 (by omega)) (s5 (by omega) (by omega)) (s7 (by omega))
theorem cvS_num {v : Val} (hk : v.kind = 2) : cvS 2 v = (v, 0) := by
  unfold cvS
  rw [if_neg (by omega), toS_num v (by omega) (by omega)]
  unfold primS g_convert_toNumber
  rw [decide_eq_true hk]; rfl
theorem bin_cmp {a b : Val} (ha : Ck a) (hb : Ck b) (k1 : a.kind = 2) (k2 : b.kind = 2) {op : Int} (h1 : 7 ≤ op) (h2 : op ≤ 10) : g_ops_Binary op a b = some (bV (cmpS op a.num b.num), 0) := by
  rw [Binary_spec ha hb]
  unfold binaryS numericS
  rw [if_neg (by omega), if_neg (by omega), if_neg (by omega), if_pos (by omega), cvS_num k1, cvS_num k2]
  simp only [ne_eq, not_true_eq_false, if_false]
  rw [if_neg (by omega), if_pos h2]
open Classical in
theorem compare_eq (a b : Val) : t_r07_Compare a b = g_r07_Compare (fun a0 a1 => if relV a0 a then t_r07_Compare a0 a1 else none) a b := tieF_eq a b
theorem compare_num {m n : Int} : t_r07_Compare (vNum m) (vNum n) = some (if m < n then -1 else if m > n then 1 else 0) := by
  rw [compare_eq]
  unfold g_r07_Compare
  rw [decide_eq_true (show (vNum m).kind = (vNum n).kind from rfl), Bool.not_true, cond_false]
  by_cases h : m = n
  · subst h
    rw [decide_eq_true (show (vNum m).num = (vNum m).num from rfl), decide_eq_true (show (vNum m).str = (vNum m).str from rfl), Bool.not_true, cond_false, cond_false]
    have : ∀ r, g_r07_Compare_L1 r (vNum m) (vNum m) 0 = some (.inr 0) := by
      intro r
      unfold g_r07_Compare_L1 g_r07_number
      simp [items_mk]
    rw [loop_done (this _)]
    simp
  · rw [decide_eq_false (show ¬ (vNum m).num = (vNum n).num from h), Bool.not_false, cond_true]
    show (g_r07_number m n).bind (fun y => some y) = _
    unfold g_r07_number
    by_cases h1 : m < n
    · simp [h1]
    · have : m > n := by omega
      simp [h1, this]
theorem law_Compares (a b : Val) (fa : a.Fits) (fb : b.Fits) : g_l19_OpsCompares a b = some true := by
  obtain ⟨q, h1, h2⟩ := valid_spec [a, b] (by simp) (by simp [fa, fb])
  unfold g_l19_OpsCompares
  rw [h1, Option.bind_some]
  cases q with
  | false => rw [Bool.not_false, cond_true, awake19]; rfl
  | true =>
    have ka := (h2 rfl a (by simp)).1
    have kb := (h2 rfl b (by simp)).1
    rw [Bool.not_true, cond_false, bin5 ka kb, bin6 ka kb, Option.bind_some, Option.bind_some]
    -- the last part
    have j2 : g_l19_OpsCompares_J2 a b false = some true := by
      unfold g_l19_OpsCompares_J2
      rw [cond_false]
      by_cases k1 : a.kind = 2
      case neg => rw [decide_eq_false k1, Bool.not_false, cond_true, awake19]; rfl
      by_cases k2 : b.kind = 2
      case neg => rw [decide_eq_true k1, decide_eq_false k2, Bool.not_true, Bool.not_false, cond_false, cond_true, awake19]; rfl
      have hc : t_r07_Compare a b = some (if a.num < b.num then -1 else if a.num > b.num then 1 else 0) := by
        rw [num_of ka k1, num_of kb k2]; exact compare_num
      rw [decide_eq_true k1, decide_eq_true k2, Bool.not_true, cond_false, cond_false, bin_cmp ka kb k1 k2 (by decide) (by decide), bin_cmp ka kb k1 k2 (by decide) (by decide), bin_cmp ka kb k1 k2 (by decide) (by decide), bin_cmp ka kb k1 k2 (by decide) (by decide), hc]
      simp only [Option.bind_some, decide_true, cond_true, rBool_eq, eq_bV, cmpS]
      rcases Int.lt_trichotomy a.num b.num with h | h | h
      · have e1 : ¬ a.num > b.num := by omega
        have e2 : a.num ≤ b.num := by omega
        have e3 : ¬ a.num ≥ b.num := by omega
        simp [h, e1, e2, e3, g_l19_OpsCompares_J3, awake19]
      · simp [h, g_l19_OpsCompares_J3, awake19]
      · have e1 : ¬ a.num < b.num := by omega
        have e2 : ¬ a.num ≤ b.num := by omega
        have e3 : a.num ≥ b.num := by omega
        simp [h, e1, e2, e3, g_l19_OpsCompares_J3, awake19]
    obtain ⟨r, r1, r2⟩ := rrefines_spec a b fa
    obtain ⟨e, e1, e2⟩ := requal_spec a b fa
    have uf : t_r07_Equal vU (bV false) = some false := by
      obtain ⟨q, q1, q2⟩ := requal_spec vU (bV false) vU_fits
      rw [q1]
      cases q with
      | false => rfl
      | true => have := q2.1 rfl; simp [bV] at this
    cases he : eqS a b with
    | none =>
      have nk : ¬ (knownV a = true ∧ knownV b = true) := fun k => by
        obtain ⟨q, q1, _⟩ := eqS_known a b k.1 k.2
        rw [he] at q1; cases q1
      have j1 : g_l19_OpsCompares_J1 a b (vU, 0) false = some true := by
        unfold g_l19_OpsCompares_J1
        rw [cond_false, r1, Option.bind_some]
        simp only [rBool_eq, Option.bind_some, uf, cond_false, rknown_spec a fa, rknown_spec b fb]
        cases na : knownV a with
        | false => cases r <;> simp [j2, kind_mk]
        | true => cases nb : knownV b with
          | false => cases r <;> simp [j2, kind_mk]
          | true => exact absurd ⟨na, nb⟩ nk
      simp only [decide_true, Bool.not_true, cond_false, rknown_spec a fa, rknown_spec b fb, Option.bind_some]
      cases na : knownV a with
      | false => exact j1
      | true => cases nb : knownV b with
        | false => exact j1
        | true => exact absurd ⟨na, nb⟩ nk
    | some p =>
      have j1 : g_l19_OpsCompares_J1 a b (bV p, 0) false = some true := by
        unfold g_l19_OpsCompares_J1
        rw [cond_false, r1, Option.bind_some]
        have hk : decide ((bV p).kind = 6) = false := by cases p <;> rfl
        simp only [rBool_eq, Option.bind_some, eq_bV, hk, cond_false]
        cases r with
        | false => exact j2
        | true =>
          have hp : p = true := by
            have := eqS_refs a b (r2.1 rfl)
            rw [he] at this
            cases p with
            | true => rfl
            | false => exact absurd rfl this
          rw [hp]; exact j2
      simp only [decide_true, Bool.not_true, cond_false, rknown_spec a fa, rknown_spec b fb, Option.bind_some, e1, rBool_eq, eq_bV]
      cases na : knownV a with
      | false => exact j1
      | true => cases nb : knownV b with
        | false => exact j1
        | true =>
          obtain ⟨q, q1, q2⟩ := eqS_known a b na nb
          rw [he] at q1
          obtain rfl : p = q := Option.some.inj q1
          have : p = e := by
            cases p <;> cases e <;> simp_all
          subst this
          simp only [cond_true, beq_self_eq_true, Bool.not_true, cond_false]
          exact j1
end Abs
end Go.Proofs.YtjfcgdablmjmnaaGreatDoor
