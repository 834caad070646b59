/-
  What a checked type is.
  What a conversion comes to.
  The laws of conversions: results fit in memory, conform, are kept, and are refined with their values.
  The three laws of conversions as the program says them.
  The three laws of conversions as the program says them.
-/
import Derived.Test.YtodgepbihbcdbaaGreatDoorPlE
namespace Go.Proofs.YtodgepbihbcdbaaGreatDoor
set_option linter.unusedSimpArgs false
set_option linter.unusedVariables false
namespace Abs
open Go.RowKit
theorem tyWf_ind {p : Ty → Prop} (h : ∀ t, (∀ e ∈ t.elems, p e) → p t) (t : Ty) : p t := wfT.induction (C := p) t h
/-- No type in it has many elements. -/
inductive Few : Ty → Prop
  | mk {t : Ty} : t.elems.length ≤ 1000 → (∀ e ∈ t.elems, Few e) → Few t
/-- A checked type. -/
inductive Okt : Ty → Prop
  | mk {t : Ty} : 0 ≤ t.kind → t.kind ≤ 6 → (t.kind = 6 → t.elems.length = t.names.length) → (t.kind = 4 ∨ t.kind = 5 → t.elems.length = 1) → Rising t.names → (∀ e ∈ t.elems, Okt e) → Okt t
theorem tlen {n : Nat} (h : n * 56 ≤ 140737488351232) : n ≤ 140737488351232 := len_i64 h (by decide)
theorem wrap_small {x : Int} (h1 : -1000000 ≤ x) (h2 : x ≤ 1000000) : IntKind.i64.wrap x = x := wrap_in (by omega) (by omega)
theorem sidx_nat {s : ByteArray} {i : Nat} (h : i < s.size) : sidx s (i : Int) = some ((s[i].toNat : Nat) : Int) := by
  unfold sidx
  rw [dif_pos ⟨by omega, by omega⟩]
  simp
theorem rising_adj {l : List ByteArray} (h : ∀ (i : Nat) a b, l[i]? = some a → l[i + 1]? = some b → Op.bytesLess a.toList b.toList = true) : Rising l := by
  intro i j hij a b ha hb
  obtain ⟨d, rfl⟩ : ∃ d, j = i + 1 + d := ⟨j - i - 1, by omega⟩
  clear hij
  induction d generalizing b with
  | zero => exact h i a b ha hb
  | succ d ih =>
    have hlt : i + 1 + d < l.length := by have := (List.getElem?_eq_some_iff.1 hb).1; omega
    exact less_trans (ih _ (List.getElem?_eq_getElem hlt)) (h _ _ _ (List.getElem?_eq_getElem hlt) hb)
end Abs
end Go.Proofs.YtodgepbihbcdbaaGreatDoor

namespace Go.Proofs.YtodgepbihbcdbaaGreatDoor
namespace Abs
open Go.RowKit

/-! ### Simple types -/
theorem decDigits_len' : ∀ (k u : Nat), u < 10 ^ (k + 1) → (Lib.decDigits u).length ≤ k + 1 := by
  intro k
  induction k with
  | zero => intro u hu; rw [Lib.decDigits_one (by simpa using hu)]; simp
  | succ k ih =>
    intro u hu
    by_cases h : u < 10
    · rw [Lib.decDigits_one h]; simp
    · rw [Lib.decDigits, dif_neg h, List.length_append]
      have := ih (u / 10) (Nat.div_lt_of_lt_mul (by rw [Nat.pow_succ, Nat.mul_comm] at hu; exact hu))
      simp; omega
theorem itoa_len' (n : Int) (h0 : -9223372036854775808 ≤ n) (h1 : n ≤ 9223372036854775808) : (Lib.itoa n).length ≤ 20 := by
  unfold Lib.itoa
  split
  · have := decDigits_len' 18 n.natAbs (by omega); simp; omega
  · have := decDigits_len' 18 n.toNat (by omega); omega
theorem eS_size : eS.size ≤ 140737488351232 := by decide
theorem fits_simple {k n : Int} {s : ByteArray} (hk : -100 ≤ k ∧ k ≤ 100) (hn : -9223372036854775808 ≤ n ∧ n ≤ 9223372036854775807) (hs : s.size ≤ 140737488351232) : (Val.mk k n s [] []).Fits :=
  .mk (by omega) hn hs (by simp) (by simp) (fun _ h => absurd h List.not_mem_nil) (fun _ h => absurd h List.not_mem_nil)
theorem vZ_fits : vZ.Fits := fits_simple (by decide) (by decide) eS_size
/-- What a conversion to a simple type of kind k does. -/
def PrimOk (k : Int) (f : Val → Option (Val × Int)) : Prop :=
  ∀ v : Val, v.Fits → ∃ r : Val × Int, f v = some r ∧ r.1.Fits ∧ (v.kind = k → r = (v, 0)) ∧ (r.2 = 0 → r.1.kind = k) ∧ (v.kind = 4 ∨ v.kind = 5 → r.2 ≠ 0)
theorem toBool_prim : PrimOk 1 g_convert_toBool := by
  intro v hf
  unfold g_convert_toBool
  by_cases h1 : v.kind = 1
  · rw [decide_eq_true h1]; exact ⟨(v, 0), rfl, hf, fun _ => rfl, fun _ => h1, fun h => by omega⟩
  rw [decide_eq_false h1, cond_false]
  have bad : ∃ r : Val × Int, some (vZ, (6 : Int)) = some r ∧ r.1.Fits ∧ (v.kind = 1 → r = (v, 0)) ∧ (r.2 = 0 → r.1.kind = 1) ∧ (v.kind = 4 ∨ v.kind = 5 → r.2 ≠ 0) :=
    ⟨_, rfl, vZ_fits, fun h => absurd h h1, (fun h => by cases h), fun _ => by decide⟩
  by_cases h3 : v.kind = 3
  case neg => rw [decide_eq_false h3]; exact bad
  rw [decide_eq_true h3, cond_true]
  cases decide (v.str = (⟨#[116, 114, 117, 101]⟩ : ByteArray))
  · rw [cond_false]
    cases decide (v.str = (⟨#[102, 97, 108, 115, 101]⟩ : ByteArray))
    · exact bad
    · exact ⟨_, rfl, fits_simple (by decide) (by decide) eS_size, fun h => absurd h h1, fun _ => rfl, fun h => by omega⟩
  · exact ⟨_, rfl, fits_simple (by decide) (by decide) eS_size, fun h => absurd h h1, fun _ => rfl, fun h => by omega⟩
theorem parse_i64 (s : ByteArray) : -9223372036854775808 ≤ (NumPlain.parseB s).1 ∧ (NumPlain.parseB s).1 ≤ 9223372036854775807 := by
  unfold NumPlain.parseB NumPlain.parse
  split
  · rcases NumPlain.right_cases (NumPlain.sval s.data.toList) with ⟨h, hv⟩ | h
    · rw [h]; have := (NumPlain.validB_iff _).1 hv; constructor <;> simp only <;> omega
    · rw [h]; decide
  · decide
theorem toNumber_prim : PrimOk 2 g_convert_toNumber := by
  intro v hf
  obtain ⟨f1, f2, f3, f4, f5, f6, f7⟩ := hf.parts
  unfold g_convert_toNumber
  by_cases h1 : v.kind = 2
  · rw [decide_eq_true h1]; exact ⟨(v, 0), rfl, hf, fun _ => rfl, fun _ => h1, fun h => by omega⟩
  rw [decide_eq_false h1, cond_false]
  have bad : ∃ r : Val × Int, some (vZ, (6 : Int)) = some r ∧ r.1.Fits ∧ (v.kind = 2 → r = (v, 0)) ∧ (r.2 = 0 → r.1.kind = 2) ∧ (v.kind = 4 ∨ v.kind = 5 → r.2 ≠ 0) :=
    ⟨_, rfl, vZ_fits, fun h => absurd h h1, (fun h => by cases h), fun _ => by decide⟩
  by_cases h3 : v.kind = 3
  case neg => rw [decide_eq_false h3]; exact bad
  rw [decide_eq_true h3, Bool.not_true, cond_false, show m_parse v.str = some (NumPlain.parseB v.str) from gd_of (by omega), Option.bind_some]
  by_cases hp : (NumPlain.parseB v.str).2 = 0
  · rw [decide_eq_true hp]
    exact ⟨_, rfl, fits_simple (by decide) (parse_i64 _) eS_size, fun h => absurd h h1, fun _ => rfl, fun h => by omega⟩
  · rw [decide_eq_false hp]; exact bad
theorem toString_prim : PrimOk 3 g_convert_toString := by
  intro v hf
  obtain ⟨f1, f2, f3, f4, f5, f6, f7⟩ := hf.parts
  unfold g_convert_toString
  by_cases h1 : v.kind = 3
  · rw [decide_eq_true h1]; exact ⟨(v, 0), rfl, hf, fun _ => rfl, fun _ => h1, fun h => by omega⟩
  rw [decide_eq_false h1, cond_false]
  by_cases h2 : v.kind = 2
  · rw [decide_eq_true h2, cond_true, show m_format v.num = some (fmtB v.num) from gd_of f2, Option.bind_some]
    refine ⟨_, rfl, fits_simple (by decide) (by decide) ?_, fun h => absurd h h1, fun _ => rfl, fun h => by omega⟩
    have := itoa_len' v.num f2.1 (by omega)
    show (fmtB v.num).size ≤ _
    unfold fmtB
    rw [← ByteArray.size_data, List.size_toArray]
    omega
  rw [decide_eq_false h2, cond_false]
  by_cases h3 : v.kind = 1
  · rw [decide_eq_true h3, cond_true]
    cases decide (v.num = 1)
    · exact ⟨_, rfl, fits_simple (by decide) (by decide) (by decide), fun h => absurd h h1, fun _ => rfl, fun h => by omega⟩
    · exact ⟨_, rfl, fits_simple (by decide) (by decide) (by decide), fun h => absurd h h1, fun _ => rfl, fun h => by omega⟩
  · rw [decide_eq_false h3]
    exact ⟨_, rfl, vZ_fits, fun h => absurd h h1, (fun h => by cases h), fun _ => by decide⟩
/-- The conversion as a function. -/
def primS (f : Val → Option (Val × Int)) (v : Val) : Val × Int := (f v).getD (vZ, 6)
theorem PrimOk.eq {k : Int} {f : Val → Option (Val × Int)} (h : PrimOk k f) {v : Val} (hf : v.Fits) :
    f v = some (primS f v) ∧ (primS f v).1.Fits ∧ (v.kind = k → primS f v = (v, 0)) ∧ ((primS f v).2 = 0 → (primS f v).1.kind = k) ∧ (v.kind = 4 ∨ v.kind = 5 → (primS f v).2 ≠ 0) := by
  obtain ⟨r, h1, h2⟩ := h v hf
  have : primS f v = r := by unfold primS; rw [h1]; rfl
  rw [this]; exact ⟨h1, h2⟩

/-! ### All types -/
/-- What becomes of a list or map whose items are converted. -/
def colR (k : Int) (keys : List ByteArray) (q : List Val × Int) : Val × Int := if q.2 = 0 then (Val.mk k 0 eS q.1 keys, 0) else (vZ, q.2)
mutual
/-- The conversion of a value to a type. -/
noncomputable def toS : Ty → Val → Val × Int
  | .mk k elems names, v =>
    if k = 0 ∨ v.kind = 0 ∨ v.kind = 6 then (v, 0)
    else if k = 1 then primS g_convert_toBool v
    else if k = 2 then primS g_convert_toNumber v
    else if k = 3 then primS g_convert_toString v
    else if k = 4 ∨ k = 5 then (if v.kind = k then colR v.kind v.keys (headS elems v.items) else (vZ, 6))
    else if v.kind = 5 then (if ∀ x ∈ v.keys, hasB names x = true then colR 5 names (objS elems names v) else (vZ, 13))
    else (vZ, 6)
noncomputable def headS : List Ty → List Val → List Val × Int
  | [], _ => ([], 6)
  | e :: _, l => eachS (fun x => toS e x) l
noncomputable def objS : List Ty → List ByteArray → Val → List Val × Int
  | e :: es, n :: ns, v => if (toS e (look v.keys v.items n)).2 ≠ 0 then ([], (toS e (look v.keys v.items n)).2) else if (objS es ns v).2 ≠ 0 then ([], (objS es ns v).2) else ((toS e (look v.keys v.items n)).1 :: (objS es ns v).1, 0)
  | [], _, _ => ([], 0)
  | _ :: _, [], _ => ([], 0)
end
theorem objS_eq (v : Val) : ∀ (es : List Ty) (ns : List ByteArray), objS es ns v = eachS (fun p : Ty × ByteArray => toS p.1 (look v.keys v.items p.2)) (es.zip ns)
  | [], _ => by simp [objS, eachS]
  | _ :: _, [] => by simp [objS, eachS]
  | e :: es, n :: ns => by rw [objS, objS_eq v es ns]; rfl
theorem toS_eq (t : Ty) (v : Val) : toS t v = if t.kind = 0 ∨ v.kind = 0 ∨ v.kind = 6 then (v, 0)
    else if t.kind = 1 then primS g_convert_toBool v
    else if t.kind = 2 then primS g_convert_toNumber v
    else if t.kind = 3 then primS g_convert_toString v
    else if t.kind = 4 ∨ t.kind = 5 then (if v.kind = t.kind then colR v.kind v.keys (headS t.elems v.items) else (vZ, 6))
    else if v.kind = 5 then (if ∀ x ∈ v.keys, hasB t.names x = true then colR 5 t.names (eachS (fun p : Ty × ByteArray => toS p.1 (look v.keys v.items p.2)) (t.elems.zip t.names)) else (vZ, 13))
    else (vZ, 6) := by
  obtain ⟨k, elems, names⟩ := t
  rw [toS, objS_eq]
  rfl
/-- Values that conversions meet. -/
def Vok (v : Val) : Prop := v.Fits ∧ ∃ d, Good d v
theorem vZ_good : Good 1 vZ := .mk (by
  have e : eS.data.toList = [] := rfl
  simp [nodeE, vtext, shapedV, shapedB, numOk, strOk, itemsOk, keysOk, keysE, Val.kind, Val.num, Val.str, Val.items, Val.keys]
  decide) (fun y h => absurd h List.not_mem_nil)
theorem vZ_ok : Vok vZ := ⟨vZ_fits, 1, vZ_good⟩
theorem Vok.item {v : Val} (h : Vok v) : ∀ x ∈ v.items, Vok x := by
  obtain ⟨hf, d, hg⟩ := h
  obtain ⟨e, rfl, hi⟩ := hg.item
  exact fun x hx => ⟨hf.parts.2.2.2.2.2.2 x hx, e, hi x hx⟩
theorem Vok.look {v : Val} (h : Vok v) (n : ByteArray) : Vok (look v.keys v.items n) := by
  rcases look_mem v.keys v.items n with k | k
  · exact h.item _ k
  · rw [k]; exact vZ_ok
theorem Vok.shape {v : Val} (h : Vok v) : 0 ≤ v.kind ∧ v.kind ≤ 6 ∧ (v.kind ≠ 1 → v.kind ≠ 2 → v.num = 0) ∧ (v.kind = 1 → v.num = 0 ∨ v.num = 1) ∧ (v.kind ≠ 3 → v.str = eS) ∧ (v.kind ≠ 4 → v.kind ≠ 5 → v.items = []) ∧ (v.kind = 5 → v.keys.length = v.items.length) ∧ (v.kind ≠ 5 → v.keys = []) := shaped_facts (node_facts h.2.choose_spec.node).1
theorem Vok.rising {v : Val} (h : Vok v) : Rising v.keys := h.2.choose_spec.rising
open Classical in
theorem to_eq (v : Val) (t : Ty) : t_convert_to v t = g_convert_to (g_convert_toObject fun a0 a1 => if relT a1 t then t_convert_to a0 a1 else none) (g_convert_each fun a0 a1 => if relT a1 t then t_convert_to a0 a1 else none) v t := tieF_eq t v
theorem each_spec (rec : Val → Ty → Option (Val × Int)) (v : Val) (e : Ty) (hf : v.Fits) (h : ∀ x ∈ v.items, rec x e = some (toS e x)) :
    g_convert_each rec v e = some (colR v.kind v.keys (eachS (fun x => toS e x) v.items)) := by
  obtain ⟨f1, f2, f3, f4, f5, f6, f7⟩ := hf.parts
  unfold g_convert_each
  rw [clone_of f5, Option.bind_some]
  have hn := len_i64 f4 (by decide)
  rw [loop_each v.items (fun x => toS e x) (body := g_convert_each_L1 rec v e v.keys) (fun acc => (Val.mk v.kind 0 eS acc v.keys, 0)) (fun er => (vZ, er)) (fun i acc x hi hx ha => ?_) (fun acc ha => ?_)]
  · unfold colR; rfl
  · have hm : x ∈ v.items := List.mem_of_getElem? hx
    by_cases he : (toS e x).2 = 0
    · simp only [g_convert_each_L1, decide_eq_true (show (i : Int) < v.items.length by omega), cond_true, idx_nat, hx, Option.bind_some, h x hm, decide_eq_true he, Bool.not_true, cond_false, app_one acc _ (m := 80) (by decide) (show acc.length < v.items.length by omega) f4, wrap_nat hi (show v.items.length ≤ 9223372036854775807 by omega), if_pos he]
    · simp only [g_convert_each_L1, decide_eq_true (show (i : Int) < v.items.length by omega), cond_true, idx_nat, hx, Option.bind_some, h x hm, decide_eq_false he, Bool.not_false, if_neg he]
  · simp only [g_convert_each_L1, decide_eq_false (show ¬ (v.items.length : Int) < v.items.length by omega), cond_false]
theorem zip_at {α β : Type} {a : List α} {b : List β} {i : Nat} {p : α × β} (h : (a.zip b)[i]? = some p) : a[i]? = some p.1 ∧ b[i]? = some p.2 := by
  rw [List.getElem?_zip_eq_some] at h; exact h
theorem object_spec (rec : Val → Ty → Option (Val × Int)) (v : Val) (t : Ty) (hv : Vok v) (h5 : v.kind = 5) (ht : t.elems.length = t.names.length) (hl : t.elems.length ≤ 1000)
    (h : ∀ e ∈ t.elems, ∀ x, Vok x → rec x e = some (toS e x)) :
    g_convert_toObject rec v t = some (if ∀ x ∈ v.keys, hasB t.names x = true then colR 5 t.names (eachS (fun p : Ty × ByteArray => toS p.1 (look v.keys v.items p.2)) (t.elems.zip t.names)) else (vZ, 13)) := by
  obtain ⟨f1, f2, f3, f4, f5, f6, f7⟩ := hv.1.parts
  have hn := len_i64 f5 (by decide)
  unfold g_convert_toObject
  have hz : (t.elems.zip t.names).length = t.names.length := by rw [List.length_zip]; omega
  have inner : loopO (g_convert_toObject_L2 rec v t t.names) (0, []) = some (.inr (colR 5 t.names (eachS (fun p : Ty × ByteArray => toS p.1 (look v.keys v.items p.2)) (t.elems.zip t.names)))) := by
    rw [loop_each (t.elems.zip t.names) (fun p : Ty × ByteArray => toS p.1 (look v.keys v.items p.2)) (body := g_convert_toObject_L2 rec v t t.names) (fun acc => .inr (Val.mk 5 0 eS acc t.names, 0)) (fun er => .inr (vZ, er)) (fun i acc p hi hp ha => ?_) (fun acc ha => ?_)]
    · unfold colR; split <;> rfl
    · obtain ⟨he, hnm⟩ := zip_at hp
      have hm : p.1 ∈ t.elems := List.mem_of_getElem? he
      obtain ⟨b, hg⟩ := get_spec v p.2 hv.1 h5 (hv.shape.2.2.2.2.2.2.1 h5) hv.rising
      have hr := h p.1 hm _ (hv.look p.2)
      have hlt : decide ((i : Int) < t.names.length) = true := decide_eq_true (by omega)
      by_cases her : (toS p.1 (look v.keys v.items p.2)).2 = 0
      · simp only [g_convert_toObject_L2, hlt, cond_true, idx_nat, hnm, he, Option.bind_some, hg, hr, decide_eq_true her, Bool.not_true, cond_false, app_one acc _ (m := 80) (n := 1000) (by decide) (show acc.length < 1000 by omega) (by decide), wrap_nat (show i < t.names.length by omega) (show t.names.length ≤ 9223372036854775807 by omega), if_pos her]
      · simp only [g_convert_toObject_L2, hlt, cond_true, idx_nat, hnm, he, Option.bind_some, hg, hr, decide_eq_false her, Bool.not_false, if_neg her]
    · rw [hz]; simp only [g_convert_toObject_L2, decide_eq_false (show ¬ (t.names.length : Int) < t.names.length by omega), cond_false]
  have := loop_meas (body := g_convert_toObject_L1 rec v t) (fun k => ∃ i : Nat, k = (i : Int) ∧ i ≤ v.keys.length ∧ ∀ (j : Nat) x, j < i → v.keys[j]? = some x → hasB t.names x = true) (fun k => v.keys.length - k.toNat) (fun r => r = if ∀ x ∈ v.keys, hasB t.names x = true then colR 5 t.names (eachS (fun p : Ty × ByteArray => toS p.1 (look v.keys v.items p.2)) (t.elems.zip t.names)) else (vZ, 13)) (by
    rintro k ⟨i, rfl, hi, hp⟩
    rcases Nat.eq_or_lt_of_le hi with h0 | h0
    · subst h0
      refine .inr ⟨_, by simp only [g_convert_toObject_L1, decide_eq_false (show ¬ (v.keys.length : Int) < v.keys.length by omega), cond_false, clone_of (show t.names.length * 16 ≤ 140737488351232 by omega), Option.bind_some, inner]; rfl, ?_⟩
      rw [if_pos]
      intro x hx
      obtain ⟨j, hj⟩ := List.getElem?_of_mem hx
      exact hp j x (List.getElem?_eq_some_iff.1 hj).1 hj
    · have hx := List.getElem?_eq_getElem h0
      have hm : v.keys[i] ∈ v.keys := List.getElem_mem h0
      have hlt : decide ((i : Int) < v.keys.length) = true := decide_eq_true (by omega)
      cases hh : hasB t.names v.keys[i] with
      | true =>
        refine .inl ⟨((i + 1 : Nat) : Int), by simp only [g_convert_toObject_L1, hlt, cond_true, idx_nat, hx, Option.bind_some, contains_spec t.names v.keys[i] (by omega), hh, Bool.not_true, cond_false, wrap_nat h0 (show v.keys.length ≤ 9223372036854775807 by omega)], ⟨i + 1, rfl, h0, fun j x hj he => ?_⟩, by simp only [Int.toNat_natCast]; omega⟩
        rcases Nat.eq_or_lt_of_le (Nat.le_of_lt_succ hj) with rfl | hj
        · rw [hx] at he; cases he; exact hh
        · exact hp j x hj he
      | false =>
        refine .inr ⟨(vZ, 13), by simp only [g_convert_toObject_L1, hlt, cond_true, idx_nat, hx, Option.bind_some, contains_spec t.names v.keys[i] (by omega), hh, Bool.not_false], ?_⟩
        rw [if_neg]
        intro hall; rw [hall _ hm] at hh; cases hh) 0 ⟨0, rfl, Nat.zero_le _, fun j x hj => by omega⟩
  obtain ⟨r, h1, rfl⟩ := this
  exact h1
/-- Types that conversions meet. -/
def Tok (t : Ty) : Prop := t.Fits ∧ Few t ∧ Okt t
theorem Tok.elem {t : Ty} (h : Tok t) : ∀ e ∈ t.elems, Tok e := by
  obtain ⟨hf, hw, ho⟩ := h
  intro e he
  refine ⟨hf.parts.2.2.2.2 e he, ?_, ?_⟩
  · cases hw with | mk _ h => exact h e he
  · cases ho with | mk _ _ _ _ _ h => exact h e he
theorem Tok.facts {t : Ty} (h : Tok t) : t.elems.length ≤ 1000 ∧ 0 ≤ t.kind ∧ t.kind ≤ 6 ∧ (t.kind = 6 → t.elems.length = t.names.length) ∧ (t.kind = 4 ∨ t.kind = 5 → t.elems.length = 1) ∧ Rising t.names := by
  obtain ⟨hf, hw, ho⟩ := h
  cases hw with | mk h1 _ => cases ho with | mk a b c d e _ => exact ⟨h1, a, b, c, d, e⟩
theorem to_spec (t : Ty) : ∀ v : Val, Tok t → Vok v → t_convert_to v t = some (toS t v) := by
  induction t using tyWf_ind with
  | h t ih =>
    intro v ht hv
    obtain ⟨hl, k0, k6, t6, t45, hri⟩ := ht.facts
    rw [to_eq, toS_eq]
    unfold g_convert_to
    have hc : cpy v = some v := gd_of hv.1
    by_cases c1 : t.kind = 0
    · rw [decide_eq_true c1, if_pos (.inl c1), cond_true, hc]; rfl
    by_cases c2 : v.kind = 0
    · rw [decide_eq_false c1, decide_eq_true c2, if_pos (.inr (.inl c2)), cond_true, cond_false, hc]; rfl
    by_cases c3 : v.kind = 6
    · rw [decide_eq_false c1, decide_eq_false c2, decide_eq_true c3, if_pos (.inr (.inr c3)), cond_true, cond_false, cond_false, hc]; rfl
    rw [decide_eq_false c1, decide_eq_false c2, decide_eq_false c3, if_neg (by omega)]
    simp only [cond_false]
    by_cases t1 : t.kind = 1
    · rw [decide_eq_true t1, if_pos t1, cond_true, (toBool_prim.eq hv.1).1]; rfl
    rw [decide_eq_false t1, if_neg t1, cond_false]
    by_cases t2 : t.kind = 2
    · rw [decide_eq_true t2, if_pos t2, cond_true, (toNumber_prim.eq hv.1).1]; rfl
    rw [decide_eq_false t2, if_neg t2, cond_false]
    by_cases t3 : t.kind = 3
    · rw [decide_eq_true t3, if_pos t3, cond_true, (toString_prim.eq hv.1).1]; rfl
    rw [decide_eq_false t3, if_neg t3, cond_false]
    by_cases t4 : t.kind = 4 ∨ t.kind = 5
    · rw [if_pos t4]
      obtain ⟨e, he⟩ : ∃ e, t.elems = [e] := List.length_eq_one_iff.1 (t45 t4)
      have hem : e ∈ t.elems := by rw [he]; exact List.mem_singleton.2 rfl
      have hI : idx t.elems 0 = some e := by rw [he]; simp [idx]
      have hE := each_spec (fun a0 a1 => open Classical in if relT a1 t then t_convert_to a0 a1 else none) v e hv.1 (fun x hx => by
        simp only [if_pos (show relT e t from hem)]
        exact ih e hem x (ht.elem e hem) (hv.item x hx))
      have hH : headS t.elems v.items = eachS (fun x => toS e x) v.items := by rw [he, headS]
      rw [hH]
      rcases t4 with t4 | t5
      · rw [decide_eq_true t4, cond_true]
        by_cases v4 : v.kind = 4
        · rw [decide_eq_true v4, cond_true, hI, Option.bind_some, hE, if_pos (by omega)]; rfl
        · rw [decide_eq_false v4, cond_false, if_neg (by omega)]
      · rw [decide_eq_false (show ¬ t.kind = 4 by omega), decide_eq_true t5, cond_true, cond_false]
        by_cases v5 : v.kind = 5
        · rw [decide_eq_true v5, cond_true, hI, Option.bind_some, hE, if_pos (by omega)]; rfl
        · rw [decide_eq_false v5, cond_false, if_neg (by omega)]
    · have t6' : t.kind = 6 := by omega
      rw [if_neg t4, decide_eq_false (show ¬ t.kind = 4 by omega), decide_eq_false (show ¬ t.kind = 5 by omega), decide_eq_true t6']
      simp only [cond_false, cond_true]
      by_cases v5 : v.kind = 5
      · rw [decide_eq_true v5, cond_true, if_pos v5, object_spec _ v t hv v5 (t6 t6') hl (fun e he x hx => by
          simp only [if_pos (show relT e t from he)]
          exact ih e he x (ht.elem e he) hx)]; rfl
      · rw [decide_eq_false v5, cond_false, if_neg v5]
end Abs
end Go.Proofs.YtodgepbihbcdbaaGreatDoor

namespace Go.Proofs.YtodgepbihbcdbaaGreatDoor
namespace Abs
open Go.RowKit
theorem eachS_all {α : Type} (f : α → Val × Int) : ∀ l : List α, (∀ x ∈ l, (f x).2 = 0) → eachS f l = (l.map fun x => (f x).1, 0)
  | [], _ => rfl
  | x :: r, h => by
    have h1 := h x (List.mem_cons_self ..)
    have h2 := eachS_all f r fun y hy => h y (List.mem_cons_of_mem _ hy)
    rw [eachS, if_neg (by simp [h1]), h2]; simp
theorem eachS_ok {α : Type} (f : α → Val × Int) : ∀ l : List α, (eachS f l).2 = 0 → ∀ x ∈ l, (f x).2 = 0
  | [], _, x, hx => absurd hx List.not_mem_nil
  | y :: r, h, x, hx => by
    rw [eachS] at h
    by_cases h1 : (f y).2 = 0
    · rw [if_neg (by simp [h1])] at h
      by_cases h2 : (eachS f r).2 = 0
      · rcases List.mem_cons.1 hx with rfl | hx
        · exact h1
        · exact eachS_ok f r h2 x hx
      · rw [if_pos h2] at h; exact absurd h h2
    · rw [if_pos h1] at h; exact absurd h h1
theorem colR_ok {k : Int} {keys : List ByteArray} {q : List Val × Int} : (colR k keys q).2 = 0 ↔ q.2 = 0 := by
  unfold colR
  split
  · rename_i h; simp [h]
  · rename_i h; simp [h]
theorem colR_col {α : Type} {k : Int} {keys : List ByteArray} {f : α → Val × Int} {l : List α} (h : ∀ x ∈ l, (f x).2 = 0) : colR k keys (eachS f l) = (Val.mk k 0 eS (l.map fun x => (f x).1) keys, 0) := by
  rw [eachS_all f l h]; unfold colR; rw [if_pos rfl]
theorem colR_bad {k : Int} {keys : List ByteArray} {q : List Val × Int} (h : q.2 ≠ 0) : colR k keys q = (vZ, q.2) := by unfold colR; rw [if_neg h]
/-- The cases of a conversion. -/
inductive ToC (t : Ty) (v : Val) : Prop
  | same : t.kind = 0 ∨ v.kind = 0 ∨ v.kind = 6 → toS t v = (v, 0) → ToC t v
  | prim (f : Val → Option (Val × Int)) : PrimOk t.kind f → t.kind ≠ 0 → v.kind ≠ 0 → v.kind ≠ 6 → t.kind = 1 ∨ t.kind = 2 ∨ t.kind = 3 → toS t v = primS f v → ToC t v
  | coll (e : Ty) : t.elems = [e] → t.kind = 4 ∨ t.kind = 5 → v.kind = t.kind → toS t v = colR v.kind v.keys (eachS (fun x => toS e x) v.items) → ToC t v
  | obj : t.kind = 6 → v.kind = 5 → (∀ x ∈ v.keys, x ∈ t.names) → toS t v = colR 5 t.names (eachS (fun p : Ty × ByteArray => toS p.1 (look v.keys v.items p.2)) (t.elems.zip t.names)) → ToC t v
  | bad : t.kind = 4 ∨ t.kind = 5 ∨ t.kind = 6 → v.kind ≠ 0 → v.kind ≠ 6 → (t.kind = 6 ∧ v.kind = 5 ∧ ¬ ∀ x ∈ v.keys, x ∈ t.names) ∨ (t.kind = 6 ∧ v.kind ≠ 5) ∨ (t.kind ≠ 6 ∧ v.kind ≠ t.kind) → toS t v = (vZ, 13) ∨ toS t v = (vZ, 6) → ToC t v
theorem toC (t : Ty) (v : Val) (ht : Tok t) : ToC t v := by
  obtain ⟨hl, k0, k6, t6, t45, hri⟩ := ht.facts
  have h := toS_eq t v
  by_cases c1 : t.kind = 0 ∨ v.kind = 0 ∨ v.kind = 6
  · rw [if_pos c1] at h; exact .same c1 h
  rw [if_neg c1] at h
  by_cases t1 : t.kind = 1
  · rw [if_pos t1] at h; exact .prim _ (by rw [t1]; exact toBool_prim) (by omega) (by omega) (by omega) (by omega) h
  rw [if_neg t1] at h
  by_cases t2 : t.kind = 2
  · rw [if_pos t2] at h; exact .prim _ (by rw [t2]; exact toNumber_prim) (by omega) (by omega) (by omega) (by omega) h
  rw [if_neg t2] at h
  by_cases t3 : t.kind = 3
  · rw [if_pos t3] at h; exact .prim _ (by rw [t3]; exact toString_prim) (by omega) (by omega) (by omega) (by omega) h
  rw [if_neg t3] at h
  by_cases t4 : t.kind = 4 ∨ t.kind = 5
  · rw [if_pos t4] at h
    by_cases hk : v.kind = t.kind
    · rw [if_pos hk] at h
      obtain ⟨e, he⟩ : ∃ e, t.elems = [e] := List.length_eq_one_iff.1 (t45 t4)
      rw [he, headS] at h
      exact .coll e he t4 hk h
    · rw [if_neg hk] at h
      exact .bad (by omega) (by omega) (by omega) (.inr (.inr ⟨by omega, hk⟩)) (.inr h)
  rw [if_neg t4] at h
  by_cases v5 : v.kind = 5
  · rw [if_pos v5] at h
    by_cases hk : ∀ x ∈ v.keys, hasB t.names x = true
    · rw [if_pos hk] at h; exact .obj (by omega) v5 (fun x hx => hasB_iff.1 (hk x hx)) h
    · rw [if_neg hk] at h
      exact .bad (by omega) (by omega) (by omega) (.inl ⟨by omega, v5, fun hh => hk fun x hx => hasB_iff.2 (hh x hx)⟩) (.inl h)
  · rw [if_neg v5] at h
    exact .bad (by omega) (by omega) (by omega) (.inr (.inl ⟨by omega, v5⟩)) (.inr h)
theorem mk_col {v : Val} (hv : Vok v) (h : v.kind = 4 ∨ v.kind = 5) : Val.mk v.kind 0 eS v.items v.keys = v := by
  have hs := hv.shape
  exact val_ext rfl (hs.2.2.1 (by omega) (by omega)).symm (hs.2.2.2.2.1 (by omega)).symm rfl rfl
/-! ### Sizes -/
theorem to_fits (t : Ty) : ∀ v : Val, Tok t → Vok v → (toS t v).1.Fits := by
  induction t using tyWf_ind with
  | h t ih =>
    intro v ht hv
    obtain ⟨f1, f2, f3, f4, f5, f6, f7⟩ := hv.1.parts
    cases toC t v ht with
    | same _ h => rw [h]; exact hv.1
    | prim f hp _ _ _ _ h => rw [h]; exact (hp.eq hv.1).2.1
    | coll e he hk hk2 h =>
      have hem : e ∈ t.elems := by rw [he]; exact List.mem_singleton.2 rfl
      rw [h]
      by_cases hz : (eachS (fun x => toS e x) v.items).2 = 0
      · rw [colR_col (eachS_ok _ _ hz)]
        refine .mk f1 (by decide) eS_size (by simpa using f4) f5 f6 fun y hy => ?_
        obtain ⟨z, hz, rfl⟩ := List.mem_map.1 hy
        exact ih e hem z (ht.elem e hem) (hv.item z hz)
      · rw [colR_bad hz]; exact vZ_fits
    | obj hk hk2 hn h =>
      rw [h]
      by_cases hz : (eachS (fun p : Ty × ByteArray => toS p.1 (look v.keys v.items p.2)) (t.elems.zip t.names)).2 = 0
      · rw [colR_col (eachS_ok _ _ hz)]
        refine .mk (by decide) (by decide) eS_size ?_ ht.1.parts.2.2.1 ht.1.parts.2.2.2.1 fun y hy => ?_
        · have := ht.facts.1
          simp only [List.length_map, List.length_zip]; omega
        · obtain ⟨z, hz, rfl⟩ := List.mem_map.1 hy
          have hem : z.1 ∈ t.elems := (List.of_mem_zip hz).1
          exact ih z.1 hem _ (ht.elem _ hem) (hv.look z.2)
      · rw [colR_bad hz]; exact vZ_fits
    | bad _ _ _ _ h => rcases h with h | h <;> rw [h] <;> exact vZ_fits
/-! ### What conforms is kept -/
theorem to_keeps (t : Ty) : ∀ v : Val, Tok t → Vok v → Conf v t → toS t v = (v, 0) := by
  induction t using tyWf_ind with
  | h t ih =>
    intro v ht hv hc
    cases toC t v ht with
    | same _ h => exact h
    | prim f hp t0 v0 v6 tk h =>
      rw [h]
      refine (hp.eq hv.1).2.2.1 ?_
      rcases hc.inv v0 v6 t0 with h | h | h
      · exact h.2
      · omega
      · omega
    | coll e he hk hk2 h =>
      have hem : e ∈ t.elems := by rw [he]; exact List.mem_singleton.2 rfl
      have hconf : ∀ x ∈ v.items, Conf x e := by
        rcases hc.inv (by omega) (by omega) (by omega) with h | h | h
        · omega
        · obtain ⟨_, _, e', r, h3, h4⟩ := h
          rw [he] at h3; cases h3; exact h4
        · omega
      have hall : ∀ x ∈ v.items, toS e x = (x, 0) := fun x hx => ih e hem x (ht.elem e hem) (hv.item x hx) (hconf x hx)
      rw [h, colR_col (f := fun x => toS e x) (fun x hx => by show (toS e x).2 = 0; rw [hall x hx])]
      have : (v.items.map fun x => (toS e x).1) = v.items := by
        rw [List.map_congr_left (g := fun x => x) (fun x hx => by show (toS e x).1 = x; rw [hall x hx])]; simp
      rw [this, mk_col hv (by omega)]
    | obj hk hk2 hn h =>
      have hconf : v.keys = t.names ∧ v.items.length = t.elems.length ∧ (∀ (i : Nat) (x : Val) (e : Ty), v.items[i]? = some x → t.elems[i]? = some e → Conf x e) := by
        rcases hc.inv (by omega) (by omega) (by omega) with h | h | h
        · omega
        · omega
        · exact h.2.2
      obtain ⟨c1, c2, c3⟩ := hconf
      have hlen := ht.facts.2.2.2.1 hk
      have hpt : ∀ (i : Nat) (p : Ty × ByteArray), (t.elems.zip t.names)[i]? = some p → ∃ x, v.items[i]? = some x ∧ toS p.1 (look v.keys v.items p.2) = (x, 0) := by
        intro i p hp
        obtain ⟨he, hnm⟩ := zip_at hp
        have hi : i < v.items.length := by rw [c2]; exact (List.getElem?_eq_some_iff.1 he).1
        have hx := List.getElem?_eq_getElem hi
        have hlk : look v.keys v.items p.2 = v.items[i] := look_at _ _ _ i _ hv.rising (by rw [c1]; exact hnm) hx
        have hem : p.1 ∈ t.elems := List.mem_of_getElem? he
        exact ⟨_, hx, by rw [hlk]; exact ih p.1 hem _ (ht.elem _ hem) (hv.item _ (List.getElem_mem hi)) (c3 i _ _ hx he)⟩
      rw [h, colR_col (f := fun p : Ty × ByteArray => toS p.1 (look v.keys v.items p.2)) (fun p hp => by
        obtain ⟨i, hi⟩ := List.getElem?_of_mem hp
        obtain ⟨x, _, h2⟩ := hpt i p hi
        show (toS p.1 (look v.keys v.items p.2)).2 = 0
        rw [h2])]
      have : ((t.elems.zip t.names).map fun p => (toS p.1 (look v.keys v.items p.2)).1) = v.items := by
        refine list_ext (by simp only [List.length_map, List.length_zip]; omega) fun i hi => ?_
        rw [List.getElem?_map]
        have hi' : i < (t.elems.zip t.names).length := by simpa using hi
        obtain ⟨x, h1, h2⟩ := hpt i _ (List.getElem?_eq_getElem hi')
        rw [List.getElem?_eq_getElem hi', Option.map_some, h2, h1]
      rw [this, ← c1, ← hk2, mk_col hv (by omega)]
    | bad hk v0 v6 hb h =>
      exfalso
      rcases hc.inv v0 v6 (by omega) with h | h | h
      · omega
      · omega
      · rcases hb with ⟨b1, b2, b3⟩ | b | b
        · exact b3 fun x hx => by rw [← h.2.2.1]; exact hx
        · omega
        · omega
/-! ### What is converted conforms -/
theorem to_conf (t : Ty) : ∀ v : Val, Tok t → Vok v → (toS t v).2 = 0 → Conf (toS t v).1 t := by
  induction t using tyWf_ind with
  | h t ih =>
    intro v ht hv h0
    cases toC t v ht with
    | same hc h => rw [h]; exact .any (by rcases hc with h | h | h <;> simp [h])
    | prim f hp t0 v0 v6 tk h => rw [h] at h0 ⊢; exact .prim tk ((hp.eq hv.1).2.2.2.1 h0)
    | coll e he hk hk2 h =>
      have hem : e ∈ t.elems := by rw [he]; exact List.mem_singleton.2 rfl
      rw [h] at h0 ⊢
      have hall := eachS_ok _ _ (colR_ok.1 h0)
      rw [colR_col hall]
      refine .coll hk hk2 he fun y hy => ?_
      obtain ⟨z, hz, rfl⟩ := List.mem_map.1 hy
      exact ih e hem z (ht.elem e hem) (hv.item z hz) (hall z hz)
    | obj hk hk2 hn h =>
      have hlen := ht.facts.2.2.2.1 hk
      rw [h] at h0 ⊢
      have hall := eachS_ok _ _ (colR_ok.1 h0)
      rw [colR_col hall]
      refine .obj (by omega) rfl rfl (by simp only [items_mk, List.length_map, List.length_zip]; omega) fun i x e hx he => ?_
      simp only [items_mk, List.getElem?_map] at hx
      obtain ⟨p, hp, rfl⟩ := Option.map_eq_some_iff.1 hx
      obtain ⟨he', hnm⟩ := zip_at hp
      rw [he'] at he; cases he
      have hem : p.1 ∈ t.elems := List.mem_of_getElem? he'
      exact ih p.1 hem _ (ht.elem _ hem) (hv.look p.2) (hall p (List.mem_of_getElem? hp))
    | bad hk v0 v6 hb h => rcases h with h | h <;> rw [h] at h0 <;> cases h0
/-! ### What is refined has refined conversions -/
theorem look_refs : ∀ (keys : List ByteArray) (ys xs : List Val) (n : ByteArray), ys.length = xs.length → (∀ (i : Nat) (a b : Val), ys[i]? = some a → xs[i]? = some b → Refs a b) → Refs (look keys ys n) (look keys xs n)
  | [], _, _, _, _, _ => by simp only [look]; exact Refs.refl _
  | _ :: _, [], [], _, _, _ => by simp only [look]; exact Refs.refl _
  | _ :: _, [], _ :: _, _, h, _ => by simp at h
  | _ :: _, _ :: _, [], _, h, _ => by simp at h
  | k :: ks, y :: ys, x :: xs, n, hl, h => by
    simp only [look]
    split
    · exact h 0 y x rfl rfl
    · exact look_refs ks ys xs n (by simpa using hl) fun i a b ha hb => h (i + 1) a b (by simpa using ha) (by simpa using hb)
theorem refs_inv {a b : Val} (h : Refs a b) (h6 : b.kind ≠ 6) : a.kind = b.kind ∧ a.num = b.num ∧ a.str = b.str ∧ a.keys = b.keys ∧ a.items.length = b.items.length ∧ (∀ (i : Nat) (x y : Val), a.items[i]? = some x → b.items[i]? = some y → Refs x y) := by
  cases h with
  | unk h => exact absurd h h6
  | node a1 a2 a3 a4 a5 a6 => exact ⟨a1, a2, a3, a4, a5, a6⟩
theorem to_refs (t : Ty) : ∀ y v : Val, Tok t → Vok y → Vok v → Refs y v → ((toS t v).2 ≠ 0 → (toS t y).2 ≠ 0) ∧ ((toS t v).2 = 0 → (toS t y).2 = 0 → Refs (toS t y).1 (toS t v).1) := by
  induction t using tyWf_ind with
  | h t ih =>
    intro y v ht hy hv hr
    cases toC t v ht with
    | same hc h =>
      rw [h]
      refine ⟨fun hh => absurd rfl hh, fun _ _ => ?_⟩
      by_cases h6 : v.kind = 6
      · exact .unk h6
      · have hk := (refs_inv hr h6).1
        have hs : toS t y = (y, 0) := by rw [toS_eq, if_pos (by omega)]
        rw [hs]; exact hr
    | prim f hp t0 v0 v6 tk h =>
      obtain ⟨r1, r2, r3, r4, r5, r6⟩ := refs_inv hr v6
      by_cases hc : v.kind = 4 ∨ v.kind = 5
      · have hy2 : (toS t y).2 ≠ 0 := by
          cases toC t y ht with
          | same hc h => omega
          | prim g hg _ _ _ _ h => rw [h]; exact (hg.eq hy.1).2.2.2.2 (by omega)
          | coll e he hk hk2 h => omega
          | obj hk hk2 hn h => omega
          | bad hk v0 v6 hb h => omega
        exact ⟨fun _ => hy2, fun _ hh => absurd hh hy2⟩
      · have : y = v := by
          have e1 := hv.shape.2.2.2.2.2.1 (by omega) (by omega)
          have e2 : y.items = [] := List.length_eq_zero_iff.1 (by rw [r5, e1]; rfl)
          exact val_ext r1 r2 r3 (by rw [e1, e2]) r4
        subst this
        exact ⟨fun h => h, fun _ _ => Refs.refl _⟩
    | coll e he hk hk2 h =>
      obtain ⟨r1, r2, r3, r4, r5, r6⟩ := refs_inv hr (by omega)
      have hem : e ∈ t.elems := by rw [he]; exact List.mem_singleton.2 rfl
      cases toC t y ht with
      | same hc h => omega
      | prim g hg _ _ _ _ h => omega
      | obj hk hk2 hn h => omega
      | bad hk v0 v6 hb h => rcases hb with b | b | b <;> omega
      | coll e' he' _ _ hy' =>
        rw [he] at he'; cases he'
        rw [h, hy']
        have pair : ∀ (i : Nat) (a b : Val), y.items[i]? = some a → v.items[i]? = some b → ((toS e b).2 ≠ 0 → (toS e a).2 ≠ 0) ∧ ((toS e b).2 = 0 → (toS e a).2 = 0 → Refs (toS e a).1 (toS e b).1) := by
          intro i a b ha hb
          exact ih e hem a b (ht.elem e hem) (hy.item a (List.mem_of_getElem? ha)) (hv.item b (List.mem_of_getElem? hb)) (r6 i a b ha hb)
        constructor
        · intro hh hh2
          apply hh
          have hall := eachS_ok _ _ (colR_ok.1 hh2)
          refine colR_ok.2 ?_
          rw [eachS_all (fun x => toS e x) v.items fun b hb => ?_]
          obtain ⟨i, hi⟩ := List.getElem?_of_mem hb
          have hlt : i < y.items.length := by rw [r5]; exact (List.getElem?_eq_some_iff.1 hi).1
          refine Classical.byContradiction fun hne => (pair i _ b (List.getElem?_eq_getElem hlt) hi).1 hne ?_
          exact hall _ (List.getElem_mem hlt)
        · intro h1 h2
          have a1 := eachS_ok _ _ (colR_ok.1 h1)
          have a2 := eachS_ok _ _ (colR_ok.1 h2)
          rw [colR_col a1, colR_col a2]
          refine .node r1 rfl rfl r4 (by simpa using r5) fun i a b ha hb => ?_
          simp only [items_mk, List.getElem?_map] at ha hb
          obtain ⟨p, hp, rfl⟩ := Option.map_eq_some_iff.1 ha
          obtain ⟨q, hq, rfl⟩ := Option.map_eq_some_iff.1 hb
          exact (pair i p q hp hq).2 (a1 q (List.mem_of_getElem? hq)) (a2 p (List.mem_of_getElem? hp))
    | obj hk hk2 hn h =>
      obtain ⟨r1, r2, r3, r4, r5, r6⟩ := refs_inv hr (by omega)
      cases toC t y ht with
      | same hc h => omega
      | prim g hg _ _ _ _ h => omega
      | coll e' he' _ _ hy' => omega
      | bad hk v0 v6 hb h =>
        rcases hb with ⟨b1, b2, b3⟩ | b | b
        · exact absurd (by rw [r4]; exact hn) b3
        · omega
        · omega
      | obj _ _ _ hy' =>
        rw [h, hy']
        have pair : ∀ p ∈ t.elems.zip t.names, ((toS p.1 (look v.keys v.items p.2)).2 ≠ 0 → (toS p.1 (look y.keys y.items p.2)).2 ≠ 0) ∧ ((toS p.1 (look v.keys v.items p.2)).2 = 0 → (toS p.1 (look y.keys y.items p.2)).2 = 0 → Refs (toS p.1 (look y.keys y.items p.2)).1 (toS p.1 (look v.keys v.items p.2)).1) := by
          intro p hp
          have hem : p.1 ∈ t.elems := (List.of_mem_zip hp).1
          refine ih p.1 hem _ _ (ht.elem _ hem) (hy.look p.2) (hv.look p.2) ?_
          rw [r4]; exact look_refs _ _ _ _ r5 r6
        constructor
        · intro hh hh2
          apply hh
          have hall := eachS_ok _ _ (colR_ok.1 hh2)
          refine colR_ok.2 ?_
          rw [eachS_all (fun p : Ty × ByteArray => toS p.1 (look v.keys v.items p.2)) (t.elems.zip t.names) fun p hp => ?_]
          exact Classical.byContradiction fun hne => (pair p hp).1 hne (hall p hp)
        · intro h1 h2
          have a1 := eachS_ok _ _ (colR_ok.1 h1)
          have a2 := eachS_ok _ _ (colR_ok.1 h2)
          rw [colR_col a1, colR_col a2]
          refine .node rfl rfl rfl rfl (by simp) fun i a b ha hb => ?_
          simp only [items_mk, List.getElem?_map] at ha hb
          obtain ⟨p, hp, rfl⟩ := Option.map_eq_some_iff.1 ha
          obtain ⟨q, hq, rfl⟩ := Option.map_eq_some_iff.1 hb
          rw [hp] at hq; cases hq
          have hm := List.mem_of_getElem? hp
          exact (pair p hm).2 (a1 p hm) (a2 p hm)
    | bad hk v0 v6 hb h =>
      obtain ⟨r1, r2, r3, r4, r5, r6⟩ := refs_inv hr v6
      have hy2 : (toS t y).2 ≠ 0 := by
        cases toC t y ht with
        | same hc h => omega
        | prim g hg _ _ _ _ h => omega
        | coll e he hk hk2 h => rcases hb with b | b | b <;> omega
        | obj hk hk2 hn h =>
          rcases hb with ⟨b1, b2, b3⟩ | b | b
          · exact absurd (by rw [← r4]; exact hn) b3
          · omega
          · omega
        | bad hk v0 v6 hb h => rcases h with h | h <;> rw [h] <;> decide
      exact ⟨fun _ => hy2, fun _ hh => absurd hh hy2⟩
end Abs
end Go.Proofs.YtodgepbihbcdbaaGreatDoor

namespace Go.Proofs.YtodgepbihbcdbaaGreatDoor
namespace Abs
open Go.RowKit
/-- A conversion with its check. -/
noncomputable def toE (v : Val) (t : Ty) : Val × Int := if (toS t v).2 = 0 then (if checkE (toS t v).1 = 0 then ((toS t v).1, 0) else (vZ, checkE (toS t v).1)) else (vZ, (toS t v).2)
theorem To_spec (v : Val) (t : Ty) (ht : Tok t) (hv : Vok v) : g_convert_To v t = some (toE v t) := by
  unfold g_convert_To toE
  rw [to_spec t v ht hv, Option.bind_some]
  by_cases h : (toS t v).2 = 0
  · rw [decide_eq_true h, cond_true, if_pos h, show m_checkE (toS t v).1 = some (checkE (toS t v).1) from gd_of (to_fits t v ht hv), Option.bind_some]
    by_cases h2 : checkE (toS t v).1 = 0
    · rw [decide_eq_true h2, if_pos h2]; rfl
    · rw [decide_eq_false h2, if_neg h2]; rfl
  · rw [decide_eq_false h, cond_false, if_neg h]
theorem toE_ok {v : Val} {t : Ty} (h : (toE v t).2 = 0) : (toS t v).2 = 0 ∧ checkE (toS t v).1 = 0 ∧ toE v t = ((toS t v).1, 0) := by
  unfold toE at h ⊢
  split at h
  · rename_i h1
    split at h
    · rename_i h2; exact ⟨h1, h2, by rw [if_pos h1, if_pos h2]⟩
    · rename_i h2; exact absurd h h2
  · rename_i h1; exact absurd h h1
theorem tok_simple {k : Int} (h : 0 ≤ k ∧ k ≤ 3) : Tok (Ty.mk k [] []) :=
  ⟨.mk (by omega) (by simp) (by simp) (fun _ h => absurd h List.not_mem_nil) (fun _ h => absurd h List.not_mem_nil), .mk (by simp) (fun _ h => absurd h List.not_mem_nil),
   .mk h.1 (show k ≤ 6 by omega) (fun _ => rfl) (fun hh => by have : k = 4 ∨ k = 5 := hh; omega) (fun i j _ a b ha => by simp at ha) (fun _ h => absurd h List.not_mem_nil)⟩
theorem tok_list : Tok (Ty.mk 4 [Ty.mk 2 [] []] []) :=
  have h2 := tok_simple (k := 2) (by decide)
  ⟨.mk (by omega) (by simp) (by simp) (fun _ h => absurd h List.not_mem_nil) (fun e h => by rw [List.mem_singleton.1 h]; exact h2.1), .mk (by simp) (fun e h => by rw [show e = _ from List.mem_singleton.1 h]; exact h2.2.1),
   .mk (by decide) (by decide) (fun h => by cases h) (fun _ => rfl) (fun i j _ a b ha => by simp at ha) (fun e h => by rw [show e = _ from List.mem_singleton.1 h]; exact h2.2.2)⟩
theorem check_simple {k n : Int} {s : ByteArray} (h : nodeE (Val.mk k n s [] []) = 0) : checkE (Val.mk k n s [] []) = 0 := by
  unfold checkE
  rw [checkV_eq, if_neg (by decide), if_neg (by decide), if_neg (by simp [h])]
  rfl
theorem vok_of {v : Val} (hf : v.Fits) (h : checkE v = 0) : Vok v := ⟨hf, 32, good_check h⟩
theorem node_text {s : ByteArray} (h : vtext s = 0) : nodeE (Val.mk 3 0 s [] []) = 0 := by
  unfold nodeE
  rw [if_neg (show ¬ shapedV (Val.mk 3 0 s [] []) = false by simp [shapedV, shapedB, numOk, strOk, itemsOk, keysOk, Val.kind, Val.num, Val.str, Val.items, Val.keys]), if_neg (fun h => by cases h.1), if_neg (by simpa using h)]
  rfl
theorem node_number {n : Int} (h : NumPlain.validB n = true) : nodeE (Val.mk 2 n eS [] []) = 0 := by
  have e : vtext eS = 0 := by decide
  unfold nodeE
  rw [if_neg (show ¬ shapedV (Val.mk 2 n eS [] []) = false by simp [shapedV, shapedB, numOk, strOk, itemsOk, keysOk, Val.kind, Val.num, Val.str, Val.items, Val.keys]), if_neg (fun hh => by rw [show (Val.mk 2 n eS [] []).num = n from rfl, h] at hh; cases hh.2), if_neg (by simpa using e)]
  rfl
theorem node_bool : nodeE (Val.mk 1 1 eS [] []) = 0 := by
  have e : vtext eS = 0 := by decide
  unfold nodeE
  rw [if_neg (show ¬ shapedV (Val.mk 1 1 eS [] []) = false by simp [shapedV, shapedB, numOk, strOk, itemsOk, keysOk, Val.kind, Val.num, Val.str, Val.items, Val.keys]), if_neg (fun hh => by cases hh.1), if_neg (by simpa using e)]
  rfl
theorem text1 : vtext ⟨#[49]⟩ = 0 := by decide
theorem text007 : vtext ⟨#[48, 48, 55]⟩ = 0 := by decide
theorem textyes : vtext ⟨#[121, 101, 115]⟩ = 0 := by decide
theorem texttrue : vtext ⟨#[116, 114, 117, 101]⟩ = 0 := by decide
theorem fits_list {k : Int} {l : List Val} (hk : -100 ≤ k ∧ k ≤ 100) (hl : l.length ≤ 100) (h : ∀ x ∈ l, x.Fits) : (Val.mk k 0 eS l []).Fits :=
  .mk (by omega) (by decide) eS_size (by omega) (by simp) (fun _ h => absurd h List.not_mem_nil) h
abbrev vText (s : ByteArray) : Val := Val.mk 3 0 s [] []
abbrev vNum (n : Int) : Val := Val.mk 2 n eS [] []
theorem vText_ok {s : ByteArray} (h : vtext s = 0) (hs : s.size ≤ 4096) : Vok (vText s) := vok_of (fits_simple (by decide) (by decide) (by omega)) (check_simple (node_text h))
theorem vNum_ok {n : Int} (h : NumPlain.validB n = true) : Vok (vNum n) := vok_of (fits_simple (by decide) (by have := (NumPlain.validB_iff n).1 h; omega) eS_size) (check_simple (node_number h))
theorem node_list {l : List Val} : nodeE (Val.mk 4 0 eS l []) = 0 := by
  have e : vtext eS = 0 := by decide
  unfold nodeE
  rw [if_neg (show ¬ shapedV (Val.mk 4 0 eS l []) = false by simp [shapedV, shapedB, numOk, strOk, itemsOk, keysOk, Val.kind, Val.num, Val.str, Val.items, Val.keys]), if_neg (fun hh => by cases hh.1), if_neg (by simpa using e)]
  rfl
theorem check_two {x y : Val} (hx : x.items = []) (hy : y.items = []) (h1 : nodeE x = 0) (h2 : nodeE y = 0) : checkE (Val.mk 4 0 eS [x, y] []) = 0 := by
  unfold checkE
  rw [checkV_eq, if_neg (by decide), if_neg (by decide), if_neg (by rw [node_list]; decide)]
  simp only [items_mk, checkL]
  have hxc : ∀ n : Int, n < 4096 → checkV x (1 + 1) n = (0, n + 1) := by
    intro n hn; rw [checkV_eq, if_neg (by decide), if_neg (by omega), if_neg (by simp [h1]), hx]; rfl
  have hyc : ∀ n : Int, n < 4096 → checkV y (1 + 1) n = (0, n + 1) := by
    intro n hn; rw [checkV_eq, if_neg (by decide), if_neg (by omega), if_neg (by simp [h2]), hy]; rfl
  rw [hxc _ (by decide)]
  simp only [ne_eq, not_true, if_false]
  rw [hyc _ (by decide)]
  simp
theorem good_simple {x : Val} (hx : x.items = []) (h : nodeE x = 0) : Good 1 x := .mk h fun y hy => by rw [hx] at hy; exact absurd hy List.not_mem_nil
theorem num_text1 : primS g_convert_toNumber (vText ⟨#[49]⟩) = (vNum 1, 0) := by
  unfold primS g_convert_toNumber
  rw [decide_eq_false (show ¬ (vText ⟨#[49]⟩).kind = 2 by decide), decide_eq_true (show (vText ⟨#[49]⟩).kind = 3 by decide)]
  simp only [cond_false, Bool.not_true]
  rw [show m_parse (vText ⟨#[49]⟩).str = some (1, 0) by unfold m_parse; rw [gd_of (by decide)]; decide]
  rfl
theorem num_text007 : (primS g_convert_toNumber (vText ⟨#[48, 48, 55]⟩)).2 = 6 := by
  unfold primS g_convert_toNumber
  rw [decide_eq_false (show ¬ (vText ⟨#[48, 48, 55]⟩).kind = 2 by decide), decide_eq_true (show (vText ⟨#[48, 48, 55]⟩).kind = 3 by decide)]
  simp only [cond_false, Bool.not_true]
  rw [show m_parse (vText ⟨#[48, 48, 55]⟩).str = some (0, 2) by unfold m_parse; rw [gd_of (by decide)]; decide]
  rfl
theorem str_true : primS g_convert_toString (Val.mk 1 1 eS [] []) = (vText ⟨#[116, 114, 117, 101]⟩, 0) := by
  unfold primS g_convert_toString
  rfl
theorem bool_yes : (primS g_convert_toBool (vText ⟨#[121, 101, 115]⟩)).2 = 6 := by
  unfold primS g_convert_toBool
  rw [decide_eq_false (show ¬ (vText ⟨#[121, 101, 115]⟩).kind = 1 by decide), decide_eq_true (show (vText ⟨#[121, 101, 115]⟩).kind = 3 by decide), decide_eq_false (show ¬ (vText ⟨#[121, 101, 115]⟩).str = (⟨#[116, 114, 117, 101]⟩ : ByteArray) by decide), decide_eq_false (show ¬ (vText ⟨#[121, 101, 115]⟩).str = (⟨#[102, 97, 108, 115, 101]⟩ : ByteArray) by decide)]
  rfl
theorem toS_num (v : Val) (h : v.kind ≠ 0) (h6 : v.kind ≠ 6) : toS (Ty.mk 2 [] []) v = primS g_convert_toNumber v := by
  rw [toS_eq, if_neg (by simp [h, h6]), if_neg (by simp), if_pos (by simp)]
theorem toS_str (v : Val) (h : v.kind ≠ 0) (h6 : v.kind ≠ 6) : toS (Ty.mk 3 [] []) v = primS g_convert_toString v := by
  rw [toS_eq, if_neg (by simp [h, h6]), if_neg (by simp), if_neg (by simp), if_pos (by simp)]
theorem toS_bool (v : Val) (h : v.kind ≠ 0) (h6 : v.kind ≠ 6) : toS (Ty.mk 1 [] []) v = primS g_convert_toBool v := by
  rw [toS_eq, if_neg (by simp [h, h6]), if_pos (by simp)]
theorem toE_bad {v : Val} {t : Ty} (h : (toS t v).2 ≠ 0) : toE v t = (vZ, (toS t v).2) := by unfold toE; rw [if_neg h]
theorem toE_good {v : Val} {t : Ty} (h : (toS t v).2 = 0) (h2 : checkE (toS t v).1 = 0) : toE v t = ((toS t v).1, 0) := by unfold toE; rw [if_pos h, if_pos h2]
end Abs
end Go.Proofs.YtodgepbihbcdbaaGreatDoor

namespace Go.Proofs.YtodgepbihbcdbaaGreatDoor
namespace Abs
open Go.RowKit
theorem check_range (v : Val) : ∀ lv n : Int, (checkV v lv n).1 ≠ 6 ∧ (checkV v lv n).1 ≠ 13 := by
  induction v using wfV.induction with
  | h v ih =>
    intro lv n
    have hnode : nodeE v ≠ 6 ∧ nodeE v ≠ 13 := by
      have ht : ∀ s, vtext s ≠ 6 ∧ vtext s ≠ 13 := by
        intro s; unfold vtext; split
        · decide
        · split <;> decide
      have hk : ∀ (l : List ByteArray) (p : Option ByteArray), keysE p l ≠ 6 ∧ keysE p l ≠ 13 := by
        intro l
        induction l with
        | nil => intro p; unfold keysE; decide
        | cons s r ih =>
          intro p
          unfold keysE
          by_cases h1 : vtext s ≠ 0
          · rw [if_pos h1]; exact ht s
          · rw [if_neg h1]
            have key : ∀ c : Bool, (if c = true then (1 : Int) else keysE (some s) r) ≠ 6 ∧ (if c = true then (1 : Int) else keysE (some s) r) ≠ 13 := by
              intro c
              cases c
              · exact ih _
              · exact ⟨by show (1 : Int) ≠ 6; decide, by show (1 : Int) ≠ 13; decide⟩
            exact key _
      unfold nodeE
      split
      · decide
      · split
        · decide
        · split
          · exact ht _
          · exact hk _ _
    have hl : ∀ (l : List Val), (∀ x ∈ l, x ∈ v.items) → ∀ lv n : Int, (checkL l lv n).1 ≠ 6 ∧ (checkL l lv n).1 ≠ 13 := by
      intro l
      induction l with
      | nil => intro _ lv n; simp only [checkL]; decide
      | cons x r ih2 =>
        intro hm lv n
        simp only [checkL]
        split
        · exact ih x (hm x (List.mem_cons_self ..)) lv n
        · exact ih2 (fun y hy => hm y (List.mem_cons_of_mem _ hy)) lv _
    rw [checkV_eq]
    split
    · exact ⟨by show (4 : Int) ≠ 6; decide, by show (4 : Int) ≠ 13; decide⟩
    · split
      · exact ⟨by show (14 : Int) ≠ 6; decide, by show (14 : Int) ≠ 13; decide⟩
      · split
        · exact hnode
        · exact hl _ (fun _ h => h) _ _
end Abs
end Go.Proofs.YtodgepbihbcdbaaGreatDoor
