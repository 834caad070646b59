/-
  Plain laws: indexes of values (as in the operators' seat); the order of addresses; each key belongs to exactly one instance.
-/
import Derived.Test.YtodgepbihbcdbaaGreatDoorPlF
import Derived.Test.YtodgepbihbcdbaaGreatDoorPlN
namespace Go.Proofs.YtodgepbihbcdbaaGreatDoor
set_option linter.unusedSimpArgs false
set_option linter.unusedVariables false
namespace Abs
open Go.RowKit Go.Lib
/-! ### Indexes -/
theorem simple_sc {k : Int} (hk : k = 1 ∨ k = 2 ∨ k = 3) {v : Val} (h : Ck v) : g_convert_simple v k = some (cvS k v) := by
  unfold g_convert_simple
  by_cases h0 : v.kind = 0
  · rw [decide_eq_true h0]; unfold cvS; rw [if_pos h0]; rfl
  · rw [decide_eq_false h0, cond_false, To_sc hk h h0]; rfl
theorem Text_sc {v : Val} (h : Ck v) : g_convert_Text v = some (cvS 3 v) := by unfold g_convert_Text; rw [simple_sc (.inr (.inr rfl)) h]; rfl
theorem open_spec (l : List Val) (hl : l.length ≤ 9223372036854775807) : g_ops_open l = some (l.any fun v => decide (v.kind = 6)) := by
  obtain ⟨n, h1, h2⟩ := loop_first l (fun v => decide (v.kind = 6)) (body := g_slices_IndexFunc_ops_open_1_L1 l) hl (fun i x hi hx => by
    simp only [g_slices_IndexFunc_ops_open_1_L1, decide_eq_true (show (i : Int) < l.length by omega), cond_true, idx_nat, hx, Option.bind_some, g_ops_open_1]
    cases decide (x.kind = 6) <;> rfl) (by simp [g_slices_IndexFunc_ops_open_1_L1])
  unfold g_ops_open g_slices_ContainsFunc_ops_open_1 g_slices_IndexFunc_ops_open_1
  rw [h1, Option.bind_some, Option.bind_some, h2]
theorem open1 (x : Val) : g_ops_open [x] = some (decide (x.kind = 6)) := by rw [open_spec _ (by simp)]; simp
theorem cpy_eq {x : Val} (h : x.Fits) : cpy x = some x := gd_of h
def attrS (v : Val) (name : ByteArray) : Val × Int := if v.kind = 6 then (vU, 0) else if v.kind = 5 then (if hasB v.keys name = true then (look v.keys v.items name, 0) else (vZ, 16)) else (vZ, 6)
theorem Attr_spec {v : Val} (h : Ck v) (name : ByteArray) : g_ops_Attr v name = some (attrS v name) := by
  unfold g_ops_Attr attrS
  by_cases h6 : v.kind = 6
  · rw [decide_eq_true h6, if_pos h6, vU_of h.ok h6]; rfl
  rw [decide_eq_false h6, if_neg h6, cond_false]
  by_cases h5 : v.kind = 5
  · rw [decide_eq_true h5, if_pos h5, cond_true, get_full v name h.ok.1 h5 (h.ok.shape.2.2.2.2.2.2.1 h5) h.ok.rising, Option.bind_some]
    cases hasB v.keys name <;> rfl
  · rw [decide_eq_false h5, if_neg h5]; rfl
theorem asNum_spec {v : Val} (h : Ck v) : g_ops_asNumber v = some (cvS 2 v) := by
  unfold g_ops_asNumber
  by_cases h0 : v.kind = 0
  · rw [decide_eq_true h0]; unfold cvS; rw [if_pos h0]; rfl
  · rw [decide_eq_false h0, cond_false, To_sc (.inr (.inl rfl)) h h0]; rfl
/-- What is done with a converted value. -/
def thenS (q : Val × Int) (f : Val → Val × Int) : Val × Int := if q.2 ≠ 0 then (vZ, q.2) else if q.1.kind = 6 then (vU, 0) else f q.1
theorem thenS_unk (f : Val → Val × Int) : thenS (vU, 0) f = (vU, 0) := rfl
theorem thenS_bad (f : Val → Val × Int) : thenS (vZ, 6) f = (vZ, 6) := rfl
theorem thenS_val {x : Val} (h : x.kind ≠ 6) (f : Val → Val × Int) : thenS (x, 0) f = f x := by unfold thenS; rw [if_neg (by simp), if_neg h]
noncomputable def indexS (v key : Val) : Val × Int :=
  if v.kind = 6 then (vU, 0)
  else if v.kind = 4 then thenS (cvS 2 key) fun x => if x.num < 0 ∨ x.num ≥ v.items.length then (vZ, 16) else ((v.items[x.num.toNat]?).getD vZ, 0)
  else if v.kind = 5 then thenS (cvS 3 key) fun x => attrS v x.str
  else (vZ, 6)
theorem idx_in {α : Type} {l : List α} {n : Int} (h0 : ¬ n < 0) (h1 : ¬ n ≥ l.length) : ∃ x, l[n.toNat]? = some x ∧ idx l n = some x := by
  have hi : n.toNat < l.length := by omega
  refine ⟨_, List.getElem?_eq_getElem hi, ?_⟩
  unfold idx
  rw [if_pos (by omega), List.getElem?_eq_getElem hi]
theorem Index_spec {v key : Val} (h : Ck v) (hk : Ck key) : g_ops_Index v key = some (indexS v key) := by
  unfold g_ops_Index indexS
  by_cases h6 : v.kind = 6
  · rw [decide_eq_true h6, if_pos h6, vU_of h.ok h6]; rfl
  rw [decide_eq_false h6, if_neg h6, cond_false]
  by_cases h4 : v.kind = 4
  · rw [decide_eq_true h4, if_pos h4, cond_true]
    unfold g_ops_item
    rw [asNum_spec hk, Option.bind_some]
    cases cvS_cases (k := 2) (.inr (.inl rfl)) hk with
    | unk e1 e2 => rw [e2, thenS_unk]; simp [open1]
    | bad e1 e2 => rw [e2, thenS_bad]; simp
    | @val x e1 e2 e3 e4 e5 e6 =>
      rw [e6, thenS_val (by omega)]
      simp only [decide_true, Bool.not_true, cond_false, open1, Option.bind_some, decide_eq_false (show ¬ x.kind = 6 by omega)]
      by_cases n0 : x.num < 0
      · rw [decide_eq_true n0, if_pos (.inl n0)]; rfl
      rw [decide_eq_false n0, cond_false]
      by_cases n1 : x.num ≥ v.items.length
      · rw [decide_eq_true n1, if_pos (.inr n1)]; rfl
      rw [decide_eq_false n1, if_neg (by omega), cond_false]
      obtain ⟨y, y1, y2⟩ := idx_in n0 n1
      rw [y2, Option.bind_some, cpy_eq (h.item y (List.mem_of_getElem? y1)).ok.1, y1]; rfl
  rw [decide_eq_false h4, if_neg h4, cond_false]
  by_cases h5 : v.kind = 5
  · rw [decide_eq_true h5, if_pos h5, cond_true, Text_sc hk, Option.bind_some]
    cases cvS_cases (k := 3) (.inr (.inr rfl)) hk with
    | unk e1 e2 => rw [e2, thenS_unk]; simp [open1]
    | bad e1 e2 => rw [e2, thenS_bad]; simp
    | @val x e1 e2 e3 e4 e5 e6 =>
      rw [e6, thenS_val (by omega)]
      simp only [decide_true, Bool.not_true, cond_false, open1, Option.bind_some, decide_eq_false (show ¬ x.kind = 6 by omega), Attr_spec h]
  · rw [decide_eq_false h5, if_neg h5]; rfl
/-! ### The order of addresses -/
theorem cb_less : ∀ {a b : List UInt8}, Op.bytesLess a b = true → compareBytes a b = -1
  | [], [], h => by simp [Op.bytesLess] at h
  | [], _ :: _, _ => rfl
  | _ :: _, [], h => by simp [Op.bytesLess] at h
  | x :: a, y :: b, h => by
    simp only [Op.bytesLess, Bool.or_eq_true, Bool.and_eq_true, decide_eq_true_eq, beq_iff_eq] at h
    unfold compareBytes
    rcases h with h | ⟨rfl, h⟩
    · rw [if_pos h]
    · rw [if_neg (UInt8.lt_irrefl x), if_neg (UInt8.lt_irrefl x)]; exact cb_less h
theorem cb_self : ∀ a : List UInt8, compareBytes a a = 0
  | [] => rfl
  | x :: a => by unfold compareBytes; rw [if_neg (UInt8.lt_irrefl x), if_neg (UInt8.lt_irrefl x)]; exact cb_self a
theorem cmpS_less {a b : ByteArray} (h : Op.bytesLess a.toList b.toList = true) : cmpS a b = -1 := by
  unfold cmpS
  rw [ByteArray.toList_eq, ByteArray.toList_eq] at h
  exact cb_less h
theorem cmpS_self (a : ByteArray) : cmpS a a = 0 := cb_self _
theorem or_spec (l : List Int) (hl : l.length ≤ 1000) : g_cmp_Or l = some ((l.find? fun x => decide (x ≠ 0)).getD 0) := by
  unfold g_cmp_Or
  have := loop_meas (body := g_cmp_Or_L1 l) (fun s => ∃ i : Nat, i ≤ l.length ∧ s = (i : Int) ∧ ((l.drop i).find? fun x => decide (x ≠ 0)) = (l.find? fun x => decide (x ≠ 0))) (fun s => l.length - s.toNat) (fun q => q = (l.find? fun x => decide (x ≠ 0)).getD 0) ?_ 0 ⟨0, Nat.zero_le _, rfl, rfl⟩
  · obtain ⟨q, h', e⟩ := this
    rw [e] at h'; exact h'
  rintro s ⟨i, hi, rfl, hf⟩
  unfold g_cmp_Or_L1
  by_cases hlt : i < l.length
  · rw [decide_eq_true (show (i : Int) < (l.length : Int) by omega), cond_true, idx_nat, List.getElem?_eq_getElem hlt, Option.bind_some]
    rw [List.drop_eq_getElem_cons hlt] at hf
    by_cases h0 : l[i] = 0
    · left
      refine ⟨((i + 1 : Nat) : Int), by rw [decide_eq_true h0, Bool.not_true, cond_false, wrap_nat hlt (by omega)], ⟨i + 1, hlt, rfl, ?_⟩, by simp only [Int.toNat_natCast]; omega⟩
      rw [List.find?_cons_of_neg (by simp [h0])] at hf
      exact hf
    · right
      rw [List.find?_cons_of_pos (by simp [h0])] at hf
      refine ⟨l[i], by rw [decide_eq_false h0, Bool.not_false, cond_true], ?_⟩
      rw [← hf]; rfl
  · right
    obtain rfl : i = l.length := by omega
    rw [List.drop_length] at hf
    refine ⟨0, by rw [decide_eq_false (show ¬ (l.length : Int) < (l.length : Int) by omega), cond_false], ?_⟩
    rw [← hf]; rfl
def cmpI (x y : Int) : Int := if x < y then -1 else if x > y then 1 else 0
theorem cmpI_spec (x y : Int) : g_cmp_Compare x y = some (cmpI x y) := by
  unfold g_cmp_Compare g_cmp_isNaN_int cmpI
  simp only [Option.bind_some, decide_true, Bool.not_true, cond_false]
  by_cases h : x < y
  · rw [decide_eq_true h, if_pos h]; rfl
  rw [decide_eq_false h, if_neg h, cond_false]
  by_cases h2 : x > y
  · rw [decide_eq_true h2, if_pos h2]; rfl
  · rw [decide_eq_false h2, if_neg h2]; rfl
theorem cmpK_spec (x y : Int) : g_cmp_Compare_KeyKind x y = some (cmpI x y) := by
  unfold g_cmp_Compare_KeyKind g_cmp_isNaN_KeyKind cmpI
  simp only [Option.bind_some, decide_true, Bool.not_true, cond_false]
  by_cases h : x < y
  · rw [decide_eq_true h, if_pos h]; rfl
  rw [decide_eq_false h, if_neg h, cond_false]
  by_cases h2 : x > y
  · rw [decide_eq_true h2, if_pos h2]; rfl
  · rw [decide_eq_false h2, if_neg h2]; rfl
theorem compareKeys_spec (a b : KeyG) : g_address_compareKeys a b = some (([cmpI a.kind b.kind, cmpI a.num b.num, cmpS a.str b.str].find? fun x => decide (x ≠ 0)).getD 0) := by
  unfold g_address_compareKeys m_cmpS
  rw [cmpK_spec, Option.bind_some, cmpI_spec, Option.bind_some, Option.bind_some, or_spec _ (by simp), Option.bind_some]
def placeA (k : KeyG) : AddressG := AddressG.mk [] false ⟨#[116]⟩ ⟨#[110]⟩ k
theorem place_eq (k : KeyG) : g_l21_place k = some (placeA k) := rfl
theorem place_cmp {p q : KeyG} (h : g_address_compareKeys p q = some (-1)) : g_address_Compare (placeA p) (placeA q) = some (-1) := by
  have e1 : g_slices_CompareFunc_address_Compare_1 (placeA p).module (placeA q).module = some 0 := by
    unfold g_slices_CompareFunc_address_Compare_1
    exact loop_done (by unfold g_slices_CompareFunc_address_Compare_1_L1; rfl)
  have e2 : ∀ k, g_address_flag (placeA k).data = some 0 := fun k => rfl
  unfold g_address_Compare m_cmpS
  rw [e1, Option.bind_some, e2, Option.bind_some, e2, Option.bind_some, cmpI_spec, Option.bind_some, Option.bind_some, Option.bind_some]
  rw [show g_address_compareKeys (placeA p).key (placeA q).key = some (-1) from h, Option.bind_some]
  rw [show cmpS (placeA p).type_ (placeA q).type_ = 0 from cmpS_self _, show cmpS (placeA p).name (placeA q).name = 0 from cmpS_self _]
  rw [or_spec _ (by simp), Option.bind_some]
  rfl
theorem nkeys_get {n i : Nat} {k : KeyG} (h : (nkeys n)[i]? = some k) : k = KeyG.mk 1 (i : Int) eS := by
  unfold nkeys at h
  rw [List.getElem?_map] at h
  obtain ⟨j, h1, rfl⟩ := Option.map_eq_some_iff.1 h
  obtain ⟨_, e⟩ := List.getElem?_eq_some_iff.1 h1
  rw [List.getElem_range] at e
  rw [← e]
theorem skeys_get {m : List ByteArray} {i : Nat} {k : KeyG} (h : (skeys m)[i]? = some k) : ∃ s, m[i]? = some s ∧ k = KeyG.mk 2 0 s := by
  unfold skeys at h
  rw [List.getElem?_map] at h
  obtain ⟨s, h1, rfl⟩ := Option.map_eq_some_iff.1 h
  exact ⟨s, h1, rfl⟩
theorem form_cmp {r : Int} {l : List KeyG} (hf : KeyForm r l) (h0 : r ≠ 0) {i : Nat} {p q : KeyG} (hp : l[i]? = some p) (hq : l[i + 1]? = some q) : g_address_Compare (placeA p) (placeA q) = some (-1) := by
  refine place_cmp ?_
  rw [compareKeys_spec]
  cases hf with
  | one e => exact absurd e h0
  | cnt n _ _ =>
    rw [nkeys_get hp, nkeys_get hq]
    have e1 : cmpI ((i : Nat) : Int) ((i + 1 : Nat) : Int) = -1 := by unfold cmpI; rw [if_pos (by omega)]
    simp only [e1]; rfl
  | str m _ hr _ _ =>
    obtain ⟨s, h1, rfl⟩ := skeys_get hp
    obtain ⟨t, h2, rfl⟩ := skeys_get hq
    have e1 := cmpS_less (hr i (i + 1) (by omega) s t h1 h2)
    simp only [e1]; rfl
/-! ### The instances and their value -/
def instV (x : Val) (i : Nat) : Val := Val.mk 4 0 eS [vNum (i : Int), x] []
def instS (x : Val) (n : Nat) : List Val := (List.range n).map (instV x)
theorem instS_len (x : Val) (n : Nat) : (instS x n).length = n := by simp [instS]
theorem instS_succ (x : Val) (n : Nat) : instS x (n + 1) = instS x n ++ [instV x n] := by simp [instS, List.range_succ]
theorem instS_get {x : Val} {n i : Nat} (h : i < n) : (instS x n)[i]? = some (instV x i) := by simp [instS, h]
theorem inst_fits {x : Val} (hx : x.Fits) {i : Nat} (hi : i ≤ 1000) : (instV x i).Fits := by
  refine .mk (by decide) (by decide) eS_size (by simp) (by simp) (fun _ h => absurd h List.not_mem_nil) fun y hy => ?_
  simp at hy
  rcases hy with rfl | rfl
  · exact fits_simple (by decide) (by omega) eS_size
  · exact hx
theorem instS_fits {x : Val} (hx : x.Fits) {n : Nat} (hn : n ≤ 256) : ∀ y ∈ instS x n, y.Fits := fun y hy => by
  unfold instS at hy
  obtain ⟨i, h1, rfl⟩ := List.mem_map.1 hy
  exact inst_fits hx (by have := List.mem_range.1 h1; omega)
theorem inst_good {x : Val} (hx : Ck x) {i : Nat} (hi : i < 256) : Good 33 (instV x i) := by
  refine .mk node_list fun y hy => ?_
  rw [show (instV x i).items = [vNum (i : Int), x] from rfl] at hy
  simp at hy
  rcases hy with rfl | rfl
  · exact (good_simple rfl (node_number (valid_small hi))).mono (by omega)
  · exact good_check hx.ck
theorem form_len {r : Int} {l : List KeyG} (hf : KeyForm r l) : l.length ≤ 256 := by
  cases hf with
  | one _ => simp
  | cnt n _ h => rw [nkeys_len]; exact h
  | str m _ _ _ h => rw [skeys_len]; exact h
theorem form_KPs {r : Int} {l : List KeyG} (hf : KeyForm r l) : KPs r l := by
  intro i hi k hk
  cases hf with
  | one e => exact ⟨fun h => by omega, fun h => by omega⟩
  | cnt n e _ => exact ⟨fun _ => nkeys_get hk, fun h => by omega⟩
  | str m e hr _ _ =>
    refine ⟨fun h => by omega, fun _ => ?_⟩
    obtain ⟨s, h1, rfl⟩ := skeys_get hk
    refine ⟨rfl, rfl, fun p h0 hp => ?_⟩
    obtain ⟨t, h2, rfl⟩ := skeys_get hp
    exact hr (i - 1) i (by omega) t s h2 h1
theorem vtext_size {s : ByteArray} (h : vtext s = 0) : s.size ≤ 4096 := by
  unfold vtext at h
  split at h
  · cases h
  · omega
theorem form_size {r : Int} {l : List KeyG} (hf : KeyForm r l) : ∀ k ∈ l, k.str.size ≤ 140737488351232 := by
  intro k hk
  cases hf with
  | one e => rw [List.mem_singleton.1 hk]; decide
  | cnt n e _ => obtain ⟨i, _, rfl⟩ := nkeys_mem hk; exact eS_size
  | str m e hr ht _ => obtain ⟨s, h1, rfl⟩ := skeys_mem hk; have := vtext_size (ht s h1); simp only; omega
/-- The declaration's value, before it is checked. -/
def wholeV (r : Int) (l : List KeyG) (x : Val) : Val := if r = 1 then Val.mk 4 0 eS (instS x l.length) [] else Val.mk 5 0 eS (instS x l.length) (l.map (·.str))
theorem skeys_str (m : List ByteArray) : (skeys m).map (·.str) = m := by
  unfold skeys
  rw [List.map_map]
  exact (List.map_congr_left fun a _ => rfl).trans (List.map_id m)
theorem collect_whole {r : Int} {l : List KeyG} (hf : KeyForm r l) (h0 : r ≠ 0) (x : Val) : collectS r l (instS x l.length) = fin (wholeV r l x) := by
  unfold collectS wholeV
  have hr : r = 1 ∨ r = 2 := by
    cases hf with
    | one e => exact absurd e h0
    | cnt n e _ => exact .inl e
    | str m e _ _ _ => exact .inr e
  rw [if_neg (by rw [instS_len]; simp), if_neg h0, if_pos ⟨hr, form_KPs hf⟩]
  split <;> rfl
theorem whole_fits {r : Int} {l : List KeyG} (hf : KeyForm r l) {x : Val} (hx : x.Fits) : (wholeV r l x).Fits := by
  have hl := form_len hf
  unfold wholeV
  split
  · exact vlist_fits (by rw [instS_len]; omega) (instS_fits hx hl)
  · exact vmap_fits (by rw [instS_len]; omega) (by omega) (form_size hf) (instS_fits hx hl)
theorem whole_good {r : Int} {l : List KeyG} (hf : KeyForm r l) (h0 : r ≠ 0) {x : Val} (hx : Ck x) : Good 34 (wholeV r l x) := by
  have hl := form_len hf
  have hi : ∀ y ∈ instS x l.length, Good 33 y := fun y hy => by
    unfold instS at hy
    obtain ⟨i, h1, rfl⟩ := List.mem_map.1 hy
    exact inst_good hx (by have := List.mem_range.1 h1; omega)
  unfold wholeV
  split
  · exact .mk node_list hi
  · rename_i h1
    refine .mk ?_ hi
    cases hf with
    | one e => exact absurd e h0
    | cnt n e _ => exact absurd e h1
    | str m e hr ht _ =>
      rw [skeys_str]
      exact node_map (by rw [instS_len, skeys_len]) ht hr
theorem cvS_num {n : Int} (h : Ck (vNum n)) : cvS 2 (vNum n) = (vNum n, 0) := by
  unfold cvS
  rw [if_neg (by simp [kind_mk]), toS_num _ (by simp [kind_mk]) (by simp [kind_mk]), (toNumber_prim.eq h.ok.1).2.2.1 rfl]
theorem cvS_text {s : ByteArray} (h : Ck (vText s)) : cvS 3 (vText s) = (vText s, 0) := by
  unfold cvS
  rw [if_neg (by simp [kind_mk]), toS_str _ (by simp [kind_mk]) (by simp [kind_mk]), (toString_prim.eq h.ok.1).2.2.1 rfl]
theorem index_list {r : Int} {l : List KeyG} (h1 : r = 1) (hl : l.length ≤ 256) (x : Val) {i : Nat} (hi : i < l.length) : indexS (wholeV r l x) (vNum (i : Int)) = (instV x i, 0) := by
  have hk : Ck (vNum (i : Int)) := vNum_ck (valid_small (by omega))
  have e : wholeV r l x = Val.mk 4 0 eS (instS x l.length) [] := by unfold wholeV; rw [if_pos h1]
  rw [e]
  unfold indexS
  rw [if_neg (by simp [kind_mk]), if_pos (by rfl), cvS_num hk, thenS_val (by simp [kind_mk])]
  have e2 : ¬ ((vNum (i : Int)).num < 0 ∨ (vNum (i : Int)).num ≥ ((Val.mk 4 0 eS (instS x l.length) []).items.length : Int)) := by
    rw [items_mk, instS_len]; show ¬ ((i : Int) < 0 ∨ (i : Int) ≥ _); omega
  rw [if_neg e2, items_mk]
  show ((instS x l.length)[((i : Int)).toNat]?.getD vZ, 0) = _
  rw [Int.toNat_natCast, instS_get hi]; rfl
theorem index_map {r : Int} {m : List ByteArray} (h2 : r = 2) (hm : Rising m) (ht : ∀ s ∈ m, vtext s = 0) (x : Val) {i : Nat} {s : ByteArray} (hi : m[i]? = some s) : indexS (wholeV r (skeys m) x) (vText s) = (instV x i, 0) := by
  have hlt := (List.getElem?_eq_some_iff.1 hi).1
  have hs := ht s (List.mem_of_getElem? hi)
  have hk : Ck (vText s) := vText_ck hs (by have := vtext_size hs; omega)
  have e : wholeV r (skeys m) x = Val.mk 5 0 eS (instS x m.length) m := by unfold wholeV; rw [if_neg (by omega), skeys_len, skeys_str]
  rw [e]
  unfold indexS
  rw [if_neg (by simp [kind_mk]), if_neg (by simp [kind_mk]), if_pos (by rfl), cvS_text hk, thenS_val (by simp [kind_mk])]
  unfold attrS
  rw [if_neg (by simp [kind_mk]), if_pos (by rfl)]
  show (if hasB m s = true then (look m (instS x m.length) s, 0) else (vZ, 16)) = _
  rw [if_pos (hasB_iff.2 (List.mem_of_getElem? hi)), look_at m _ s i (instV x i) hm hi (instS_get hlt)]
/-! ### The law -/
theorem keys_again {r : Int} {m : List ByteArray} (h2 : r = 2) (hl : m.length ≤ 256) (x : Val) : keysS 2 (wholeV r (skeys m) x) = (skeys m, 0) := by
  have e : wholeV r (skeys m) x = Val.mk 5 0 eS (instS x m.length) m := by unfold wholeV; rw [if_neg (by omega), skeys_len, skeys_str]
  rw [e]
  unfold keysS namedS
  rw [if_neg (by decide), if_neg (by decide), if_pos rfl, if_neg (by simp [kind_mk]), if_pos (by rfl)]
  show (if m.length > 256 then _ else (skeys m, 0)) = _
  rw [if_neg (by omega)]
/-- What both loops over the keys come to. -/
theorem keys_loop {O : Type} {r : Int} {l : List KeyG} (hf : KeyForm r l) (x : Val) {body : Int × List Val → Option ((Int × List Val) ⊕ O)} (o : O)
    (step : ∀ i : Nat, i < l.length → body ((i : Int), instS x i) = some (.inl (((i + 1 : Nat) : Int), instS x (i + 1))))
    (stop : body ((l.length : Int), instS x l.length) = some (.inr o)) : loopO body (0, []) = some o := by
  have := loop_meas (body := body) (fun s => ∃ i : Nat, i ≤ l.length ∧ s = ((i : Int), instS x i)) (fun s => l.length - s.1.toNat) (fun q => q = o) ?_ (0, []) ⟨0, Nat.zero_le _, rfl⟩
  · obtain ⟨q, h', e⟩ := this
    rw [e] at h'; exact h'
  rintro s ⟨i, hi, rfl⟩
  by_cases hlt : i < l.length
  · left
    exact ⟨_, step i hlt, ⟨i + 1, hlt, rfl⟩, by simp only [Int.toNat_natCast]; omega⟩
  · right
    obtain rfl : i = l.length := by omega
    exact ⟨o, stop, rfl⟩
theorem app_inst {x : Val} {i : Nat} (hi : i < 256) : (g_l21_number (i : Int)).bind (fun y => (app 80 (instS x i) [Val.mk 4 0 eS [y, x] []]).bind fun l => some (Sum.inl (IntKind.i64.wrap ((i : Int) + 1), l))) = (some (.inl (((i + 1 : Nat) : Int), instS x (i + 1))) : Option ((Int × List Val) ⊕ Bool)) := by
  show (app 80 (instS x i) [instV x i]).bind _ = _
  rw [app_of (by decide) (by rw [instS_len]; simp; omega), Option.bind_some, wrap_nat hi (by omega), instS_succ]
theorem ask_loop {n : Nat} {O : Type} (hn : n ≤ 1000) {body : Int → Option (Int ⊕ O)} (o : O) (step : ∀ i : Nat, i < n → body (i : Int) = some (.inl (IntKind.i64.wrap ((i : Int) + 1)))) (stop : body (n : Int) = some (.inr o)) : loopO body 0 = some o := by
  have := loop_meas (body := body) (fun s => ∃ i : Nat, i ≤ n ∧ s = (i : Int)) (fun s => n - s.toNat) (fun q => q = o) ?_ 0 ⟨0, Nat.zero_le _, rfl⟩
  · obtain ⟨q, h', e⟩ := this
    rw [e] at h'; exact h'
  rintro s ⟨i, hi, rfl⟩
  by_cases hlt : i < n
  · left
    exact ⟨((i + 1 : Nat) : Int), by rw [step i hlt, wrap_nat hlt (by omega)], ⟨i + 1, hlt, rfl⟩, by simp only [Int.toNat_natCast]; omega⟩
  · right
    obtain rfl : i = n := by omega
    exact ⟨o, stop, rfl⟩
theorem idxS_get {l : List KeyG} {i : Nat} (hi : i < l.length) : idx l (i : Int) = some l[i] := by rw [idx_nat, List.getElem?_eq_getElem hi]
theorem inst_at {x : Val} {n i : Nat} (hi : i < n) : idx (instS x n) (i : Int) = some (instV x i) := by rw [idx_nat, instS_get hi]
theorem L1_spec {v x : Val} (hv : Ck v) (hx : Ck x) (he : (keysS 2 v).2 = 0) : loopO (g_l21_InstancesKeys_L1 2 x (keysS 2 v)) (0, []) = some true := by
  have hf := keysS_form 2 hv he
  have hl := form_len hf
  refine keys_loop hf x true (fun i hi => ?_) ?_
  · unfold g_l21_InstancesKeys_L1
    simp only
    rw [decide_eq_true (show (i : Int) < ((keysS 2 v).1.length : Int) by omega), cond_true]
    cases i with
    | zero =>
      rw [decide_eq_false (show ¬ (((0 : Nat) : Int) > 0) by omega), cond_false]
      exact app_inst (by omega)
    | succ j =>
      have hj : j < (keysS 2 v).1.length := by omega
      rw [decide_eq_true (show (((j + 1 : Nat) : Int) > 0) by omega), cond_true, pred_at (by omega) (by omega) hi, Option.bind_some, place_eq, Option.bind_some, idxS_get hi, Option.bind_some, place_eq, Option.bind_some]
      simp only [Nat.add_sub_cancel]
      rw [form_cmp hf (by decide) (i := j) (List.getElem?_eq_getElem hj) (List.getElem?_eq_getElem hi), Option.bind_some, decide_eq_true rfl, Bool.not_true, cond_false]
      exact app_inst (by omega)
  · unfold g_l21_InstancesKeys_L1
    simp only
    rw [decide_eq_false (show ¬ ((keysS 2 v).1.length : Int) < ((keysS 2 v).1.length : Int) by omega), cond_false, Collect_spec 2 _ _ (by omega) (by rw [instS_len]; omega) (form_size hf) (instS_fits hx.ok.1 hl), Option.bind_some, collect_whole hf (by decide)]
    have hcodes := checkE_codes (whole_good hf (by decide) hx)
    by_cases e0 : checkE (wholeV 2 (keysS 2 v).1 x) = 0
    · have hck := ck_of (whole_fits hf hx.ok.1) e0
      rw [fin_ok e0, decide_eq_true rfl, Bool.not_true, cond_false]
      refine ask_loop (n := (keysS 2 v).1.length) (by omega) _ (fun i hi => ?_) ?_
      · unfold g_l21_InstancesKeys_L2
        simp only
        rw [decide_eq_true (show (i : Int) < ((keysS 2 v).1.length : Int) by omega), cond_true]
        simp only [idxS_get hi, Option.bind_some, g_l21_number, g_l21_text]
        obtain ⟨s, hs, hks, hix⟩ : ∃ s, (keysS 2 v).1[i].str = s ∧ Ck (vText s) ∧ indexS (wholeV 2 (keysS 2 v).1 x) (vText s) = (instV x i, 0) := by
          have hg := List.getElem?_eq_getElem hi
          obtain ⟨l, hl2⟩ : ∃ l, (keysS 2 v).1 = l := ⟨_, rfl⟩
          have hform : KeyForm 2 l := hl2 ▸ hf
          cases hform with
          | one e => cases e
          | cnt n e _ => cases e
          | str m e hr ht hm =>
            simp only [hl2] at hg ⊢
            obtain ⟨s, h1, h2⟩ := skeys_get hg
            have ht' := ht s (List.mem_of_getElem? h1)
            exact ⟨s, by rw [h2], vText_ck ht' (by have := vtext_size ht'; omega), index_map rfl hr ht x h1⟩
        rw [hs, Index_spec hck hks, hix, Option.bind_some]
        simp only [decide_true, Bool.not_true, cond_false]
        rw [inst_at hi, Option.bind_some, vequal_refl (inst_fits hx.ok.1 (by omega)), Option.bind_some, Bool.not_true, cond_false]
      · unfold g_l21_InstancesKeys_L2
        simp only
        rw [decide_eq_false (show ¬ ((keysS 2 v).1.length : Int) < ((keysS 2 v).1.length : Int) by omega), cond_false, Keys_spec 2 hck, Option.bind_some]
        have e2 : keysS 2 (wholeV 2 (keysS 2 v).1 x) = ((keysS 2 v).1, 0) := by
          obtain ⟨l, hl2⟩ : ∃ l, (keysS 2 v).1 = l := ⟨_, rfl⟩
          have hform : KeyForm 2 l := hl2 ▸ hf
          cases hform with
          | one e => cases e
          | cnt n e _ => cases e
          | str m e hr ht hm => rw [hl2]; exact keys_again rfl hm x
        rw [e2, decide_eq_true rfl, cond_true]
        simp only
        rw [keys_self _ (by omega), Option.bind_some, cond_true, awake21]; rfl
    · have e3 : fin (wholeV 2 (keysS 2 v).1 x) = (vZ, checkE (wholeV 2 (keysS 2 v).1 x)) := by unfold fin; rw [if_neg e0]
      rw [e3]
      simp only
      rw [decide_eq_false e0, Bool.not_false, cond_true]
      rcases hcodes with c | c | c
      · exact absurd c e0
      · rw [decide_eq_false (show ¬ checkE (wholeV 2 (keysS 2 v).1 x) = 14 by omega), cond_false, decide_eq_true c, cond_true, awake21]; rfl
      · rw [decide_eq_true c, cond_true, awake21]; rfl
theorem L3_spec {v x : Val} (hv : Ck v) (hx : Ck x) (he : (keysS 1 v).2 = 0) : loopO (g_l21_InstancesKeys_L3 1 x (keysS 1 v)) (0, []) = some true := by
  have hf := keysS_form 1 hv he
  have hl := form_len hf
  refine keys_loop hf x true (fun i hi => ?_) ?_
  · unfold g_l21_InstancesKeys_L3
    simp only
    rw [decide_eq_true (show (i : Int) < ((keysS 1 v).1.length : Int) by omega), cond_true]
    cases i with
    | zero =>
      rw [decide_eq_false (show ¬ (((0 : Nat) : Int) > 0) by omega), cond_false]
      exact app_inst (by omega)
    | succ j =>
      have hj : j < (keysS 1 v).1.length := by omega
      rw [decide_eq_true (show (((j + 1 : Nat) : Int) > 0) by omega), cond_true, pred_at (by omega) (by omega) hi, Option.bind_some, place_eq, Option.bind_some, idxS_get hi, Option.bind_some, place_eq, Option.bind_some]
      simp only [Nat.add_sub_cancel]
      rw [form_cmp hf (by decide) (i := j) (List.getElem?_eq_getElem hj) (List.getElem?_eq_getElem hi), Option.bind_some, decide_eq_true rfl, Bool.not_true, cond_false]
      exact app_inst (by omega)
  · unfold g_l21_InstancesKeys_L3
    simp only
    rw [decide_eq_false (show ¬ ((keysS 1 v).1.length : Int) < ((keysS 1 v).1.length : Int) by omega), cond_false, Collect_spec 1 _ _ (by omega) (by rw [instS_len]; omega) (form_size hf) (instS_fits hx.ok.1 hl), Option.bind_some, collect_whole hf (by decide)]
    have hcodes := checkE_codes (whole_good hf (by decide) hx)
    by_cases e0 : checkE (wholeV 1 (keysS 1 v).1 x) = 0
    · have hck := ck_of (whole_fits hf hx.ok.1) e0
      rw [fin_ok e0, decide_eq_true rfl, Bool.not_true, cond_false]
      refine ask_loop (n := (keysS 1 v).1.length) (by omega) _ (fun i hi => ?_) ?_
      · unfold g_l21_InstancesKeys_L4
        simp only [decide_eq_false (show ¬ (1 : Int) = 2 by decide), cond_false]
        rw [decide_eq_true (show (i : Int) < ((keysS 1 v).1.length : Int) by omega), cond_true, idxS_get hi, Option.bind_some]
        have hnum : (keysS 1 v).1[i].num = (i : Int) := by
          have hg := List.getElem?_eq_getElem hi
          obtain ⟨l, hl2⟩ : ∃ l, (keysS 1 v).1 = l := ⟨_, rfl⟩
          have hform : KeyForm 1 l := hl2 ▸ hf
          cases hform with
          | one e => cases e
          | cnt n e _ => simp only [hl2] at hg ⊢; rw [nkeys_get hg]
          | str m e hr ht hm => cases e
        rw [hnum]
        show ((g_ops_Index (wholeV 1 (keysS 1 v).1 x) (vNum (i : Int))).bind fun y39 => _) = _
        rw [Index_spec hck (vNum_ck (valid_small (by omega))), index_list rfl hl x hi, Option.bind_some]
        simp only [decide_true, Bool.not_true, cond_false]
        rw [inst_at hi, Option.bind_some, vequal_refl (inst_fits hx.ok.1 (by omega)), Option.bind_some, Bool.not_true, cond_false]
      · unfold g_l21_InstancesKeys_L4
        rw [decide_eq_false (show ¬ ((keysS 1 v).1.length : Int) < ((keysS 1 v).1.length : Int) by omega), cond_false, awake21]; rfl
    · have e3 : fin (wholeV 1 (keysS 1 v).1 x) = (vZ, checkE (wholeV 1 (keysS 1 v).1 x)) := by unfold fin; rw [if_neg e0]
      rw [e3]
      simp only
      rw [decide_eq_false e0, Bool.not_false, cond_true]
      rcases hcodes with c | c | c
      · exact absurd c e0
      · rw [decide_eq_false (show ¬ checkE (wholeV 1 (keysS 1 v).1 x) = 14 by omega), cond_false, decide_eq_true c, cond_true, awake21]; rfl
      · rw [decide_eq_true c, cond_true, awake21]; rfl
theorem law_Keys (r : Int) (v x : Val) (hv : v.Fits) (hx : x.Fits) : g_l21_InstancesKeys r v x = some true := by
  unfold g_l21_InstancesKeys
  obtain ⟨b, hb, hb2⟩ := right_spec hv
  rw [hb, Option.bind_some]
  cases b with
  | false => rw [Bool.not_false, cond_true, awake21]; rfl
  | true =>
    have hc := (hb2 rfl).1
    rw [Bool.not_true, cond_false]
    have small : m_small x 3 = some (smallV x 3) := gd_of ⟨hx, by decide, by decide⟩
    by_cases r1 : r = 1
    · subst r1
      rw [decide_eq_true rfl, Bool.not_true, cond_false, small, Option.bind_some]
      cases smallV x 3 with
      | false => rw [Bool.not_false, cond_true, awake21]; rfl
      | true =>
        rw [Bool.not_true, cond_false, m_checkE_eq hx, Option.bind_some]
        by_cases hx0 : checkE x = 0
        · rw [decide_eq_true hx0, Bool.not_true, cond_false, Keys_spec 1 hc, Option.bind_some]
          by_cases he : (keysS 1 v).2 = 0
          · rw [decide_eq_true he, Bool.not_true, cond_false]; exact L3_spec hc (ck_of hx hx0) he
          · rw [decide_eq_false he, Bool.not_false, cond_true, awake21]; rfl
        · rw [decide_eq_false hx0, Bool.not_false, cond_true, awake21]; rfl
    · rw [decide_eq_false r1, Bool.not_false, cond_true]
      by_cases r2 : r = 2
      · subst r2
        rw [decide_eq_true rfl, Bool.not_true, cond_false, small, Option.bind_some]
        cases smallV x 3 with
        | false => rw [Bool.not_false, cond_true, awake21]; rfl
        | true =>
          rw [Bool.not_true, cond_false, m_checkE_eq hx, Option.bind_some]
          by_cases hx0 : checkE x = 0
          · rw [decide_eq_true hx0, Bool.not_true, cond_false, Keys_spec 2 hc, Option.bind_some]
            by_cases he : (keysS 2 v).2 = 0
            · rw [decide_eq_true he, Bool.not_true, cond_false]; exact L1_spec hc (ck_of hx hx0) he
            · rw [decide_eq_false he, Bool.not_false, cond_true, awake21]; rfl
          · rw [decide_eq_false hx0, Bool.not_false, cond_true, awake21]; rfl
      · rw [decide_eq_false r2, Bool.not_false, cond_true, awake21]; rfl
end Abs
end Go.Proofs.YtodgepbihbcdbaaGreatDoor
