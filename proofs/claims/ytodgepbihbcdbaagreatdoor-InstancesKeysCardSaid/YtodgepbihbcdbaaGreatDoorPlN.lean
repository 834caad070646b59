/-
  Plain laws: values of whole declarations.
-/
import Derived.Test.YtodgepbihbcdbaaGreatDoorPlV
namespace Go.Proofs.YtodgepbihbcdbaaGreatDoor
set_option linter.unusedSimpArgs false
set_option linter.unusedVariables false
namespace Abs
open Go.RowKit
theorem rising_next {l : List ByteArray} (h : ∀ (i : Nat) a b, l[i]? = some a → l[i + 1]? = some b → Op.bytesLess a.toList b.toList = true) : Rising l := by
  have key : ∀ (d i : Nat) a b, l[i]? = some a → l[i + d + 1]? = some b → Op.bytesLess a.toList b.toList = true := by
    intro d
    induction d with
    | zero => intro i a b h1 h2; exact h i a b h1 h2
    | succ d ih =>
      intro i a b h1 h2
      have hl := (List.getElem?_eq_some_iff.1 h2).1
      have hm : i + d + 1 < l.length := by omega
      exact bl_trans (ih i a _ h1 (List.getElem?_eq_getElem hm)) (h (i + d + 1) _ b (List.getElem?_eq_getElem hm) h2)
  intro i j hij a b h1 h2
  exact key (j - i - 1) i a b h1 (by rw [show i + (j - i - 1) + 1 = j by omega]; exact h2)
abbrev K0 : KeyG := KeyG.mk 0 0 eS
/-- A key in its place. -/
def KP (r : Int) (keys : List KeyG) (i : Nat) : Prop :=
  ∀ k, keys[i]? = some k → (r = 1 → k = KeyG.mk 1 (i : Int) eS) ∧ (r = 2 → k.kind = 2 ∧ k.num = 0 ∧ ∀ p, 0 < i → keys[i - 1]? = some p → Op.bytesLess p.str.toList k.str.toList = true)
def KPs (r : Int) (keys : List KeyG) : Prop := ∀ i, i < keys.length → KP r keys i
theorem equalK_one (l : List KeyG) (k0 : KeyG) : ∃ b, g_slices_Equal_Key l [k0] = some b ∧ (b = true ↔ l = [k0]) := by
  unfold g_slices_Equal_Key
  match l with
  | [] => exact ⟨false, rfl, by simp⟩
  | [k] =>
    rw [decide_eq_true (show (([k] : List KeyG).length : Int) = ([k0] : List KeyG).length by simp), Bool.not_true, cond_false]
    have hs : g_slices_Equal_Key_L1 [k] [k0] 0 = bif !(eqK k k0) then some (.inr false) else some (.inl 1) := by
      unfold g_slices_Equal_Key_L1; rfl
    cases e : eqK k k0 with
    | true =>
      rw [loop_next (s' := (1 : Int)) (by rw [hs, e]; rfl), loop_done (q := true) (by unfold g_slices_Equal_Key_L1; rfl)]
      exact ⟨true, rfl, by simp [eqK_iff.1 e]⟩
    | false =>
      rw [loop_done (q := false) (by rw [hs, e]; rfl)]
      refine ⟨false, rfl, fun h => (by cases h), fun h => ?_⟩
      rw [List.cons.inj h |>.1, eqK_self] at e; cases e
  | k :: k' :: r =>
    rw [decide_eq_false (show ¬ (((k :: k' :: r : List KeyG).length : Int) = ([k0] : List KeyG).length) by simp; omega), Bool.not_false, cond_true]
    exact ⟨false, rfl, by simp⟩
theorem less_ask {r : Int} {keys : List KeyG} {i : Nat} (hi : i < keys.length) : KP r keys i ↔ ((r = 1 → keys[i] = KeyG.mk 1 (i : Int) eS) ∧ (r = 2 → keys[i].kind = 2 ∧ keys[i].num = 0 ∧ ∀ (h0 : 0 < i), Op.bytesLess (keys[i - 1]'(by omega)).str.toList keys[i].str.toList = true)) := by
  unfold KP
  constructor
  · intro h
    obtain ⟨h1, h2⟩ := h _ (List.getElem?_eq_getElem hi)
    exact ⟨h1, fun e => ⟨(h2 e).1, (h2 e).2.1, fun h0 => (h2 e).2.2 _ h0 (List.getElem?_eq_getElem (by omega))⟩⟩
  · intro ⟨h1, h2⟩ k hk
    rw [List.getElem?_eq_getElem hi] at hk
    obtain rfl := Option.some.inj hk
    refine ⟨h1, fun e => ⟨(h2 e).1, (h2 e).2.1, fun p h0 hp => ?_⟩⟩
    rw [List.getElem?_eq_getElem (by omega)] at hp
    obtain rfl := Option.some.inj hp
    exact (h2 e).2.2 h0
theorem pred_at {α : Type} {l : List α} {i : Nat} (hl : l.length ≤ 1000000) (h0 : 0 < i) (hi : i < l.length) : idx l (IntKind.i64.wrap ((i : Int) - 1)) = some (l[i - 1]'(by omega)) := by
  have w : IntKind.i64.wrap ((i : Int) - 1) = ((i - 1 : Nat) : Int) := by
    rw [show ((i : Int) - 1) = ((i - 1 : Nat) : Int) by omega]; exact wrap_in (by omega) (by omega)
  rw [w, idx_nat, List.getElem?_eq_getElem (by omega)]
theorem expected_spec (r : Int) (keys : List KeyG) (h0 : r ≠ 0) (hl : keys.length ≤ 1000000) : ∃ b, g_instances_expected r keys = some b ∧ (b = true ↔ (r = 1 ∨ r = 2) ∧ KPs r keys) := by
  unfold g_instances_expected
  rw [decide_eq_false h0, cond_false]
  have := loop_ask (body := g_instances_expected_L1 r keys) keys.length (KP r keys) (decide (r = 1) || decide (r = 2)) false (by omega) (fun i hi => by
    have hx : idx keys (i : Int) = some keys[i] := by rw [idx_nat, List.getElem?_eq_getElem hi]
    rw [less_ask hi]
    simp only [g_instances_expected_L1, decide_eq_true (show (i : Int) < keys.length by omega), cond_true, hx, Option.bind_some]
    have ek : ∀ k : KeyG, (decide ((k.kind : Int) = 1) && (decide ((k.num : Int) = (i : Int)) && (decide (k.str = eS) && true))) = eqK k (KeyG.mk 1 (i : Int) eS) := fun k => rfl
    rw [ek]
    by_cases r1 : r = 1
    · have r2 : ¬ r = 2 := by omega
      have fin1 : ∀ c : Bool, (eqK keys[i] (KeyG.mk 1 (i : Int) eS) = true ∧ c = true) ∨ (eqK keys[i] (KeyG.mk 1 (i : Int) eS) = false ∧ c = false) → True := fun _ _ => trivial
      have hz : (i = 0) ∨ (0 < i) := Nat.eq_zero_or_pos i
      have hp : (i : Int) ≠ 0 → idx keys (IntKind.i64.wrap ((i : Int) - 1)) = some (keys[i - 1]'(by omega)) := fun h => pred_at hl (by omega) hi
      simp only [decide_eq_true r1, decide_eq_false r2, cond_true, cond_false]
      cases e : eqK keys[i] (KeyG.mk 1 (i : Int) eS) with
      | true =>
        left
        refine ⟨⟨fun _ => eqK_iff.1 e, fun q => absurd q r2⟩, ?_⟩
        have := eqK_iff.1 e
        rw [decide_eq_false (show ¬ keys[i].kind = 2 by rw [this]; show ¬ (1 : Int) = 2; decide)]
        rfl
      | false =>
        right
        refine ⟨fun q => (by rw [q.1 r1, eqK_self] at e; cases e), ?_⟩
        by_cases k2 : keys[i].kind = 2
        · by_cases n0 : keys[i].num = 0
          · by_cases i0 : (i : Int) = 0
            · simp only [decide_eq_true k2, decide_eq_true n0, decide_eq_true i0, cond_true, Bool.not_false]
            · simp only [decide_eq_true k2, decide_eq_true n0, decide_eq_false i0, cond_true, cond_false, Bool.not_false, hp i0, Option.bind_some]
          · simp only [decide_eq_true k2, decide_eq_false n0, cond_true, cond_false, Bool.not_false]
        · simp only [decide_eq_false k2, cond_true, cond_false, Bool.not_false]
    · by_cases r2 : r = 2
      · simp only [decide_eq_false r1, decide_eq_true r2, cond_true, cond_false]
        by_cases k2 : keys[i].kind = 2
        · by_cases n0 : keys[i].num = 0
          · by_cases i0 : (i : Int) = 0
            · left
              refine ⟨⟨fun q => absurd q r1, fun _ => ⟨k2, n0, fun q => by omega⟩⟩, ?_⟩
              simp only [decide_eq_true k2, decide_eq_true n0, decide_eq_true i0, cond_true]
            · have hp := pred_at hl (show 0 < i by omega) hi
              cases e : Op.bytesLess (keys[i - 1]'(by omega)).str.toList keys[i].str.toList with
              | true =>
                left
                refine ⟨⟨fun q => absurd q r1, fun _ => ⟨k2, n0, fun q => e⟩⟩, ?_⟩
                simp only [decide_eq_true k2, decide_eq_true n0, decide_eq_false i0, cond_true, cond_false, hp, Option.bind_some, e, Bool.not_true]
              | false =>
                right
                refine ⟨fun q => (by have := (q.2 r2).2.2 (by omega); rw [e] at this; cases this), ?_⟩
                simp only [decide_eq_true k2, decide_eq_true n0, decide_eq_false i0, cond_true, cond_false, hp, Option.bind_some, e, Bool.not_false]
          · right
            refine ⟨fun q => n0 (q.2 r2).2.1, ?_⟩
            simp only [decide_eq_true k2, decide_eq_false n0, cond_true, cond_false]
        · right
          refine ⟨fun q => k2 (q.2 r2).1, ?_⟩
          simp only [decide_eq_false k2, cond_true, cond_false]
      · left
        refine ⟨⟨fun q => absurd q r1, fun q => absurd q r2⟩, ?_⟩
        have hp : (i : Int) ≠ 0 → idx keys (IntKind.i64.wrap ((i : Int) - 1)) = some (keys[i - 1]'(by omega)) := fun h => pred_at hl (by omega) hi
        simp only [decide_eq_false r1, decide_eq_false r2, cond_true, cond_false]
        by_cases k2 : keys[i].kind = 2
        · by_cases n0 : keys[i].num = 0
          · by_cases i0 : (i : Int) = 0
            · simp only [decide_eq_true k2, decide_eq_true n0, decide_eq_true i0, cond_true]
            · simp only [decide_eq_true k2, decide_eq_true n0, decide_eq_false i0, cond_true, cond_false, hp i0, Option.bind_some]
          · simp only [decide_eq_true k2, decide_eq_false n0, cond_true, cond_false]
        · simp only [decide_eq_false k2, cond_true, cond_false]) (by
    simp only [g_instances_expected_L1, decide_eq_false (show ¬ (keys.length : Int) < keys.length by omega), cond_false]
    by_cases r1 : r = 1
    · simp [r1]
    · simp [r1])
  rcases this with ⟨h, hall⟩ | ⟨h, i, hi, hn⟩
  · refine ⟨_, h, ?_⟩
    constructor
    · intro q
      rw [Bool.or_eq_true] at q
      exact ⟨q.imp of_decide_eq_true of_decide_eq_true, hall⟩
    · rintro ⟨q | q, _⟩
      · simp [q]
      · simp [q]
  · exact ⟨false, h, fun q => (by cases q), fun q => absurd (q.2 i hi) hn⟩
open Classical in
/-- The value of a declaration. -/
noncomputable def collectS (r : Int) (keys : List KeyG) (items : List Val) : Val × Int :=
  if keys.length ≠ items.length then (vZ, 1)
  else if r = 0 then (if keys = [K0] then ((items[0]?).getD vZ, 0) else (vZ, 1))
  else if (r = 1 ∨ r = 2) ∧ KPs r keys then (if r = 1 then fin (Val.mk 4 0 eS items []) else fin (Val.mk 5 0 eS items (keys.map (·.str))))
  else (vZ, 1)
theorem KPs_rising {keys : List KeyG} (h : KPs 2 keys) : Rising (keys.map (·.str)) := by
  refine rising_next fun i a b h1 h2 => ?_
  simp only [List.getElem?_map, Option.map_eq_some_iff] at h1 h2
  obtain ⟨p, h1, rfl⟩ := h1
  obtain ⟨q, h2, rfl⟩ := h2
  have hi := (List.getElem?_eq_some_iff.1 h2).1
  exact ((h (i + 1) hi q h2).2 rfl).2.2 p (by omega) (by simpa using h1)
theorem vmap_fits {items : List Val} {keys : List KeyG} (hl : items.length ≤ 300) (hk : keys.length ≤ 300) (hs : ∀ k ∈ keys, k.str.size ≤ 140737488351232) (hf : ∀ x ∈ items, x.Fits) : (Val.mk 5 0 eS items (keys.map (·.str))).Fits :=
  fits_map (by omega) (by simp; omega) (fun s h => by obtain ⟨k, h1, rfl⟩ := List.mem_map.1 h; exact hs k h1) hf
theorem vlist_fits {items : List Val} (hl : items.length ≤ 300) (hf : ∀ x ∈ items, x.Fits) : (Val.mk 4 0 eS items []).Fits :=
  .mk (by decide) (by decide) eS_size (by omega) (by simp) (fun _ h => absurd h List.not_mem_nil) hf
theorem Collect_spec (r : Int) (keys : List KeyG) (items : List Val) (hk : keys.length ≤ 300) (hl : items.length ≤ 300) (hs : ∀ k ∈ keys, k.str.size ≤ 140737488351232) (hf : ∀ x ∈ items, x.Fits) : g_instances_Collect r keys items = some (collectS r keys items) := by
  unfold g_instances_Collect collectS
  by_cases hn : keys.length = items.length
  · rw [decide_eq_true (show (keys.length : Int) = items.length by omega), Bool.not_true, cond_false, if_neg (by simpa using hn)]
    by_cases r0 : r = 0
    · rw [if_pos r0]
      obtain ⟨b, hb, hb2⟩ := equalK_one keys K0
      have he : g_instances_expected r keys = some b := by
        unfold g_instances_expected
        rw [decide_eq_true r0, cond_true]
        rw [show g_slices_Equal_Key keys [KeyG.mk 0 0 eS] = some b from hb]; rfl
      rw [he, Option.bind_some]
      cases b with
      | false =>
        rw [Bool.not_false, cond_true, if_neg (fun e => by have := hb2.2 e; cases this)]
      | true =>
        have e := hb2.1 rfl
        have hi : 0 < items.length := by rw [← hn, e]; simp
        rw [Bool.not_true, cond_false, if_pos e, List_spec items (by omega) hf, Option.bind_some, decide_eq_true r0, cond_true, items_mk]
        rw [show idx items 0 = some items[0] by rw [show (0 : Int) = ((0 : Nat) : Int) from rfl, idx_nat, List.getElem?_eq_getElem hi], List.getElem?_eq_getElem hi]; rfl
    · rw [if_neg r0]
      obtain ⟨b, hb, hb2⟩ := expected_spec r keys r0 (by omega)
      rw [hb, Option.bind_some]
      cases b with
      | false => rw [Bool.not_false, cond_true, if_neg (fun e => by have := hb2.2 e; cases this)]
      | true =>
        have e := hb2.1 rfl
        rw [Bool.not_true, cond_false, if_pos e, List_spec items (by omega) hf, Option.bind_some, decide_eq_false r0, cond_false]
        rcases e with ⟨r1 | r2, hp⟩
        · rw [decide_eq_false (show ¬ r = 2 by omega), cond_false, if_pos r1]
          exact fin_spec (vlist_fits hl hf)
        · rw [decide_eq_true r2, cond_true, if_neg (show ¬ r = 1 by omega)]
          subst r2
          have := loop_meas (body := g_instances_Collect_L1 keys items) (fun s => ∃ i : Nat, i ≤ keys.length ∧ s = ((i : Int), (keys.take i).map (·.str))) (fun s => keys.length - s.1.toNat) (fun q => q = fin (Val.mk 5 0 eS items (keys.map (·.str)))) ?_ (0, []) ⟨0, Nat.zero_le _, rfl⟩
          · obtain ⟨q, h', e⟩ := this
            rw [e] at h'; exact h'
          rintro s ⟨i, hi, rfl⟩
          unfold g_instances_Collect_L1
          simp only
          by_cases hlt : i < keys.length
          · left
            refine ⟨(((i + 1 : Nat) : Int), (keys.take (i + 1)).map (·.str)), ?_, ⟨i + 1, hlt, rfl⟩, by simp only [Int.toNat_natCast]; omega⟩
            rw [decide_eq_true (show (i : Int) < (keys.length : Int) by omega), cond_true, idx_nat, List.getElem?_eq_getElem hlt, Option.bind_some, app_of (by decide) (by simp; omega), Option.bind_some, wrap_nat hlt (by omega), List.take_add_one, List.getElem?_eq_getElem hlt, List.map_append]
            rfl
          · right
            obtain rfl : i = keys.length := by omega
            refine ⟨_, ?_, rfl⟩
            rw [decide_eq_false (show ¬ (keys.length : Int) < (keys.length : Int) by omega), cond_false, List.take_length, map_rising _ items (by simpa using hn) (by simp; omega) (KPs_rising hp) hf, Option.bind_some]
            have hm := vmap_fits hl hk hs hf
            simp only
            rw [m_checkE_eq hm, Option.bind_some]
            unfold fin
            by_cases e : checkE (Val.mk 5 0 eS items (keys.map (·.str))) = 0
            · rw [decide_eq_true e, if_pos e]; rfl
            · rw [decide_eq_false e, if_neg e]; rfl
  · rw [decide_eq_false (show ¬ (keys.length : Int) = items.length by omega), Bool.not_false, cond_true, if_pos (by simpa using hn)]
theorem rCollect_spec (r : Int) (keys : List KeyG) (items : List Val) (hk : keys.length ≤ 300) (hl : items.length ≤ 300) (hs : ∀ k ∈ keys, k.str.size ≤ 140737488351232) (hf : ∀ x ∈ items, x.Fits) : g_r21_Collect r keys items = some (collectS r keys items) := by
  unfold g_r21_Collect collectS
  by_cases hn : keys.length = items.length
  · rw [decide_eq_true (show (keys.length : Int) = items.length by omega), Bool.not_true, cond_false, if_neg (by simpa using hn)]
    by_cases rn : r < 0
    · rw [decide_eq_true rn, cond_true, if_neg (by omega), if_neg (by rintro ⟨q | q, _⟩ <;> omega)]
    by_cases rb : r > 2
    · rw [decide_eq_false rn, cond_false, decide_eq_true rb, cond_true, if_neg (by omega), if_neg (by rintro ⟨q | q, _⟩ <;> omega)]
    rw [decide_eq_false rn, cond_false, decide_eq_false rb, cond_false]
    by_cases r0 : r = 0
    · rw [decide_eq_true r0, cond_true, if_pos r0]
      by_cases h1 : keys.length = 1
      · obtain ⟨k, rfl⟩ := List.length_eq_one_iff.1 h1
        have hi : 0 < items.length := by rw [← hn]; simp
        rw [decide_eq_true (show (([k] : List KeyG).length : Int) = 1 by simp), Bool.not_true, cond_false, show idx [k] 0 = some k from rfl, Option.bind_some]
        show (bif !(eqK k K0) then _ else _) = _
        cases e : eqK k K0 with
        | true =>
          rw [Bool.not_true, cond_false, if_pos (by rw [eqK_iff.1 e])]
          rw [show idx items 0 = some items[0] by rw [show (0 : Int) = ((0 : Nat) : Int) from rfl, idx_nat, List.getElem?_eq_getElem hi], List.getElem?_eq_getElem hi]; rfl
        | false =>
          rw [Bool.not_false, cond_true, if_neg (fun q => by rw [List.cons.inj q |>.1, eqK_self] at e; cases e)]
      · rw [decide_eq_false (show ¬ (keys.length : Int) = 1 by omega), Bool.not_false, cond_true, if_neg (fun q => h1 (by rw [q]; rfl))]
    rw [decide_eq_false r0, cond_false, if_neg r0]
    by_cases r2 : r = 2
    · subst r2
      rw [decide_eq_true rfl, cond_true]
      have := loop_meas (body := g_r21_Collect_L1 2 keys items) (fun s => ∃ i : Nat, i ≤ keys.length ∧ s = ((i : Int), items.take i, (keys.take i).map (·.str)) ∧ ∀ j, j < i → KP 2 keys j) (fun s => keys.length - s.1.toNat) (fun q => (KPs 2 keys ∧ q = fin (Val.mk 5 0 eS items (keys.map (·.str)))) ∨ (¬ KPs 2 keys ∧ q = (vZ, 1))) ?_ (0, [], []) ⟨0, Nat.zero_le _, rfl, fun j h => by omega⟩
      · obtain ⟨q, h', e⟩ := this
        rw [h']
        rcases e with ⟨e1, rfl⟩ | ⟨e1, rfl⟩
        · rw [if_pos ⟨.inr rfl, e1⟩, if_neg (by decide)]
        · rw [if_neg (fun q => e1 q.2)]
      rintro s ⟨i, hi, rfl, hp⟩
      unfold g_r21_Collect_L1
      simp only [decide_eq_false (show ¬ (2 : Int) = 1 by decide), cond_false]
      by_cases hlt : i < keys.length
      · have hi2 : i < items.length := by omega
        have hx : idx keys (i : Int) = some keys[i] := by rw [idx_nat, List.getElem?_eq_getElem hlt]
        have hy : idx items (i : Int) = some items[i] := by rw [idx_nat, List.getElem?_eq_getElem hi2]
        have a1 : app 16 ((keys.take i).map (·.str)) [keys[i].str] = some ((keys.take (i + 1)).map (·.str)) := by
          rw [app_of (by decide) (by simp; omega), List.take_add_one, List.getElem?_eq_getElem hlt, List.map_append]; rfl
        have a2 : app 80 (items.take i) [items[i]] = some (items.take (i + 1)) := by
          rw [app_of (by decide) (by simp; omega), List.take_add_one, List.getElem?_eq_getElem hi2]; rfl
        rw [decide_eq_true (show (i : Int) < (keys.length : Int) by omega), cond_true, hx]
        simp only [Option.bind_some, hy, a1, a2, wrap_nat hlt (show keys.length ≤ 9223372036854775807 by omega)]
        have good : KP 2 keys i → ∃ s' : Int × List Val × List ByteArray, (some (.inl (((i + 1 : Nat) : Int), items.take (i + 1), (keys.take (i + 1)).map (·.str))) : Option ((Int × List Val × List ByteArray) ⊕ (Val × Int))) = some (.inl s') ∧ (∃ i' : Nat, i' ≤ keys.length ∧ s' = ((i' : Int), items.take i', (keys.take i').map (·.str)) ∧ ∀ j, j < i' → KP 2 keys j) ∧ keys.length - s'.1.toNat < keys.length - ((i : Nat) : Int).toNat := fun hk => by
          refine ⟨_, rfl, ⟨i + 1, hlt, rfl, fun j hj => ?_⟩, by simp only [Int.toNat_natCast]; omega⟩
          rcases Nat.lt_succ_iff_lt_or_eq.1 hj with h | rfl
          · exact hp j h
          · exact hk
        have bad : ¬ KP 2 keys i → ∃ q : Val × Int, (some (.inr (vZ, 1)) : Option ((Int × List Val × List ByteArray) ⊕ (Val × Int))) = some (.inr q) ∧ ((KPs 2 keys ∧ q = fin (Val.mk 5 0 eS items (keys.map (·.str)))) ∨ (¬ KPs 2 keys ∧ q = (vZ, 1))) := fun hk => ⟨_, rfl, .inr ⟨fun q => hk (q i hlt), rfl⟩⟩
        rw [less_ask hlt] at good bad
        by_cases k2 : keys[i].kind = 2
        · rw [decide_eq_true k2, Bool.not_true, cond_false]
          by_cases n0 : keys[i].num = 0
          · rw [decide_eq_true n0, Bool.not_true, cond_false]
            by_cases i0 : (i : Int) > 0
            · rw [decide_eq_true i0, cond_true, pred_at (by omega) (by omega) hlt, Option.bind_some]
              cases e : Op.bytesLess (keys[i - 1]'(by omega)).str.toList keys[i].str.toList with
              | true => left; rw [Bool.not_true, cond_false]; exact good ⟨fun q => (by cases q), fun _ => ⟨k2, n0, fun _ => e⟩⟩
              | false => right; rw [Bool.not_false, cond_true]; exact bad fun q => by have := (q.2 rfl).2.2 (by omega); rw [e] at this; cases this
            · left; rw [decide_eq_false i0, cond_false]; exact good ⟨fun q => (by cases q), fun _ => ⟨k2, n0, fun q => by omega⟩⟩
          · right; rw [decide_eq_false n0, Bool.not_false, cond_true]; exact bad fun q => n0 (q.2 rfl).2.1
        · right; rw [decide_eq_false k2, Bool.not_false, cond_true]; exact bad fun q => k2 (q.2 rfl).1
      · right
        obtain rfl : i = keys.length := by omega
        refine ⟨fin (Val.mk 5 0 eS items (keys.map (·.str))), ?_, .inl ⟨fun j hj => hp j hj, rfl⟩⟩
        have hm := vmap_fits hl hk hs hf
        rw [decide_eq_false (show ¬ (keys.length : Int) < (keys.length : Int) by omega), cond_false, List.take_length, hn, List.take_length, m_checkE_eq hm, Option.bind_some]
        unfold fin
        by_cases e : checkE (Val.mk 5 0 eS items (keys.map (·.str))) = 0
        · rw [decide_eq_true e, if_pos e]; rfl
        · rw [decide_eq_false e, if_neg e]; rfl
    · obtain rfl : r = 1 := by omega
      rw [decide_eq_false r2, cond_false]
      have := loop_meas (body := g_r21_Collect_L2 1 keys items) (fun s => ∃ i : Nat, i ≤ keys.length ∧ s = ((i : Int), items.take i) ∧ ∀ j, j < i → KP 1 keys j) (fun s => keys.length - s.1.toNat) (fun q => (KPs 1 keys ∧ q = fin (Val.mk 4 0 eS items [])) ∨ (¬ KPs 1 keys ∧ q = (vZ, 1))) ?_ (0, []) ⟨0, Nat.zero_le _, rfl, fun j h => by omega⟩
      · obtain ⟨q, h', e⟩ := this
        rw [h']
        rcases e with ⟨e1, rfl⟩ | ⟨e1, rfl⟩
        · rw [if_pos ⟨.inl rfl, e1⟩, if_pos rfl]
        · rw [if_neg (fun q => e1 q.2)]
      rintro s ⟨i, hi, rfl, hp⟩
      unfold g_r21_Collect_L2
      simp only [decide_eq_true (show (1 : Int) = 1 by decide), cond_true]
      by_cases hlt : i < keys.length
      · have hi2 : i < items.length := by omega
        have hx : idx keys (i : Int) = some keys[i] := by rw [idx_nat, List.getElem?_eq_getElem hlt]
        have hy : idx items (i : Int) = some items[i] := by rw [idx_nat, List.getElem?_eq_getElem hi2]
        have a2 : app 80 (items.take i) [items[i]] = some (items.take (i + 1)) := by
          rw [app_of (by decide) (by simp; omega), List.take_add_one, List.getElem?_eq_getElem hi2]; rfl
        rw [decide_eq_true (show (i : Int) < (keys.length : Int) by omega), cond_true, hx]
        simp only [Option.bind_some, hy, a2, wrap_nat hlt (show keys.length ≤ 9223372036854775807 by omega)]
        have ek : (decide ((keys[i].kind : Int) = 1) && (decide ((keys[i].num : Int) = (i : Int)) && (decide (keys[i].str = eS) && true))) = eqK keys[i] (KeyG.mk 1 (i : Int) eS) := rfl
        rw [ek]
        cases e : eqK keys[i] (KeyG.mk 1 (i : Int) eS) with
        | true =>
          left
          rw [Bool.not_true, cond_false]
          refine ⟨_, rfl, ⟨i + 1, hlt, rfl, fun j hj => ?_⟩, by simp only [Int.toNat_natCast]; omega⟩
          rcases Nat.lt_succ_iff_lt_or_eq.1 hj with h | rfl
          · exact hp j h
          · rw [less_ask hlt]; exact ⟨fun _ => eqK_iff.1 e, fun q => by cases q⟩
        | false =>
          right
          rw [Bool.not_false, cond_true]
          refine ⟨_, rfl, .inr ⟨fun q => ?_, rfl⟩⟩
          have := q i hlt
          rw [less_ask hlt] at this
          rw [this.1 rfl, eqK_self] at e; cases e
      · right
        obtain rfl : i = keys.length := by omega
        refine ⟨fin (Val.mk 4 0 eS items []), ?_, .inl ⟨fun j hj => hp j hj, rfl⟩⟩
        rw [decide_eq_false (show ¬ (keys.length : Int) < (keys.length : Int) by omega), cond_false, hn, List.take_length, m_checkE_eq (vlist_fits hl hf), Option.bind_some]
        unfold fin
        by_cases e : checkE (Val.mk 4 0 eS items []) = 0
        · rw [decide_eq_true e, if_pos e]; rfl
        · rw [decide_eq_false e, if_neg e]; rfl
  · rw [decide_eq_false (show ¬ (keys.length : Int) = items.length by omega), Bool.not_false, cond_true, if_pos (by simpa using hn)]
theorem fin_fits {x : Val} (h : x.Fits) : (fin x).1.Fits := by
  unfold fin
  split
  · exact h
  · exact vZ_fits
theorem collect_fits (r : Int) (keys : List KeyG) (items : List Val) (hk : keys.length ≤ 300) (hl : items.length ≤ 300) (hs : ∀ k ∈ keys, k.str.size ≤ 140737488351232) (hf : ∀ x ∈ items, x.Fits) : (collectS r keys items).1.Fits := by
  unfold collectS
  split
  · exact vZ_fits
  split
  · split
    · cases e : items[0]? with
      | none => exact vZ_fits
      | some x => exact hf x (List.mem_of_getElem? e)
    · exact vZ_fits
  split
  · split
    · exact fin_fits (vlist_fits hl hf)
    · exact fin_fits (vmap_fits hl hk hs hf)
  · exact vZ_fits
theorem law_Collects (r : Int) (keys : List KeyG) (items : List Val) (hs : ∀ k ∈ keys, k.str.size ≤ 140737488351232) (hf : ∀ x ∈ items, x.Fits) : g_l21_InstancesCollects r keys items = some true := by
  unfold g_l21_InstancesCollects
  by_cases h1 : (keys.length : Int) > 300
  · rw [decide_eq_true h1, cond_true, awake21]; rfl
  rw [decide_eq_false h1, cond_false]
  by_cases h2 : (items.length : Int) > 300
  · rw [decide_eq_true h2, cond_true, awake21]; rfl
  rw [decide_eq_false h2, cond_false]
  have hk : keys.length ≤ 300 := by omega
  have hl : items.length ≤ 300 := by omega
  have := loop_meas (body := g_l21_InstancesCollects_L1 r keys items) (fun s => ∃ i : Nat, i ≤ items.length ∧ s = (i : Int)) (fun s => items.length - s.toNat) (fun q => q = true) ?_ 0 ⟨0, Nat.zero_le _, rfl⟩
  · obtain ⟨q, h', e⟩ := this
    rw [e] at h'; exact h'
  rintro s ⟨i, hi, rfl⟩
  unfold g_l21_InstancesCollects_L1
  by_cases hlt : i < items.length
  · rw [decide_eq_true (show (i : Int) < (items.length : Int) by omega), cond_true, idx_nat, List.getElem?_eq_getElem hlt, Option.bind_some]
    obtain ⟨b, hb, _⟩ := right_spec (hf _ (List.getElem_mem hlt))
    rw [hb, Option.bind_some]
    cases b with
    | false => right; exact ⟨true, by rw [Bool.not_false, cond_true, awake21]; rfl, rfl⟩
    | true =>
      left
      exact ⟨((i + 1 : Nat) : Int), by rw [Bool.not_true, cond_false, wrap_nat hlt (by omega)], ⟨i + 1, hlt, rfl⟩, by simp only [Int.toNat_natCast]; omega⟩
  · right
    obtain rfl : i = items.length := by omega
    refine ⟨true, ?_, rfl⟩
    obtain ⟨q, q1, q2⟩ := requal_spec (collectS r keys items).1 (collectS r keys items).1 (collect_fits r keys items hk hl hs hf)
    rw [decide_eq_false (show ¬ (items.length : Int) < (items.length : Int) by omega), cond_false, Collect_spec r keys items hk hl hs hf, Option.bind_some, rCollect_spec r keys items hk hl hs hf, Option.bind_some, decide_eq_true rfl, cond_true, q1, Option.bind_some, q2.2 rfl, cond_true, awake21]; rfl
end Abs
end Go.Proofs.YtodgepbihbcdbaaGreatDoor
