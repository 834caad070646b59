/-
  Plain laws: scopes of instances, and exactly the keys have one.
-/
import Derived.Test.YtodgepbihbcdbaaGreatDoorPlV
namespace Go.Proofs.YtodgepbihbcdbaaGreatDoor
set_option linter.unusedSimpArgs false
set_option linter.unusedVariables false
namespace Abs
open Go.RowKit
/-! ### Values made of checked ones -/
theorem Good.mono {d : Nat} {x : Val} (h : Good d x) : ∀ {e : Nat}, d ≤ e → Good e x := by
  induction h with
  | mk hn hi ih =>
    intro e hde
    obtain ⟨e', rfl⟩ : ∃ e', e = e' + 1 := ⟨e - 1, by omega⟩
    exact .mk hn fun y hy => ih y hy (by omega)
theorem check_codes {d : Nat} {x : Val} (h : Good d x) : ∀ lv n : Int, (checkV x lv n).1 = 0 ∨ (checkV x lv n).1 = 4 ∨ (checkV x lv n).1 = 14 := by
  induction h with
  | @mk d x hn hi ih =>
    intro lv n
    have hl : ∀ (l : List Val), (∀ y ∈ l, y ∈ x.items) → ∀ lv n : Int, (checkL l lv n).1 = 0 ∨ (checkL l lv n).1 = 4 ∨ (checkL l lv n).1 = 14 := by
      intro l
      induction l with
      | nil => intro _ lv n; exact .inl rfl
      | cons y r ih2 =>
        intro hm lv n
        simp only [checkL]
        split
        · exact ih y (hm y (List.mem_cons_self ..)) lv n
        · exact ih2 (fun z hz => hm z (List.mem_cons_of_mem _ hz)) lv _
    rw [checkV_eq]
    split
    · exact .inr (.inl rfl)
    split
    · exact .inr (.inr rfl)
    rw [if_neg (by simp [hn])]
    exact hl _ (fun _ h => h) _ _
theorem checkE_codes {d : Nat} {x : Val} (h : Good d x) : checkE x = 0 ∨ checkE x = 4 ∨ checkE x = 14 := check_codes h 1 0
theorem keysE_zero : ∀ (l : List ByteArray) (p : Option ByteArray), (∀ s ∈ l, vtext s = 0) → Rising l → (∀ q s, p = some q → l[0]? = some s → ltB q s = true) → keysE p l = 0
  | [], _, _, _, _ => by simp [keysE]
  | s :: r, p, ht, hr, hp => by
    have hs := ht s (List.mem_cons_self ..)
    have tail : keysE (some s) r = 0 := by
      refine keysE_zero r (some s) (fun t h => ht t (List.mem_cons_of_mem _ h)) (fun i j hij a b h1 h2 => hr (i + 1) (j + 1) (by omega) a b (by simpa using h1) (by simpa using h2)) fun q t hq h => ?_
      obtain rfl := Option.some.inj hq
      exact hr 0 1 (by omega) s t rfl (by simpa using h)
    unfold keysE
    rw [if_neg (by simp [hs])]
    cases p with
    | none => exact tail
    | some q =>
      have := hp q s rfl rfl
      rw [if_neg (by simp [this])]
      exact tail
theorem node_map {items : List Val} {keys : List ByteArray} (hl : keys.length = items.length) (ht : ∀ s ∈ keys, vtext s = 0) (hr : Rising keys) : nodeE (Val.mk 5 0 eS items keys) = 0 := by
  have e : vtext eS = 0 := by decide
  unfold nodeE
  rw [if_neg (show ¬ shapedV (Val.mk 5 0 eS items keys) = false by simp [shapedV, shapedB, numOk, strOk, itemsOk, keysOk, Val.kind, Val.num, Val.str, Val.items, Val.keys, hl]), if_neg (fun hh => by cases hh.1), if_neg (by simpa using e)]
  exact keysE_zero keys none ht hr fun q s h => by cases h
theorem keysE_texts : ∀ (l : List ByteArray) (p : Option ByteArray), keysE p l = 0 → ∀ s ∈ l, vtext s = 0
  | [], _, _, s, hs => absurd hs List.not_mem_nil
  | t :: r, p, h, s, hs => by
    unfold keysE at h
    by_cases hv : vtext t = 0
    · rw [if_neg (by simp [hv])] at h
      rcases List.mem_cons.1 hs with rfl | hs
      · exact hv
      · have key : ∀ c : Bool, (if c = true then (1 : Int) else keysE (some t) r) = 0 → keysE (some t) r = 0 := by
          intro c hc
          cases c
          · exact hc
          · exact absurd (show (1 : Int) = 0 from hc) (by decide)
        exact keysE_texts r _ (key _ h) s hs
    · rw [if_pos hv] at h; exact absurd h hv
theorem text_facts {v : Val} (h : Ck v) : vtext v.str = 0 ∧ ∀ s ∈ v.keys, vtext s = 0 := by
  have hn := node_facts (good_check h.ck).node
  exact ⟨hn.2.2.1, keysE_texts _ _ hn.2.2.2⟩
/-! ### What keys are -/
theorem names_eq : ∀ (l : List Val) (out : List ByteArray), (namesS l out).2 = 0 → (namesS l out).1 = out ++ l.map (·.str) ∧ (out.Nodup → (out ++ l.map (·.str)).Nodup)
  | [], out, _ => by simp [namesS]
  | y :: r, out, h => by
    rw [namesS_cons] at h ⊢
    by_cases h6 : y.kind = 6
    · rw [if_pos h6] at h; cases h
    rw [if_neg h6] at h ⊢
    by_cases h3 : y.kind = 3
    · rw [if_neg (by simp [h3])] at h ⊢
      by_cases hb : hasB out y.str = true
      · rw [if_pos hb] at h; cases h
      · rw [if_neg hb] at h ⊢
        obtain ⟨e1, e2⟩ := names_eq r _ h
        have hm : y.str ∉ out := fun k => hb (hasB_iff.2 k)
        refine ⟨by rw [e1]; simp, fun hn => ?_⟩
        have := e2 (by
          rw [List.nodup_append]
          exact ⟨hn, by simp, fun a ha b hb e => by rw [List.mem_singleton.1 hb] at e; subst e; exact hm ha⟩)
        simpa using this
    · rw [if_pos h3] at h; cases h
theorem asc_rising {l : List ByteArray} (h : Asc l) (hn : l.Nodup) : Rising l := by
  intro i j hij a b h1 h2
  obtain ⟨hi, rfl⟩ := List.getElem?_eq_some_iff.1 h1
  obtain ⟨hj, rfl⟩ := List.getElem?_eq_some_iff.1 h2
  have h' := List.pairwise_iff_getElem.1 h i j hi hj hij
  cases e : Op.bytesLess l[i].toList l[j].toList with
  | true => rfl
  | false =>
    have := List.pairwise_iff_getElem.1 hn i j hi hj hij
    exact absurd (ba_ext (bl_total e h')) this
/-- The keys of a repetition that is right. -/
inductive KeyForm (r : Int) : List KeyG → Prop
  | one : r = 0 → KeyForm r [KeyG.mk 0 0 eS]
  | cnt (n : Nat) : r = 1 → n ≤ 256 → KeyForm r (nkeys n)
  | str (m : List ByteArray) : r = 2 → Rising m → (∀ s ∈ m, vtext s = 0) → m.length ≤ 256 → KeyForm r (skeys m)
theorem keysS_form (r : Int) {v : Val} (h : Ck v) (hk : (keysS r v).2 = 0) : KeyForm r (keysS r v).1 := by
  unfold keysS at hk ⊢
  by_cases h0 : r = 0
  · rw [if_pos h0]; exact .one h0
  rw [if_neg h0] at hk ⊢
  by_cases h1 : r = 1
  · rw [if_pos h1] at hk ⊢
    unfold countS at hk ⊢
    by_cases c1 : v.kind = 6
    · rw [if_pos c1] at hk; cases hk
    rw [if_neg c1] at hk ⊢
    by_cases c2 : v.kind = 0
    · rw [if_pos c2] at hk; cases hk
    rw [if_neg c2] at hk ⊢
    by_cases c3 : (cvS 2 v).2 ≠ 0
    · rw [if_pos c3] at hk; cases hk
    rw [if_neg c3] at hk ⊢
    by_cases c4 : (cvS 2 v).1.num < 0
    · rw [if_pos c4] at hk; cases hk
    rw [if_neg c4] at hk ⊢
    by_cases c5 : (cvS 2 v).1.num > 256
    · rw [if_pos c5] at hk; cases hk
    rw [if_neg c5]
    exact .cnt _ h1 (by omega)
  rw [if_neg h1] at hk ⊢
  by_cases h2 : r = 2
  · rw [if_pos h2] at hk ⊢
    unfold namedS at hk ⊢
    by_cases c1 : v.kind = 6
    · rw [if_pos c1] at hk; cases hk
    rw [if_neg c1] at hk ⊢
    by_cases c2 : v.kind = 5
    · rw [if_pos c2] at hk ⊢
      by_cases c3 : v.keys.length > 256
      · rw [if_pos c3] at hk; cases hk
      rw [if_neg c3]
      exact .str _ h2 h.ok.rising (text_facts h).2 (by omega)
    rw [if_neg c2] at hk ⊢
    by_cases c3 : v.kind = 4
    · rw [if_pos c3] at hk ⊢
      by_cases c4 : (namesS v.items []).2 ≠ 0
      · rw [if_pos c4] at hk; exact absurd hk c4
      rw [if_neg c4] at hk ⊢
      by_cases c5 : (namesS v.items []).1.length > 256
      · rw [if_pos c5] at hk; cases hk
      rw [if_neg c5]
      obtain ⟨e1, e2⟩ := names_eq v.items [] (Classical.not_not.1 c4)
      have hp := sortS_perm (namesS v.items []).1
      refine .str _ h2 (asc_rising (sortS_asc _) (hp.nodup_iff.2 (by rw [e1]; exact e2 List.nodup_nil))) (fun s hs => ?_) (by rw [hp.length_eq]; omega)
      have := hp.mem_iff.1 hs
      rw [e1, List.nil_append] at this
      obtain ⟨x, hx, rfl⟩ := List.mem_map.1 this
      exact (text_facts ⟨h.ok.item x hx, check_item h.ck x hx⟩).1
    · rw [if_neg c3] at hk; cases hk
  · rw [if_neg h2] at hk; cases hk
theorem nkeys_mem {n : Nat} {k : KeyG} (h : k ∈ nkeys n) : ∃ i : Nat, i < n ∧ k = KeyG.mk 1 (i : Int) eS := by
  unfold nkeys at h
  obtain ⟨i, h1, rfl⟩ := List.mem_map.1 h
  exact ⟨i, List.mem_range.1 h1, rfl⟩
theorem skeys_mem {m : List ByteArray} {k : KeyG} (h : k ∈ skeys m) : ∃ s ∈ m, k = KeyG.mk 2 0 s := by
  unfold skeys at h
  obtain ⟨s, h1, rfl⟩ := List.mem_map.1 h
  exact ⟨s, h1, rfl⟩
theorem check_emptymap : checkE (Val.mk 5 0 eS [] []) = 0 := by
  unfold checkE
  rw [checkV_eq, if_neg (by decide), if_neg (by decide), if_neg (by rw [node_map rfl (fun s h => absurd h List.not_mem_nil) (fun i j _ a b h => by simp at h)]; decide)]
  rfl
theorem text_count : vtext bCount = 0 := by decide
theorem text_index : vtext bIndex = 0 := by decide
theorem text_each : vtext bEach = 0 := by decide
theorem text_key : vtext bKey = 0 := by decide
theorem text_value : vtext bValue = 0 := by decide
theorem valid_small {i : Nat} (h : i < 256) : NumPlain.validB (i : Int) = true := (NumPlain.validB_iff _).2 (by omega)
theorem scope_count {i : Nat} (h : i < 256) : checkE (scpS bCount [bIndex] [vNum (i : Int)]) = 0 := check_obj text_count text_index rfl (node_number (valid_small h))
theorem rising_kv : Rising [bKey, bValue] := rising_two (by rw [ByteArray.toList_eq, ByteArray.toList_eq]; decide)
theorem good_each {a b : Val} {d : Nat} (ha : Good d a) (hb : Good d b) : Good (d + 2) (scpS bEach [bKey, bValue] [a, b]) := by
  refine .mk (node_map rfl (fun s h => by rw [List.mem_singleton.1 h]; exact text_each) (rising_one _)) fun y hy => ?_
  have hy' : y ∈ [Val.mk 5 0 eS [a, b] [bKey, bValue]] := hy
  rw [List.mem_singleton.1 hy']
  refine .mk (node_map rfl (fun s h => ?_) rising_kv) fun z hz => ?_
  · simp at h; rcases h with rfl | rfl
    · exact text_key
    · exact text_value
  · rw [items_mk] at hz
    simp at hz; rcases hz with rfl | rfl
    · exact ha
    · exact hb
/-! ### The reference's scopes -/
theorem one_eq (key : ByteArray) (x : Val) : g_r21_one key x = some (Val.mk 5 0 eS [x] [key]) := rfl
theorem any_hasK (l : List KeyG) (k : KeyG) : (l.any fun x => eqK x k) = hasK l k := by
  unfold hasK
  congr 1
  funext x
  cases e : eqK k x with
  | true => rw [eqK_iff.1 e, eqK_self]
  | false =>
    cases e2 : eqK x k with
    | false => rfl
    | true => rw [eqK_iff.1 e2, eqK_self] at e; cases e
theorem found_next {l : List KeyG} {k : KeyG} {i : Nat} (hi : i < l.length) : ((l.take (i + 1)).any fun x => eqK x k) = (((l.take i).any fun x => eqK x k) || eqK l[i] k) := by
  rw [List.take_add_one, List.getElem?_eq_getElem hi, List.any_append]; simp
theorem fin_ok {x : Val} (h : checkE x = 0) : fin x = (x, 0) := by unfold fin; rw [if_pos h]
theorem rScope_spec (r : Int) {v : Val} (h : Ck v) {k : KeyG} (hk : KFits k) : g_r21_Scope r v k = some (scopeS r v k) := by
  unfold g_r21_Scope
  rw [rKeys_spec r h, Option.bind_some]
  by_cases he : (keysS r v).2 = 0
  · rw [decide_eq_true he, Bool.not_true, cond_false]
    have hlen := keysS_len r v
    have := loop_meas (body := g_r21_Scope_L1 r v k (keysS r v)) (fun s => ∃ i : Nat, i ≤ (keysS r v).1.length ∧ s = (((keysS r v).1.take i).any fun x => eqK x k, (i : Int))) (fun s => (keysS r v).1.length - s.2.toNat) (fun q => q = scopeS r v k) ?_ (false, 0) ⟨0, Nat.zero_le _, rfl⟩
    · obtain ⟨q, h', e⟩ := this
      rw [e] at h'; exact h'
    rintro s ⟨i, hi, rfl⟩
    unfold g_r21_Scope_L1
    simp only
    by_cases hlt : i < (keysS r v).1.length
    · left
      refine ⟨(((keysS r v).1.take (i + 1)).any fun x => eqK x k, ((i + 1 : Nat) : Int)), ?_, ⟨i + 1, hlt, rfl⟩, by simp only [Int.toNat_natCast]; omega⟩
      rw [decide_eq_true (show (i : Int) < ((keysS r v).1.length : Int) by omega), cond_true, found_next hlt, wrap_nat hlt (by omega), idx_nat, List.getElem?_eq_getElem hlt, Option.bind_some]
      cases ((keysS r v).1.take i).any fun x => eqK x k <;> rfl
    · right
      obtain rfl : i = (keysS r v).1.length := by omega
      refine ⟨_, ?_, rfl⟩
      rw [decide_eq_false (show ¬ ((keysS r v).1.length : Int) < ((keysS r v).1.length : Int) by omega), cond_false, List.take_length, any_hasK]
      unfold scopeS
      rw [if_neg (by simp [he])]
      cases hc : hasK (keysS r v).1 k with
      | false => rfl
      | true =>
        rw [Bool.not_true, cond_false, if_pos rfl]
        have hf := scope_fits r h hk
        have hm := hasK_iff.1 hc
        obtain ⟨l, hl⟩ : ∃ l, (keysS r v).1 = l := ⟨_, rfl⟩
        have hform : KeyForm r l := hl ▸ keysS_form r h he
        cases hform with
        | one r0 =>
          unfold scopeV
          rw [decide_eq_true r0, cond_true, if_neg (by omega), if_neg (by omega), fin_ok check_emptymap]
        | cnt n r1 hn =>
          rw [hl] at hm
          obtain ⟨i, hi, rfl⟩ := nkeys_mem hm
          unfold scopeV
          rw [decide_eq_false (show ¬ r = 0 by omega), cond_false, decide_eq_true r1, cond_true, if_pos r1, fin_ok (scope_count (by omega))]
          rfl
        | str m r2 _ _ _ =>
          unfold scopeV at hf ⊢
          rw [if_neg (by omega), if_pos r2] at hf ⊢
          rw [decide_eq_false (show ¬ r = 0 by omega), cond_false, decide_eq_false (show ¬ r = 1 by omega), cond_false]
          by_cases h5 : v.kind = 5
          · rw [if_pos h5] at hf ⊢
            rw [decide_eq_true h5, cond_true, get07_full v k.str h.ok.1 h5 (h.ok.shape.2.2.2.2.2.2.1 h5), Option.bind_some, one_eq, Option.bind_some]
            show (m_checkE (scpS bEach [bKey, bValue] [vText k.str, look v.keys v.items k.str])).bind _ = _
            rw [m_checkE_eq hf, Option.bind_some]
            unfold fin
            by_cases e : checkE (scpS bEach [bKey, bValue] [vText k.str, look v.keys v.items k.str]) = 0
            · rw [decide_eq_true e, if_pos e]; rfl
            · rw [decide_eq_false e, if_neg e]; rfl
          · rw [if_neg h5] at hf ⊢
            rw [decide_eq_false h5, cond_false, one_eq, Option.bind_some]
            show (m_checkE (scpS bEach [bKey, bValue] [vText k.str, vText k.str])).bind _ = _
            rw [m_checkE_eq hf, Option.bind_some]
            unfold fin
            by_cases e : checkE (scpS bEach [bKey, bValue] [vText k.str, vText k.str]) = 0
            · rw [decide_eq_true e, if_pos e]; rfl
            · rw [decide_eq_false e, if_neg e]; rfl
  · rw [decide_eq_false he, Bool.not_false, cond_true]
    unfold scopeS
    rw [if_pos he]
theorem scopeS_fits (r : Int) {v : Val} (h : Ck v) {k : KeyG} (hk : KFits k) : (scopeS r v k).1.Fits := by
  unfold scopeS
  split
  · exact vZ_fits
  split
  · unfold fin
    split
    · exact scope_fits r h hk
    · exact vZ_fits
  · exact vZ_fits
theorem law_Scopes (r : Int) (v : Val) (k : KeyG) (hv : v.Fits) (hk : KFits k) : g_l21_InstancesScopes r v k = some true := by
  unfold g_l21_InstancesScopes
  obtain ⟨b, hb, hb2⟩ := right_spec hv
  rw [hb, Option.bind_some]
  cases b with
  | false => rw [Bool.not_false, cond_true, awake21]; rfl
  | true =>
    have hc := (hb2 rfl).1
    obtain ⟨q, q1, q2⟩ := requal_spec (scopeS r v k).1 (scopeS r v k).1 (scopeS_fits r hc hk)
    rw [Bool.not_true, cond_false, Scope_spec r hc hk, Option.bind_some, rScope_spec r hc hk, Option.bind_some, decide_eq_true rfl, cond_true, q1, Option.bind_some, q2.2 rfl, cond_true, awake21]; rfl
/-! ### Exactly the keys have a scope -/
theorem get_one (root : ByteArray) (x : Val) (hx : x.Fits) (hr : root.size ≤ 140737488351232) : g_value_Get (Val.mk 5 0 eS [x] [root]) root = some (x, true) := by
  rw [get_full _ root (fits_map (by simp) (by simp) (fun s h => by rw [List.mem_singleton.1 h]; exact hr) (fun y h => by rw [List.mem_singleton.1 h]; exact hx)) rfl rfl (rising_one root)]
  have e1 : look [root] [x] root = x := by simp [look]
  have e2 : hasB [root] root = true := hasB_iff.2 (by simp)
  show some (look [root] [x] root, hasB [root] root) = _
  rw [e1, e2]
theorem get_first (a b : Val) (ha : a.Fits) (hb : b.Fits) : g_value_Get (Val.mk 5 0 eS [a, b] [bKey, bValue]) bKey = some (a, true) := by
  rw [get_full _ bKey (fits_map (by simp) (by simp) (fun s h => by simp at h; rcases h with rfl | rfl <;> decide) (fun y h => by simp at h; rcases h with rfl | rfl <;> assumption)) rfl rfl rising_kv]
  have e1 : look [bKey, bValue] [a, b] bKey = a := by simp [look]
  have e2 : hasB [bKey, bValue] bKey = true := hasB_iff.2 (by simp)
  show some (look [bKey, bValue] [a, b] bKey, hasB [bKey, bValue] bKey) = _
  rw [e1, e2]
theorem vequal_refl {x : Val} (h : x.Fits) : t_value_Equal x x = some true := by
  obtain ⟨q, q1, q2⟩ := value_equal_spec x x h
  rw [q1, q2.2 rfl]
theorem law_Only (r : Int) (v : Val) (k : KeyG) (hv : v.Fits) (hk : KFits k) : g_l21_InstancesOnly r v k = some true := by
  unfold g_l21_InstancesOnly
  rw [show m_small v 200 = some (smallV v 200) from gd_of ⟨hv, by decide, by decide⟩, Option.bind_some]
  cases smallV v 200 with
  | false => rw [Bool.not_false, cond_true, awake21]; rfl
  | true =>
    rw [Bool.not_true, cond_false, m_checkE_eq hv, Option.bind_some]
    by_cases hc0 : checkE v = 0
    · have hc := ck_of hv hc0
      rw [decide_eq_true hc0, Bool.not_true, cond_false, Keys_spec r hc, Option.bind_some, Scope_spec r hc hk, Option.bind_some]
      by_cases he : (keysS r v).2 = 0
      · rw [decide_eq_true he, Bool.not_true, cond_false]
        have hlen := keysS_len r v
        have := loop_meas (body := g_l21_InstancesOnly_L1 k (keysS r v) (scopeS r v k)) (fun s => ∃ i : Nat, i ≤ (keysS r v).1.length ∧ s = (((keysS r v).1.take i).any fun x => eqK x k, (i : Int))) (fun s => (keysS r v).1.length - s.2.toNat) (fun q => q = true) ?_ (false, 0) ⟨0, Nat.zero_le _, rfl⟩
        · obtain ⟨q, h', e⟩ := this
          rw [e] at h'; exact h'
        rintro s ⟨i, hi, rfl⟩
        unfold g_l21_InstancesOnly_L1
        simp only
        by_cases hlt : i < (keysS r v).1.length
        · left
          refine ⟨(((keysS r v).1.take (i + 1)).any fun x => eqK x k, ((i + 1 : Nat) : Int)), ?_, ⟨i + 1, hlt, rfl⟩, by simp only [Int.toNat_natCast]; omega⟩
          rw [decide_eq_true (show (i : Int) < ((keysS r v).1.length : Int) by omega), cond_true, found_next hlt, wrap_nat hlt (by omega), idx_nat, List.getElem?_eq_getElem hlt, Option.bind_some]
          cases ((keysS r v).1.take i).any fun x => eqK x k <;> rfl
        · right
          obtain rfl : i = (keysS r v).1.length := by omega
          refine ⟨true, ?_, rfl⟩
          rw [decide_eq_false (show ¬ ((keysS r v).1.length : Int) < ((keysS r v).1.length : Int) by omega), cond_false, List.take_length, any_hasK]
          cases hc : hasK (keysS r v).1 k with
          | false =>
            have e : scopeS r v k = (vZ, 16) := by unfold scopeS; rw [if_neg (by simp [he]), if_neg (by simp [hc])]
            rw [Bool.not_false, cond_true, e, decide_eq_true rfl, cond_true, awake21]; rfl
          | true =>
            have e : scopeS r v k = fin (scopeV r v k) := by unfold scopeS; rw [if_neg (by simp [he]), if_pos hc]
            rw [Bool.not_true, cond_false, e]
            have hm := hasK_iff.1 hc
            have hck : Ck v := ck_of hv hc0
            obtain ⟨l, hl⟩ : ∃ l, (keysS r v).1 = l := ⟨_, rfl⟩
            have hform : KeyForm r l := hl ▸ keysS_form r hck he
            cases hform with
            | one r0 =>
              rw [hl] at hm
              obtain rfl := List.mem_singleton.1 hm
              have e2 : fin (scopeV r v (KeyG.mk 0 0 eS)) = (Val.mk 5 0 eS [] [], 0) := by
                unfold scopeV
                rw [if_neg (by omega), if_neg (by omega), fin_ok check_emptymap]
              rw [e2]
              show (g_l21_awake).bind _ = _
              rw [awake21]; rfl
            | cnt n r1 hn =>
              rw [hl] at hm
              obtain ⟨i, hi, rfl⟩ := nkeys_mem hm
              have fn : (vNum (i : Int)).Fits := fits_simple (by decide) (by omega) eS_size
              have e2 : fin (scopeV r v (KeyG.mk 1 (i : Int) eS)) = (scpS bCount [bIndex] [vNum (i : Int)], 0) := by
                unfold scopeV
                rw [if_pos r1, fin_ok (scope_count (by omega))]
              rw [e2]
              show ((g_value_Get (scpS bCount [bIndex] [vNum (i : Int)]) bCount).bind _) = _
              rw [show g_value_Get (scpS bCount [bIndex] [vNum (i : Int)]) bCount = some (Val.mk 5 0 eS [vNum (i : Int)] [bIndex], true) from get_one bCount _ (fits_map (by simp) (by simp) (fun s h => by rw [List.mem_singleton.1 h]; decide) (fun y h => by rw [List.mem_singleton.1 h]; exact fn)) (by decide), Option.bind_some]
              show ((g_value_Get (Val.mk 5 0 eS [vNum (i : Int)] [bIndex]) bIndex).bind _) = _
              rw [get_one bIndex _ fn (by decide), Option.bind_some, cond_true]
              show ((t_value_Equal (vNum (i : Int)) (vNum (i : Int))).bind _) = _
              rw [vequal_refl fn, Option.bind_some, cond_true, awake21]; rfl
            | str m r2 hr ht hml =>
              rw [hl] at hm
              obtain ⟨s, hs, rfl⟩ := skeys_mem hm
              have fs : (vText s).Fits := fits_simple (by decide) (by decide) hk.2
              have hkt : Ck (vText s) := vText_ck (ht s hs) hk.2
              obtain ⟨x, hx, hxe⟩ : ∃ x, Ck x ∧ scopeV r v (KeyG.mk 2 0 s) = scpS bEach [bKey, bValue] [vText s, x] := by
                unfold scopeV
                rw [if_neg (by omega), if_pos r2]
                by_cases h5 : v.kind = 5
                · exact ⟨look v.keys v.items s, hck.look s, by rw [if_pos h5]⟩
                · exact ⟨vText s, hkt, by rw [if_neg h5]⟩
              rw [hxe]
              have hcodes := checkE_codes (good_each (good_check hkt.ck) (good_check hx.ck))
              by_cases e0 : checkE (scpS bEach [bKey, bValue] [vText s, x]) = 0
              · rw [fin_ok e0]
                show ((g_value_Get (scpS bEach [bKey, bValue] [vText s, x]) bEach).bind _) = _
                rw [show g_value_Get (scpS bEach [bKey, bValue] [vText s, x]) bEach = some (Val.mk 5 0 eS [vText s, x] [bKey, bValue], true) from get_one bEach _ (fits_map (by simp) (by simp) (fun t h => by simp at h; rcases h with rfl | rfl <;> decide) (fun y h => by simp at h; rcases h with rfl | rfl <;> first | exact fs | exact hx.ok.1)) (by decide), Option.bind_some]
                show ((g_value_Get (Val.mk 5 0 eS [vText s, x] [bKey, bValue]) bKey).bind _) = _
                rw [get_first _ _ fs hx.ok.1, Option.bind_some, cond_true]
                show ((t_value_Equal (vText s) (vText s)).bind _) = _
                rw [vequal_refl fs, Option.bind_some, cond_true, awake21]; rfl
              · have e3 : fin (scpS bEach [bKey, bValue] [vText s, x]) = (vZ, checkE (scpS bEach [bKey, bValue] [vText s, x])) := by unfold fin; rw [if_neg e0]
                rw [e3]
                simp only
                rw [decide_eq_false e0, Bool.not_false, cond_true]
                rcases hcodes with c | c | c
                · exact absurd c e0
                · rw [decide_eq_true c, cond_true, awake21]; rfl
                · rw [decide_eq_false (show ¬ checkE (scpS bEach [bKey, bValue] [vText s, x]) = 4 by omega), cond_false, decide_eq_true c, cond_true, awake21]; rfl
      · have e : scopeS r v k = (vZ, (keysS r v).2) := by unfold scopeS; rw [if_pos he]
        rw [decide_eq_false he, Bool.not_false, cond_true, e, decide_eq_true rfl, cond_true, awake21]; rfl
    · rw [decide_eq_false hc0, Bool.not_false, cond_true, awake21]; rfl
end Abs
end Go.Proofs.YtodgepbihbcdbaaGreatDoor
