/-
  Simple conversions of checked values; loops that search; known values; three-valued equality.
-/
import Derived.Test.YtodgepbihbcdbaaGreatDoorPlZ
namespace Go.Proofs.YtodgepbihbcdbaaGreatDoor
set_option linter.unusedSimpArgs false
set_option linter.unusedVariables false
namespace Abs
open Go.RowKit
abbrev vU : Val := Val.mk 6 0 eS [] []
def bV (b : Bool) : Val := Val.mk 1 (if b then 1 else 0) eS [] []
/-- A checked value. -/
structure Ck (v : Val) : Prop where
  ok : Vok v
  ck : checkE v = 0
theorem vU_of {v : Val} (h : Vok v) (h6 : v.kind = 6) : v = vU := by
  obtain ⟨s0, s1, s2, s3, s4, s5, s6, s7⟩ := h.shape
  exact val_ext h6 (s2 (by omega) (by omega)) (s4 (by omega)) (s5 (by omega) (by omega)) (s7 (by omega))
theorem node_U : nodeE vU = 0 := by
  have e : vtext eS = 0 := by decide
  unfold nodeE
  rw [if_neg (show ¬ shapedV vU = false by simp [shapedV, shapedB, numOk, strOk, itemsOk, keysOk, Val.kind, Val.num, Val.str, Val.items, Val.keys]), if_neg (fun hh => by cases hh.1), if_neg (by simpa using e)]
  rfl
theorem vU_fits : vU.Fits := fits_simple (by decide) (by decide) eS_size
theorem vU_ck : Ck vU := ⟨vok_of vU_fits (check_simple node_U), check_simple node_U⟩
theorem bV_ck (b : Bool) : Ck (bV b) := by
  have h : checkE (bV b) = 0 := check_simple (node_bool2 _ (by cases b <;> simp))
  exact ⟨vok_of (fits_simple (by decide) (by cases b <;> decide) eS_size) h, h⟩
theorem vNum_ck {n : Int} (h : NumPlain.validB n = true) : Ck (vNum n) := ⟨vNum_ok h, check_simple (node_number h)⟩
theorem vText_ck {s : ByteArray} (h : vtext s = 0) (hs : s.size ≤ 140737488351232) : Ck (vText s) := ⟨vok_of (fits_simple (by decide) (by decide) hs) (check_simple (node_text h)), check_simple (node_text h)⟩
theorem parse_valid {s : ByteArray} (h : (NumPlain.parseB s).2 = 0) : NumPlain.validB (NumPlain.parseB s).1 = true := by
  unfold NumPlain.parseB NumPlain.parse at h ⊢
  split at h
  · rename_i hc
    rw [if_pos hc]
    rcases NumPlain.right_cases (NumPlain.sval s.data.toList) with ⟨e, hv⟩ | e
    · rw [e]; exact hv
    · rw [e] at h; cases h
  · cases h
theorem fmtB_size {n : Int} (h : -9223372036854775808 ≤ n ∧ n ≤ 9223372036854775807) : (fmtB n).size ≤ 140737488351232 := by
  have := itoa_len' n h.1 (by omega)
  unfold fmtB
  rw [← ByteArray.size_data, List.size_toArray]; omega
/-- The simple conversion of a value that is not null. -/
noncomputable def cvS (k : Int) (v : Val) : Val × Int := if v.kind = 0 then (vZ, 6) else toS (Ty.mk k [] []) v
/-- What it comes to. -/
inductive Sc (k : Int) (v : Val) : Prop
  | unk : v = vU → cvS k v = (vU, 0) → Sc k v
  | val {x : Val} : v.kind ≠ 6 → v.items = [] → x.items = [] → x.kind = k → Ck x → cvS k v = (x, 0) → Sc k v
  | bad : v.kind ≠ 6 → cvS k v = (vZ, 6) → Sc k v
theorem cvS_cases {k : Int} (hk : k = 1 ∨ k = 2 ∨ k = 3) {v : Val} (h : Ck v) : Sc k v := by
  obtain ⟨hv, hc⟩ := h
  obtain ⟨f1, f2, f3, f4, f5, f6, f7⟩ := hv.1.parts
  obtain ⟨s0, s1, s2, s3, s4, s5, s6, s7⟩ := hv.shape
  by_cases h6 : v.kind = 6
  · obtain rfl := vU_of hv h6
    refine .unk rfl ?_
    unfold cvS
    rw [if_neg (by decide), toS_eq, if_pos (.inr (.inr rfl))]
  by_cases h0 : v.kind = 0
  · exact .bad h6 (by unfold cvS; rw [if_pos h0])
  have e : cvS k v = toS (Ty.mk k [] []) v := by unfold cvS; rw [if_neg h0]
  have self : v.kind = k → toS (Ty.mk k [] []) v = (v, 0) → Sc k v := fun h1 h2 => .val h6 (s5 (by omega) (by omega)) (s5 (by omega) (by omega)) h1 ⟨hv, hc⟩ (e.trans h2)
  rcases hk with rfl | rfl | rfl
  · rw [toS_bool v h0 h6] at e self
    unfold primS g_convert_toBool at e self
    by_cases h1 : v.kind = 1
    · rw [decide_eq_true h1] at self; exact self h1 rfl
    rw [decide_eq_false h1, cond_false] at e
    by_cases h3 : v.kind = 3
    case neg => rw [decide_eq_false h3] at e; exact .bad h6 e
    rw [decide_eq_true h3, cond_true] at e
    have hi := s5 (by omega) (by omega)
    cases hd : decide (v.str = (⟨#[116, 114, 117, 101]⟩ : ByteArray))
    · rw [hd, cond_false] at e
      cases hd2 : decide (v.str = (⟨#[102, 97, 108, 115, 101]⟩ : ByteArray))
      · rw [hd2] at e; exact .bad h6 e
      · rw [hd2] at e; exact .val h6 hi rfl rfl (bV_ck false) e
    · rw [hd] at e; exact .val h6 hi rfl rfl (bV_ck true) e
  · rw [toS_num v h0 h6] at e self
    unfold primS g_convert_toNumber at e self
    by_cases h1 : v.kind = 2
    · rw [decide_eq_true h1] at self; exact self h1 rfl
    rw [decide_eq_false h1, cond_false] at e
    by_cases h3 : v.kind = 3
    case neg => rw [decide_eq_false h3] at e; exact .bad h6 e
    rw [decide_eq_true h3, Bool.not_true, cond_false, show m_parse v.str = some (NumPlain.parseB v.str) from gd_of (by omega), Option.bind_some] at e
    have hi := s5 (by omega) (by omega)
    by_cases hp : (NumPlain.parseB v.str).2 = 0
    · rw [decide_eq_true hp] at e
      exact .val h6 hi rfl rfl (vNum_ck (parse_valid hp)) e
    · rw [decide_eq_false hp] at e; exact .bad h6 e
  · rw [toS_str v h0 h6] at e self
    unfold primS g_convert_toString at e self
    by_cases h1 : v.kind = 3
    · rw [decide_eq_true h1] at self; exact self h1 rfl
    rw [decide_eq_false h1, cond_false] at e
    by_cases h2 : v.kind = 2
    · rw [decide_eq_true h2, cond_true, show m_format v.num = some (fmtB v.num) from gd_of f2, Option.bind_some] at e
      exact .val h6 (s5 (by omega) (by omega)) rfl rfl (vText_ck (vtext_num _ f2) (fmtB_size f2)) e
    rw [decide_eq_false h2, cond_false] at e
    by_cases h3 : v.kind = 1
    · rw [decide_eq_true h3, cond_true] at e
      have hi := s5 (by omega) (by omega)
      cases hd : decide (v.num = 1)
      · rw [hd] at e; exact .val h6 hi rfl rfl (vText_ck textfalse (by decide)) e
      · rw [hd] at e; exact .val h6 hi rfl rfl (vText_ck texttrue (by decide)) e
    · rw [decide_eq_false h3] at e; exact .bad h6 e
/-- It refines with the value, or is the same. -/
theorem cvS_refs {k : Int} {y v : Val} (hv : v.items = [] ∨ ∀ z : Val, z.kind = v.kind → cvS k z = cvS k v) (hr : Refs y v) : v.kind = 6 ∨ cvS k y = cvS k v := by
  by_cases h6 : v.kind = 6
  · exact .inl h6
  obtain ⟨a1, a2, a3, a4, a5, a6⟩ := refs_inv hr h6
  rcases hv with hv | hv
  · right
    have : y = v := val_ext a1 a2 a3 (by rw [hv] at a5 ⊢; exact List.length_eq_zero_iff.1 (by simpa using a5)) a4
    rw [this]
  · exact .inr (hv y a1)
theorem toE_sc {k : Int} (hk : k = 1 ∨ k = 2 ∨ k = 3) {v : Val} (h : Ck v) (h0 : v.kind ≠ 0) : toE v (Ty.mk k [] []) = cvS k v := by
  have e : cvS k v = toS (Ty.mk k [] []) v := by unfold cvS; rw [if_neg h0]
  cases cvS_cases hk h with
  | unk h1 h2 =>
    rw [h2] at e
    rw [toE_good (by rw [← e]) (by rw [← e]; exact vU_ck.ck), ← e, h2]
  | val _ _ _ _ hx h2 =>
    rw [h2] at e
    rw [toE_good (by rw [← e]) (by rw [← e]; exact hx.ck), ← e, h2]
  | bad _ h2 =>
    rw [h2] at e
    rw [toE_bad (by rw [← e]; decide), ← e, h2]
theorem To_sc {k : Int} (hk : k = 1 ∨ k = 2 ∨ k = 3) {v : Val} (h : Ck v) (h0 : v.kind ≠ 0) : g_convert_To v (Ty.mk k [] []) = some (cvS k v) := by
  rw [To_spec v _ (tok_simple (by omega)) h.ok, toE_sc hk h h0]
theorem rTo_sc {k : Int} (hk : k = 1 ∨ k = 2 ∨ k = 3) {v : Val} (h : Ck v) (h0 : v.kind ≠ 0) : g_r11_To v (Ty.mk k [] []) = some (cvS k v) := by
  have e : cvS k v = toS (Ty.mk k [] []) v := by unfold cvS; rw [if_neg h0]
  unfold g_r11_To
  rw [rto_spec _ v (tok_simple (by omega)) h.ok, ← e]
  cases cvS_cases hk h with
  | unk h1 h2 =>
    rw [h2, Option.bind_some, show m_checkE vU = some (checkE vU) from gd_of vU_fits, vU_ck.ck]; rfl
  | @val x _ _ _ _ hx h2 =>
    rw [h2, Option.bind_some, show m_checkE x = some (checkE x) from gd_of hx.ok.1, hx.ck]; rfl
  | bad _ h2 => rw [h2]; rfl
/-! ### Loops -/
/-- A loop that seeks the first element of a kind. -/
theorem loop_first {α : Type} (l : List α) (p : α → Bool) {body : Int → Option (Int ⊕ Int)} (hl : l.length ≤ 9223372036854775807)
    (step : ∀ (i : Nat) x, i < l.length → l[i]? = some x → body (i : Int) = some (if p x then .inr (i : Int) else .inl (IntKind.i64.wrap ((i : Int) + 1)))) (stop : body (l.length : Int) = some (.inr (-1))) :
    ∃ n : Int, loopO body 0 = some n ∧ decide (n ≥ 0) = l.any p := by
  refine loop_meas (body := body) (fun s => ∃ i : Nat, s = (i : Int) ∧ i ≤ l.length ∧ (l.drop i).any p = l.any p) (fun s => l.length - s.toNat) (fun n => decide (n ≥ 0) = l.any p) ?_ 0 ⟨0, rfl, Nat.zero_le _, by simp⟩
  rintro s ⟨i, rfl, hi, hp⟩
  rcases Nat.eq_or_lt_of_le hi with h0 | h0
  · subst h0
    refine .inr ⟨-1, stop, ?_⟩
    rw [← hp, List.drop_length]; rfl
  · have hx := List.getElem?_eq_getElem h0
    have hs := step i _ h0 hx
    rw [List.drop_eq_getElem_cons h0, List.any_cons] at hp
    cases hq : p l[i] with
    | true =>
      rw [hq, if_pos rfl] at hs
      refine .inr ⟨_, hs, ?_⟩
      rw [← hp, hq]; simp
    | false =>
      rw [hq, if_neg (by decide), wrap_nat h0 hl] at hs
      refine .inl ⟨_, hs, ⟨i + 1, rfl, h0, ?_⟩, by simp only [Int.toNat_natCast]; omega⟩
      rw [← hp, hq]; rfl
/-- A loop that asks a question of every index. -/
theorem loop_ask {O : Type} {body : Int → Option (Int ⊕ O)} (n : Nat) (p : Nat → Prop) (yes no : O) (hn : n ≤ 9223372036854775807)
    (step : ∀ i : Nat, i < n → (p i ∧ body (i : Int) = some (.inl (IntKind.i64.wrap ((i : Int) + 1)))) ∨ (¬ p i ∧ body (i : Int) = some (.inr no)))
    (stop : body (n : Int) = some (.inr yes)) : (loopO body 0 = some yes ∧ ∀ i, i < n → p i) ∨ (loopO body 0 = some no ∧ ∃ i, i < n ∧ ¬ p i) := by
  have := loop_meas (body := body) (fun s => ∃ i : Nat, s = (i : Int) ∧ i ≤ n ∧ ∀ j, j < i → p j) (fun s => n - s.toNat) (fun q => (q = yes ∧ ∀ i, i < n → p i) ∨ (q = no ∧ ∃ i, i < n ∧ ¬ p i)) (by
    rintro s ⟨i, rfl, hi, hp⟩
    rcases Nat.eq_or_lt_of_le hi with h0 | h0
    · subst h0
      exact .inr ⟨yes, stop, .inl ⟨rfl, hp⟩⟩
    · rcases step i h0 with ⟨h1, h2⟩ | ⟨h1, h2⟩
      · rw [wrap_nat h0 hn] at h2
        refine .inl ⟨_, h2, ⟨i + 1, rfl, h0, fun j hj => ?_⟩, ?_⟩
        · rcases Nat.eq_or_lt_of_le (Nat.le_of_lt_succ hj) with rfl | h
          · exact h1
          · exact hp j h
        · simp only [Int.toNat_natCast]; omega
      · exact .inr ⟨no, h2, .inr ⟨rfl, i, h0, h1⟩⟩) 0 ⟨0, rfl, Nat.zero_le _, fun j hj => by omega⟩
  obtain ⟨q, h1, ⟨rfl, h⟩ | ⟨rfl, h⟩⟩ := this
  · exact .inl ⟨h1, h⟩
  · exact .inr ⟨h1, h⟩
/-! ### Known values -/
mutual
def knownV : Val → Bool
  | .mk k _ _ items _ => decide (k ≠ 6) && knownL items
def knownL : List Val → Bool
  | [] => true
  | x :: r => knownV x && knownL r
end
theorem knownL_all : ∀ l : List Val, knownL l = l.all knownV
  | [] => rfl
  | x :: r => by rw [knownL, knownL_all r, List.all_cons]
theorem knownV_eq (v : Val) : knownV v = (decide (v.kind ≠ 6) && v.items.all knownV) := by
  cases v; rw [knownV, knownL_all]; rfl
theorem knownV_item {v : Val} (h : knownV v = true) : ∀ x ∈ v.items, knownV x = true := by
  rw [knownV_eq, Bool.and_eq_true] at h
  exact List.all_eq_true.1 h.2
theorem knownV_kind {v : Val} (h : knownV v = true) : v.kind ≠ 6 := by
  rw [knownV_eq, Bool.and_eq_true] at h
  simpa using h.1
/-- With known arguments nothing is left to be refined. -/
theorem refs_known (a : Val) : ∀ b, knownV b = true → Refs a b → a = b := by
  induction a using wfV.induction with
  | h a ih =>
    intro b hb hr
    obtain ⟨a1, a2, a3, a4, a5, a6⟩ := refs_inv hr (knownV_kind hb)
    refine val_ext a1 a2 a3 (list_ext a5 fun i hi => ?_) a4
    have hib : i < b.items.length := by omega
    rw [List.getElem?_eq_getElem hi, List.getElem?_eq_getElem hib]
    exact congrArg some (ih _ (List.getElem_mem hi) _ (knownV_item hb _ (List.getElem_mem hib)) (a6 i _ _ (List.getElem?_eq_getElem hi) (List.getElem?_eq_getElem hib)))
/-! ### Equality -/
mutual
/-- Are two values equal? none: not known. -/
def eqS : Val → Val → Option Bool
  | .mk k n s items keys, b => if k = 6 ∨ b.kind = 6 then none else if k ≠ b.kind ∨ n ≠ b.num ∨ s ≠ b.str ∨ items.length ≠ b.items.length ∨ keys ≠ b.keys then some false else eqL items b.items
def eqL : List Val → List Val → Option Bool
  | [], _ => some true
  | x :: r, l => match l with
    | [] => some true
    | y :: t => match eqS x y with
      | some false => some false
      | some true => eqL r t
      | none => match eqL r t with
        | some false => some false
        | _ => none
end
theorem eqS_eq (a b : Val) : eqS a b = if a.kind = 6 ∨ b.kind = 6 then none else if a.kind ≠ b.kind ∨ a.num ≠ b.num ∨ a.str ≠ b.str ∨ a.items.length ≠ b.items.length ∨ a.keys ≠ b.keys then some false else eqL a.items b.items := by
  cases a; rw [eqS]; rfl
def cmb (kn : Bool) (q : Option Bool) : Option Bool := if kn then q else match q with | some false => some false | _ => none
theorem eqL_cons (x y : Val) (r t : List Val) : eqL (x :: r) (y :: t) = match eqS x y with
      | some false => some false
      | some true => eqL r t
      | none => cmb false (eqL r t) := by
  rw [eqL]
  cases eqS x y with
  | none => rfl
  | some q => cases q <;> rfl
theorem cmb_none (kn : Bool) (q : Option Bool) : cmb kn (cmb false q) = cmb false q := by
  cases kn with
  | true => rfl
  | false => cases q with
    | none => rfl
    | some b => cases b <;> rfl
theorem eqL_known : ∀ (l m : List Val), (∀ x ∈ l, ∀ y ∈ m, ∃ q, eqS x y = some q ∧ (q = true ↔ x = y)) → l.length = m.length → ∃ q, eqL l m = some q ∧ (q = true ↔ l = m)
  | [], [], _, _ => ⟨true, by rw [eqL], by simp⟩
  | x :: r, y :: t, h, hl => by
    obtain ⟨q, h1, h2⟩ := h x (by simp) y (by simp)
    rw [eqL_cons, h1]
    cases q with
    | false => exact ⟨false, rfl, by simp only [Bool.false_eq_true, false_iff] at h2 ⊢; exact fun e => h2 (by cases e; rfl)⟩
    | true =>
      obtain ⟨q, h3, h4⟩ := eqL_known r t (fun a ha b hb => h a (by simp [ha]) b (by simp [hb])) (by simpa using hl)
      obtain rfl := h2.1 rfl
      exact ⟨q, h3, by rw [h4]; simp⟩
  | [], _ :: _, _, hl => by simp at hl
  | _ :: _, [], _, hl => by simp at hl
theorem eqS_known (a : Val) : ∀ b, knownV a = true → knownV b = true → ∃ q, eqS a b = some q ∧ (q = true ↔ a = b) := by
  induction a using wfV.induction with
  | h a ih =>
    intro b ha hb
    have ka := knownV_kind ha
    have kb := knownV_kind hb
    rw [eqS_eq, if_neg (by omega)]
    split
    · rename_i h
      refine ⟨false, rfl, ?_⟩
      simp only [Bool.false_eq_true, false_iff]
      rintro rfl; simp at h
    · rename_i h
      have h1 : a.kind = b.kind := Classical.not_not.1 fun q => h (.inl q)
      have h2 : a.num = b.num := Classical.not_not.1 fun q => h (.inr (.inl q))
      have h3 : a.str = b.str := Classical.not_not.1 fun q => h (.inr (.inr (.inl q)))
      have h4 : a.items.length = b.items.length := Classical.not_not.1 fun q => h (.inr (.inr (.inr (.inl q))))
      have h5 : a.keys = b.keys := Classical.not_not.1 fun q => h (.inr (.inr (.inr (.inr q))))
      obtain ⟨q, e1, e2⟩ := eqL_known _ _ (fun x hx y hy => ih x hx y (knownV_item ha x hx) (knownV_item hb y hy)) h4
      exact ⟨q, e1, e2.trans ⟨fun e => val_ext h1 h2 h3 e h5, fun e => by rw [e]⟩⟩
theorem eqL_refs : ∀ (l m : List Val), (∀ (i : Nat) (x y : Val), l[i]? = some x → m[i]? = some y → eqS x y ≠ some false) → eqL l m ≠ some false
  | [], _, _ => by rw [eqL]; simp
  | x :: r, [], _ => by rw [eqL]; simp
  | x :: r, y :: t, h => by
    have h0 := h 0 x y rfl rfl
    have h1 := eqL_refs r t fun i a b ha hb => h (i + 1) a b (by simpa using ha) (by simpa using hb)
    rw [eqL_cons]
    cases e : eqS x y with
    | none =>
      cases e2 : eqL r t with
      | none => simp [cmb]
      | some q => cases q with
        | true => simp [cmb]
        | false => exact absurd e2 h1
    | some q => cases q with
      | true => exact h1
      | false => exact absurd e h0
/-- A value and one that it refines are not known to differ. -/
theorem eqS_refs (a : Val) : ∀ b, Refs a b → eqS a b ≠ some false := by
  induction a using wfV.induction with
  | h a ih =>
    intro b hr
    rw [eqS_eq]
    by_cases h6 : b.kind = 6
    · rw [if_pos (.inr h6)]; simp
    obtain ⟨a1, a2, a3, a4, a5, a6⟩ := refs_inv hr h6
    rw [if_neg (by omega), if_neg (by simp [a1, a2, a3, a4, a5])]
    exact eqL_refs _ _ fun i x y hx hy => ih x (List.mem_of_getElem? hx) y (a6 i x y hx hy)
end Abs
end Go.Proofs.YtodgepbihbcdbaaGreatDoor
