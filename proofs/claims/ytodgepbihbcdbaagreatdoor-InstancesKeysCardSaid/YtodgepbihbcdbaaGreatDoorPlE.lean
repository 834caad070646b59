/-
  What the functions of convert come to: membership, equality, search, copies, a key's value.
  What a checked value is: shaped, with rising keys, of at most 32 levels.
  What copies, equality, refinement, a key's value and the filling of a value come to.
  A key's value, the filling of a value, and what it means that a value conforms to a type.
-/
import Derived.Test.YtodgepbihbcdbaaGreatDoorFnZ
import Derived.Test.YtodgepbihbcdbaaGreatDoorPlA
namespace Go.Proofs.YtodgepbihbcdbaaGreatDoor
set_option linter.unusedSimpArgs false
set_option linter.unusedVariables false
namespace Abs
open Go.RowKit

def hasB (l : List ByteArray) (v : ByteArray) : Bool := l.any fun x => decide (v = x)
theorem hasB_iff {l : List ByteArray} {v : ByteArray} : hasB l v = true ↔ v ∈ l := by
  unfold hasB
  rw [List.any_eq_true]
  constructor
  · rintro ⟨x, h1, h2⟩; rw [of_decide_eq_true h2]; exact h1
  · intro h; exact ⟨v, h, by simp⟩
/-! ### slices.Contains -/
theorem index_spec (l : List ByteArray) (v : ByteArray) (hl : l.length ≤ 9223372036854775807) : ∃ n : Int, g_slices_Index l v = some n ∧ decide (n ≥ 0) = hasB l v := by
  have h := loop_meas (body := g_slices_Index_L1 l v) (fun s => ∃ i : Nat, s = (i : Int) ∧ i ≤ l.length ∧ hasB (l.drop i) v = hasB l v) (fun s => l.length - s.toNat) (fun n => decide (n ≥ 0) = hasB l v) (by
    rintro s ⟨i, rfl, hi, hh⟩
    rcases Nat.eq_or_lt_of_le hi with h0 | h0
    · subst h0
      rw [List.drop_length] at hh
      exact .inr ⟨-1, by simp [g_slices_Index_L1], by rw [← hh]; rfl⟩
    · have hI : idx l (i : Int) = some l[i] := by rw [idx_nat]; exact List.getElem?_eq_getElem h0
      rw [List.drop_eq_getElem_cons h0] at hh
      have hc : hasB (l[i] :: l.drop (i + 1)) v = (decide (v = l[i]) || hasB (l.drop (i + 1)) v) := rfl
      rw [hc] at hh
      by_cases he : v = l[i]
      · refine .inr ⟨(i : Int), by simp [g_slices_Index_L1, hI, h0, he], ?_⟩
        rw [← hh, decide_eq_true he, Bool.true_or]; simp
      · refine .inl ⟨((i + 1 : Nat) : Int), by simp [g_slices_Index_L1, hI, h0, he, wrap_nat h0 hl], ⟨i + 1, rfl, h0, ?_⟩, by omega⟩
        rw [← hh, decide_eq_false he, Bool.false_or]) 0 ⟨0, rfl, Nat.zero_le _, by simp⟩
  exact h
theorem contains_spec (l : List ByteArray) (v : ByteArray) (hl : l.length ≤ 9223372036854775807) : g_slices_Contains l v = some (hasB l v) := by
  obtain ⟨n, h1, h2⟩ := index_spec l v hl
  unfold g_slices_Contains
  rw [h1, Option.bind_some, h2]
/-! ### slices.Equal -/
theorem equal_spec (a b : List ByteArray) (ha : a.length ≤ 9223372036854775807) : g_slices_Equal a b = some (decide (a = b)) := by
  unfold g_slices_Equal
  by_cases hl : a.length = b.length
  · have h := loop_meas (body := g_slices_Equal_L1 a b) (fun s => ∃ i : Nat, s = (i : Int) ∧ i ≤ a.length ∧ a.take i = b.take i) (fun s => a.length - s.toNat) (fun q => q = decide (a = b)) (by
      rintro s ⟨i, rfl, hi, hh⟩
      rcases Nat.eq_or_lt_of_le hi with h0 | h0
      · subst h0
        refine .inr ⟨true, by simp [g_slices_Equal_L1], ?_⟩
        rw [List.take_length, hl, List.take_length] at hh
        simp [hh]
      · have h1 : i < b.length := by omega
        have hI : idx a (i : Int) = some a[i] := by rw [idx_nat]; exact List.getElem?_eq_getElem h0
        have hJ : idx b (i : Int) = some b[i] := by rw [idx_nat]; exact List.getElem?_eq_getElem h1
        by_cases he : a[i] = b[i]
        · refine .inl ⟨((i + 1 : Nat) : Int), by simp [g_slices_Equal_L1, hI, hJ, h0, he, wrap_nat h0 ha], ⟨i + 1, rfl, h0, ?_⟩, by omega⟩
          rw [List.take_succ_eq_append_getElem h0, List.take_succ_eq_append_getElem h1, hh, he]
        · refine .inr ⟨false, by simp [g_slices_Equal_L1, hI, hJ, h0, he], ?_⟩
          have : a ≠ b := fun k => he (by subst k; rfl)
          simp [this]) 0 ⟨0, rfl, Nat.zero_le _, by simp⟩
    obtain ⟨q, h1, rfl⟩ := h
    simp [hl, h1]
  · have h1 : a ≠ b := fun k => hl (by rw [k])
    have h2 : ¬ (a.length : Int) = b.length := by omega
    simp [h1, h2]
/-! ### slices.BinarySearch -/
theorem less_spec (x y : ByteArray) : g_cmp_Less x y = some (Op.bytesLess x.toList y.toList) := by simp [g_cmp_Less, g_cmp_isNaN]
theorem mid_eq {i j : Nat} (h : i + j ≤ 9223372036854775807) : IntKind.i64.wrap (Int.fdiv (IntKind.u64.wrap (IntKind.i64.wrap ((i : Int) + j))) (2 ^ (min (1 : Int).toNat IntKind.u64.bits))) = (((i + j) / 2 : Nat) : Int) := by
  have h1 : IntKind.i64.wrap ((i : Int) + j) = (i : Int) + j := wrap_in (by omega) (by omega)
  have h2 : IntKind.u64.wrap ((i : Int) + j) = (i : Int) + j := by
    unfold IntKind.wrap
    simp only [IntKind.bits, IntKind.signed]
    simp
    omega
  have h3 : (2 : Int) ^ (min (1 : Int).toNat IntKind.u64.bits) = 2 := by decide
  rw [h1, h2, h3]
  rw [show Int.fdiv ((i : Int) + j) 2 = (((i + j) / 2 : Nat) : Int) by rw [Int.fdiv_eq_ediv_of_nonneg _ (by omega)]; omega]
  exact wrap_in (by omega) (by omega)
/-- Rising keys. -/
def Rising (l : List ByteArray) : Prop := ∀ i j : Nat, i < j → ∀ a b : ByteArray, l[i]? = some a → l[j]? = some b → Op.bytesLess a.toList b.toList = true
theorem less_irrefl : ∀ l : List UInt8, Op.bytesLess l l = false
  | [] => rfl
  | x :: r => by simp [Op.bytesLess, less_irrefl r]
theorem less_trans : ∀ {a b c : List UInt8}, Op.bytesLess a b = true → Op.bytesLess b c = true → Op.bytesLess a c = true
  | [], [], _, h, _ => by simp [Op.bytesLess] at h
  | _ :: _, [], _, h, _ => by simp [Op.bytesLess] at h
  | _, _ :: _, [], _, h => by simp [Op.bytesLess] at h
  | [], _ :: _, _ :: _, _, _ => by simp [Op.bytesLess]
  | x :: a, y :: b, z :: c, h, k => by
    simp only [Op.bytesLess, Bool.or_eq_true, Bool.and_eq_true, decide_eq_true_eq, beq_iff_eq] at h k ⊢
    rcases h with h | ⟨rfl, h⟩
    · rcases k with k | ⟨rfl, k⟩
      · exact .inl (UInt8.lt_trans h k)
      · exact .inl h
    · rcases k with k | ⟨rfl, k⟩
      · exact .inl k
      · exact .inr ⟨rfl, less_trans h k⟩
/-- What the search finds: the key's place, or none. -/
theorem search_spec (l : List ByteArray) (v : ByteArray) (hl : l.length * 2 ≤ 9223372036854775807) (hr : Rising l) :
    ∃ q : Int × Bool, g_slices_BinarySearch l v = some q ∧ 0 ≤ q.1 ∧ q.1 ≤ l.length ∧ (q.2 = true → l[q.1.toNat]? = some v) ∧ (q.2 = false → v ∉ l) := by
  refine loop_meas (body := g_slices_BinarySearch_L1 l v) (fun s => ∃ i j : Nat, s = ((i : Int), (j : Int)) ∧ i ≤ j ∧ j ≤ l.length ∧ (∀ k a, k < i → l[k]? = some a → Op.bytesLess a.toList v.toList = true) ∧ (∀ k a, j ≤ k → l[k]? = some a → Op.bytesLess a.toList v.toList = false)) (fun s => (s.2 - s.1).toNat)
    (fun q => 0 ≤ q.1 ∧ q.1 ≤ l.length ∧ (q.2 = true → l[q.1.toNat]? = some v) ∧ (q.2 = false → v ∉ l)) ?_ (0, (l.length : Int)) ⟨0, l.length, rfl, Nat.zero_le _, Nat.le_refl _, fun k a hk => by omega, fun k a hk e => by rw [List.getElem?_eq_none hk] at e; cases e⟩
  rintro s ⟨i, j, rfl, hij, hj, h1, h2⟩
  by_cases hlt : i < j
  · left
    have hm : (i + j) / 2 < l.length := by omega
    have hI : idx l (((i + j) / 2 : Nat) : Int) = some l[(i + j) / 2] := by rw [idx_nat]; exact List.getElem?_eq_getElem hm
    have hmid := mid_eq (i := i) (j := j) (by omega)
    have hdec : decide (((i : Int), (j : Int)).1 < ((i : Int), (j : Int)).2) = true := by simp [hlt]
    unfold g_slices_BinarySearch_L1
    rw [hdec]
    simp only [cond_true, hmid, hI, Option.bind_some, less_spec]
    cases hc : Op.bytesLess l[(i + j) / 2].toList v.toList with
    | true =>
      refine ⟨((((i + j) / 2 + 1 : Nat) : Int), (j : Int)), by simp only [cond_true, wrap_nat (i := (i + j) / 2) (n := l.length) hm (by omega)], ⟨_, j, rfl, by omega, hj, fun k a hk e => ?_, h2⟩, by simp; omega⟩
      rcases Nat.eq_or_lt_of_le (show k ≤ (i + j) / 2 by omega) with rfl | hk'
      · rw [List.getElem?_eq_getElem hm] at e; simp at e; subst e; exact hc
      · exact less_trans (hr k _ hk' a _ e (List.getElem?_eq_getElem hm)) hc
    | false =>
      refine ⟨((i : Int), (((i + j) / 2 : Nat) : Int)), by simp only [cond_false], ⟨i, _, rfl, by omega, by omega, h1, fun k a hk e => ?_⟩, by simp; omega⟩
      rcases Nat.eq_or_lt_of_le hk with rfl | hk'
      · rw [List.getElem?_eq_getElem hm] at e; simp at e; subst e; exact hc
      · cases hb : Op.bytesLess a.toList v.toList with
        | false => rfl
        | true => rw [less_trans (hr _ k hk' _ a (List.getElem?_eq_getElem hm) e) hb] at hc; cases hc
  · right
    obtain rfl : i = j := by omega
    have hnot : ∀ k a, l[k]? = some a → k ≠ i → a ≠ v := by
      intro k a e hne he
      subst he
      rcases Nat.lt_or_ge k i with hk | hk
      · have := h1 k a hk e; rw [less_irrefl] at this; cases this
      · have hik : i < k := by omega
        have hkl : k < l.length := by
          rcases Nat.lt_or_ge k l.length with q | q
          · exact q
          · rw [List.getElem?_eq_none q] at e; cases e
        have hil : i < l.length := by omega
        have a1 := hr i k hik _ a (List.getElem?_eq_getElem hil) e
        have a2 := h2 i _ (Nat.le_refl _) (List.getElem?_eq_getElem hil)
        rw [a1] at a2; cases a2
    have hdec : decide (((i : Int), (i : Int)).1 < ((i : Int), (i : Int)).2) = false := by simp
    unfold g_slices_BinarySearch_L1
    rw [hdec]
    simp only [cond_false]
    by_cases hil : i < l.length
    · have hI : idx l (i : Int) = some l[i] := by rw [idx_nat]; exact List.getElem?_eq_getElem hil
      have hd2 : decide ((i : Int) < (l.length : Int)) = true := by simp [hil]
      rw [hd2]
      simp only [cond_true, hI, Option.bind_some, g_slices_isNaN]
      by_cases he : l[i] = v
      · refine ⟨((i : Int), true), by simp [he], by simp, by simp; omega, (fun _ => by simp [← he]), (fun h => by cases h)⟩
      · refine ⟨((i : Int), false), by simp [he], by simp, by simp; omega, (fun h => by cases h), fun _ hm => ?_⟩
        obtain ⟨k, hk⟩ := List.getElem?_of_mem hm
        by_cases hki : k = i
        · subst hki; rw [List.getElem?_eq_getElem hil] at hk; simp at hk; exact he hk
        · exact hnot k v hk hki rfl
    · have hd2 : decide ((i : Int) < (l.length : Int)) = false := by simp; omega
      rw [hd2]
      refine ⟨((i : Int), false), by simp, by simp, by simp; omega, (fun h => by cases h), fun _ hm => ?_⟩
      obtain ⟨k, hk⟩ := List.getElem?_of_mem hm
      have hkl : k < l.length := by
        rcases Nat.lt_or_ge k l.length with q | q
        · exact q
        · rw [List.getElem?_eq_none q] at hk; cases hk
      exact hnot k v hk (by omega) rfl
end Abs
end Go.Proofs.YtodgepbihbcdbaaGreatDoor

namespace Go.Proofs.YtodgepbihbcdbaaGreatDoor
namespace Abs
open Go.RowKit

/-- A value every node of which is right, of at most d levels. -/
inductive Good : Nat → Val → Prop
  | mk {d : Nat} {x : Val} : nodeE x = 0 → (∀ y ∈ x.items, Good d y) → Good (d + 1) x
theorem Good.node {d : Nat} {x : Val} (h : Good d x) : nodeE x = 0 := by cases h; assumption
theorem Good.item {d : Nat} {x : Val} (h : Good d x) : ∃ e, d = e + 1 ∧ ∀ y ∈ x.items, Good e y := by cases h; exact ⟨_, rfl, by assumption⟩
theorem checkL_all : ∀ (l : List Val) (lv n : Int), (checkL l lv n).1 = 0 → ∀ x ∈ l, ∃ k, (checkV x lv k).1 = 0
  | [], _, _, _, x, hx => absurd hx List.not_mem_nil
  | y :: r, lv, n, h, x, hx => by
    simp only [checkL] at h
    by_cases hc : (checkV y lv n).1 = 0
    · rw [if_neg (by simp [hc])] at h
      rcases List.mem_cons.1 hx with rfl | hx
      · exact ⟨n, hc⟩
      · exact checkL_all r lv _ h x hx
    · rw [if_pos hc] at h; exact absurd h hc
theorem good_of (x : Val) : ∀ (lv n : Int) (d : Nat), (checkV x lv n).1 = 0 → 33 ≤ lv + d → Good d x := by
  induction x using Val.ind with
  | h k m s items keys ih =>
    intro lv n d h hd
    rw [checkV_eq] at h
    split at h
    · simp at h
    · rename_i h32
      split at h
      · simp at h
      · split at h
        · rename_i h2; exact absurd h h2
        · rename_i h3
          obtain ⟨e, rfl⟩ : ∃ e, d = e + 1 := ⟨d - 1, by omega⟩
          refine .mk (by simpa using h3) fun y hy => ?_
          obtain ⟨q, hq⟩ := checkL_all _ _ _ h y hy
          exact ih y hy (lv + 1) q e hq (by omega)
theorem good_check {x : Val} (h : checkE x = 0) : Good 32 x := good_of x 1 0 32 h (by omega)
theorem node_facts {x : Val} (h : nodeE x = 0) : shapedV x = true ∧ (x.kind = 2 → NumPlain.validB x.num = true) ∧ vtext x.str = 0 ∧ keysE none x.keys = 0 := by
  unfold nodeE at h
  split at h
  · simp at h
  · rename_i h1
    split at h
    · simp at h
    · rename_i h2
      split at h
      · rename_i h3; exact absurd h h3
      · rename_i h3
        refine ⟨by simpa using h1, fun hk => ?_, by simpa using h3, h⟩
        cases hv : NumPlain.validB x.num
        · exact absurd ⟨hk, hv⟩ h2
        · rfl
theorem keysE_pair : ∀ (l : List ByteArray) (p : Option ByteArray), keysE p l = 0 → (∀ q, p = some q → ∀ a ∈ l, Op.bytesLess q.toList a.toList = true) ∧ l.Pairwise fun a b => Op.bytesLess a.toList b.toList = true
  | [], p, _ => ⟨fun _ _ a ha => absurd ha List.not_mem_nil, List.Pairwise.nil⟩
  | s :: r, p, h => by
    unfold keysE at h
    by_cases hv : vtext s = 0
    · rw [if_neg (by simp [hv])] at h
      have hr : keysE (some s) r = 0 ∧ ∀ q, p = some q → Op.bytesLess q.toList s.toList = true := by
        cases p with
        | none => exact ⟨by simpa using h, fun q hq => by cases hq⟩
        | some q =>
          cases hb : ltB q s with
          | true => exact ⟨by simpa [hb] using h, fun q' hq => by cases hq; exact hb⟩
          | false => simp [hb] at h
      have ⟨i1, i2⟩ := keysE_pair r (some s) hr.1
      refine ⟨fun q hq a ha => ?_, List.pairwise_cons.2 ⟨i1 s rfl, i2⟩⟩
      rcases List.mem_cons.1 ha with rfl | ha
      · exact hr.2 q hq
      · exact less_trans (hr.2 q hq) (i1 s rfl a ha)
    · rw [if_pos hv] at h; exact absurd h hv
theorem rising_of {l : List ByteArray} (h : l.Pairwise fun a b => Op.bytesLess a.toList b.toList = true) : Rising l := by
  intro i j hij a b ha hb
  obtain ⟨h1, e1⟩ := List.getElem?_eq_some_iff.1 ha
  obtain ⟨h2, e2⟩ := List.getElem?_eq_some_iff.1 hb
  subst e1 e2
  exact List.pairwise_iff_getElem.1 h i j h1 h2 hij
theorem rising_nodup {l : List ByteArray} (h : Rising l) {i j : Nat} {a : ByteArray} (hi : l[i]? = some a) (hj : l[j]? = some a) : i = j := by
  rcases Nat.lt_trichotomy i j with k | k | k
  · have := h i j k a a hi hj; rw [less_irrefl] at this; cases this
  · exact k
  · have := h j i k a a hj hi; rw [less_irrefl] at this; cases this
theorem Good.rising {d : Nat} {x : Val} (h : Good d x) : Rising x.keys := rising_of (keysE_pair _ _ (node_facts h.node).2.2.2).2
/-- What the shape says. -/
theorem shaped_facts {x : Val} (h : shapedV x = true) : 0 ≤ x.kind ∧ x.kind ≤ 6 ∧ (x.kind ≠ 1 → x.kind ≠ 2 → x.num = 0) ∧ (x.kind = 1 → x.num = 0 ∨ x.num = 1) ∧ (x.kind ≠ 3 → x.str = eS) ∧ (x.kind ≠ 4 → x.kind ≠ 5 → x.items = []) ∧ (x.kind = 5 → x.keys.length = x.items.length) ∧ (x.kind ≠ 5 → x.keys = []) := by
  simp only [shapedV, shapedB, Bool.and_eq_true, decide_eq_true_eq, numOk, strOk, itemsOk, keysOk, Bool.or_eq_true, beq_iff_eq, bne_iff_ne, ne_eq] at h
  obtain ⟨⟨⟨⟨⟨h0, h1⟩, h2⟩, h3⟩, h4⟩, h5⟩ := h
  refine ⟨h0, h1, ?_, ?_, ?_, ?_, ?_, ?_⟩
  · intro a b; rcases h2 with (q | q) | q
    · exact absurd q b
    · exact absurd q.1 a
    · exact q
  · intro a; rcases h2 with (q | q) | q
    · omega
    · exact q.2
    · exact .inl q
  · intro a; rcases h3 with q | q
    · exact absurd q a
    · have : x.str.toList = [] := by simpa using q
      rw [ByteArray.toList_eq] at this
      exact ByteArray.ext (Array.toList_inj.1 this)
  · intro a b; rcases h4 with (q | q) | q
    · exact absurd q a
    · exact absurd q b
    · exact List.length_eq_zero_iff.1 (by omega)
  · intro a; rcases h5 with q | q
    · omega
    · exact absurd a q.1
  · intro a; rcases h5 with q | q
    · exact absurd q.1 a
    · exact List.length_eq_zero_iff.1 (by omega)
end Abs
end Go.Proofs.YtodgepbihbcdbaaGreatDoor

namespace Go.Proofs.YtodgepbihbcdbaaGreatDoor
namespace Abs
open Go.RowKit

/-! ### Loops -/
/-- A loop that gathers. -/
theorem loop_map {α β O : Type} (l : List α) (f : α → β) {body : Int × List β → Option ((Int × List β) ⊕ O)} (R : List β → O)
    (step : ∀ (i : Nat) (acc : List β) (x : α), i < l.length → l[i]? = some x → acc.length = i → body ((i : Int), acc) = some (.inl (((i + 1 : Nat) : Int), acc ++ [f x])))
    (stop : ∀ acc : List β, acc.length = l.length → body ((l.length : Int), acc) = some (.inr (R acc))) : loopO body (0, []) = some (R (l.map f)) := by
  have h := loop_meas (body := body) (fun s => ∃ i : Nat, s = ((i : Int), (l.take i).map f) ∧ i ≤ l.length) (fun s => l.length - s.1.toNat) (fun q => q = R (l.map f)) (by
    rintro s ⟨i, rfl, hi⟩
    have hlen : ((l.take i).map f).length = i := by simp [hi]
    rcases Nat.eq_or_lt_of_le hi with h0 | h0
    · subst h0
      exact .inr ⟨_, stop _ hlen, by rw [List.take_length]⟩
    · have hx := List.getElem?_eq_getElem h0
      refine .inl ⟨_, step i _ _ h0 hx hlen, ⟨i + 1, ?_, h0⟩, ?_⟩
      · rw [List.take_succ_eq_append_getElem h0, List.map_append]; rfl
      · simp only [Int.toNat_natCast]; omega) (0, []) ⟨0, by simp, Nat.zero_le _⟩
  obtain ⟨q, h1, rfl⟩ := h
  exact h1
/-- What is gathered until the first error. -/
def eachS {α : Type} (f : α → Val × Int) : List α → List Val × Int
  | [] => ([], 0)
  | x :: r => if (f x).2 ≠ 0 then ([], (f x).2) else if (eachS f r).2 ≠ 0 then ([], (eachS f r).2) else ((f x).1 :: (eachS f r).1, 0)
/-- A loop that gathers until an error. -/
theorem loop_each {α O : Type} (l : List α) (f : α → Val × Int) {body : Int × List Val → Option ((Int × List Val) ⊕ O)} (R : List Val → O) (E : Int → O)
    (step : ∀ (i : Nat) (acc : List Val) (x : α), i < l.length → l[i]? = some x → acc.length = i → body ((i : Int), acc) = some (if (f x).2 = 0 then .inl (((i + 1 : Nat) : Int), acc ++ [(f x).1]) else .inr (E (f x).2)))
    (stop : ∀ acc : List Val, acc.length = l.length → body ((l.length : Int), acc) = some (.inr (R acc))) :
    loopO body (0, []) = some (if (eachS f l).2 = 0 then R (eachS f l).1 else E (eachS f l).2) := by
  have key : ∀ n (i : Nat) (acc : List Val), l.length - i = n → i ≤ l.length → acc.length = i →
      loopO body ((i : Int), acc) = some (if (eachS f (l.drop i)).2 = 0 then R (acc ++ (eachS f (l.drop i)).1) else E (eachS f (l.drop i)).2) := by
    intro n
    induction n with
    | zero =>
      intro i acc hn hi ha
      obtain rfl : i = l.length := by omega
      rw [loop_done (stop acc ha), List.drop_length]
      simp [eachS]
    | succ n ih =>
      intro i acc hn hi ha
      have hlt : i < l.length := by omega
      have hs := step i acc _ hlt (List.getElem?_eq_getElem hlt) ha
      rw [List.drop_eq_getElem_cons hlt]
      by_cases he : (f l[i]).2 = 0
      · rw [if_pos he] at hs
        rw [loop_next hs, ih (i + 1) _ (by omega) (by omega) (by simp [ha])]
        have e2 : eachS f (l[i] :: l.drop (i + 1)) = if (eachS f (l.drop (i + 1))).2 ≠ 0 then ([], (eachS f (l.drop (i + 1))).2) else ((f l[i]).1 :: (eachS f (l.drop (i + 1))).1, 0) := by
          rw [eachS, if_neg (by simp [he])]
        rw [e2]
        by_cases hr : (eachS f (l.drop (i + 1))).2 = 0
        · simp [hr]
        · simp [hr]
      · rw [if_neg he] at hs
        rw [loop_done hs, eachS, if_pos he]
        simp [he]
  have := key _ 0 [] rfl (Nat.zero_le _) rfl
  simpa using this
/-- A loop that asks a question of every index. -/
theorem loop_all {body : Int → Option (Int ⊕ Bool)} (n : Nat) (p : Nat → Prop)
    (step : ∀ i : Nat, i < n → (p i ∧ body (i : Int) = some (.inl ((i + 1 : Nat) : Int))) ∨ (¬ p i ∧ body (i : Int) = some (.inr false)))
    (stop : body (n : Int) = some (.inr true)) : ∃ q, loopO body 0 = some q ∧ (q = true ↔ ∀ i, i < n → p i) := by
  refine loop_meas (body := body) (fun s => ∃ i : Nat, s = (i : Int) ∧ i ≤ n ∧ ∀ j, j < i → p j) (fun s => n - s.toNat) (fun q => q = true ↔ ∀ i, i < n → p i) ?_ 0 ⟨0, rfl, Nat.zero_le _, fun j h => by omega⟩
  rintro s ⟨i, rfl, hi, hp⟩
  rcases Nat.eq_or_lt_of_le hi with h0 | h0
  · subst h0
    exact .inr ⟨true, stop, by simpa using hp⟩
  · rcases step i h0 with ⟨h1, h2⟩ | ⟨h1, h2⟩
    · refine .inl ⟨_, h2, ⟨i + 1, rfl, h0, fun j hj => ?_⟩, ?_⟩
      · rcases Nat.eq_or_lt_of_le (Nat.le_of_lt_succ hj) with rfl | h
        · exact h1
        · exact hp j h
      · simp only [Int.toNat_natCast]; omega
    · exact .inr ⟨false, h2, by simp; exact ⟨i, h0, h1⟩⟩

/-! ### Copies -/
theorem len_i64 {n m : Nat} (h : n * m ≤ 140737488351232) (hm : 0 < m) : n ≤ 140737488351232 := Nat.le_trans (Nat.le_mul_of_pos_right _ hm) h
theorem clone_of {α : Type} {l : List α} {m : Nat} (h : l.length * m ≤ 140737488351232) : clone m l = some l := by unfold clone; rw [if_pos (by omega)]
theorem mkc_of {n m : Nat} (h : n * m ≤ 140737488351232) (hm : 0 < m) : mkc m (n : Int) = some () := by
  have := len_i64 h hm
  unfold mkc
  rw [if_pos ⟨by omega, by simp; omega, by omega⟩]
theorem app_one {α : Type} {m n : Nat} (acc : List α) (x : α) (hm : 0 < m) (h : acc.length < n) (hn : n * m ≤ 140737488351232) : app m acc [x] = some (acc ++ [x]) := by
  refine app_of hm ?_
  have : (acc.length + [x].length) * m ≤ n * m := Nat.mul_le_mul_right _ (by simp only [List.length_cons, List.length_nil]; omega)
  omega
theorem copies_spec (rec : Val → Option Val) (l : List Val) (hl : l.length * 80 ≤ 140737488351232) (h : ∀ x ∈ l, rec x = some x) : g_value_copies rec l = some l := by
  unfold g_value_copies
  by_cases h0 : l.length = 0
  · have : l = [] := List.length_eq_zero_iff.1 h0
    subst this; rfl
  · have hd : decide ((l.length : Int) = 0) = false := by simp; exact fun h => h0 (by simp [h])
    rw [hd, cond_false, mkc_of hl (by decide), Option.bind_some]
    have hh := loop_map l (fun x => x) (body := g_value_copies_L1 rec l) (fun acc => acc) (by
      intro i acc x hi hx ha
      have hx' : x ∈ l := List.mem_of_getElem? hx
      have hn := len_i64 hl (by decide)
      simp only [g_value_copies_L1, decide_eq_true (show (i : Int) < l.length by omega), cond_true, idx_nat, hx, Option.bind_some, h x hx', app_one acc x (m := 80) (by decide) (show acc.length < l.length by omega) hl, wrap_nat hi (show l.length ≤ 9223372036854775807 by omega)]) (by
      intro acc ha
      simp [g_value_copies_L1])
    rw [hh]; simp
open Classical in
theorem copied_eq (x : Val) : t_value_copied x = g_value_copied (g_value_copies (fun a0 => if relV a0 x then t_value_copied a0 else none)) x := tieF_eq x ()
theorem copied_spec (x : Val) : x.Fits → t_value_copied x = some x := by
  induction x using wfV.induction with
  | h a ih =>
    intro hf
    obtain ⟨f1, f2, f3, f4, f5, f6, f7⟩ := hf.parts
    rw [copied_eq]
    unfold g_value_copied
    rw [clone_of f5, Option.bind_some, copies_spec _ a.items f4 (fun x hx => by
      rw [if_pos (show relV x a from hx)]
      exact ih x hx (f7 x hx)), Option.bind_some]
    cases a; rfl

/-! ### Equality -/
theorem val_ext {a b : Val} (h1 : a.kind = b.kind) (h2 : a.num = b.num) (h3 : a.str = b.str) (h4 : a.items = b.items) (h5 : a.keys = b.keys) : a = b := by
  cases a; cases b; simp only [Val.kind, Val.num, Val.str, Val.items, Val.keys] at *; subst h1 h2 h3 h4 h5; rfl
theorem list_ext {α : Type} {a b : List α} (hl : a.length = b.length) (h : ∀ i, i < a.length → a[i]? = b[i]?) : a = b := by
  apply List.ext_getElem?
  intro i
  rcases Nat.lt_or_ge i a.length with k | k
  · exact h i k
  · rw [List.getElem?_eq_none k, List.getElem?_eq_none (by omega)]
open Classical in
theorem equal_eq (a b : Val) : t_value_Equal a b = g_value_Equal (fun a0 a1 => if relV a0 a then t_value_Equal a0 a1 else none) a b := tieF_eq a b
open Classical in
theorem value_equal_spec (a : Val) : ∀ b : Val, a.Fits → ∃ q, t_value_Equal a b = some q ∧ (q = true ↔ a = b) := by
  induction a using wfV.induction with
  | h a ih =>
    intro b hf
    obtain ⟨f1, f2, f3, f4, f5, f6, f7⟩ := hf.parts
    rw [equal_eq]
    unfold g_value_Equal
    by_cases h1 : a.kind = b.kind
    case neg => exact ⟨false, by simp [h1], by simp; intro e; subst e; exact h1 rfl⟩
    by_cases h2 : a.num = b.num
    case neg => exact ⟨false, by simp [h1, h2], by simp; intro e; subst e; exact h2 rfl⟩
    by_cases h3 : a.str = b.str
    case neg => exact ⟨false, by simp [h1, h2, h3], by simp; intro e; subst e; exact h3 rfl⟩
    rw [decide_eq_true h1, decide_eq_true h2, decide_eq_true h3, equal_spec _ _ (by have := len_i64 f5 (by decide); omega)]
    simp only [cond_true, Option.bind_some]
    by_cases h4 : a.keys = b.keys
    case neg => exact ⟨false, by simp [h4], by simp; intro e; subst e; exact h4 rfl⟩
    rw [decide_eq_true h4]
    simp only [cond_true, g_value_Equal_slices_EqualFunc_value_Equal]
    by_cases h5 : a.items.length = b.items.length
    case neg =>
      have h5' : ¬ (a.items.length : Int) = b.items.length := by omega
      exact ⟨false, by simp [h5'], by simp; intro e; subst e; exact h5 rfl⟩
    have h5' : (a.items.length : Int) = b.items.length := by omega
    have hn := len_i64 f4 (by decide)
    obtain ⟨q, hq1, hq2⟩ := loop_all (body := g_value_Equal_slices_EqualFunc_value_Equal_L1 (fun a0 a1 => if relV a0 a then t_value_Equal a0 a1 else none) a.items b.items) a.items.length (fun i => a.items[i]? = b.items[i]?) (by
      intro i hi
      have hib : i < b.items.length := by omega
      have hlt : decide ((i : Int) < a.items.length) = true := decide_eq_true (by omega)
      have hxi := List.getElem?_eq_getElem hi
      have hyi := List.getElem?_eq_getElem hib
      have hmem : a.items[i] ∈ a.items := List.getElem_mem hi
      obtain ⟨q, hq, hiff⟩ := ih _ hmem b.items[i] (f7 _ hmem)
      have hrel : relV a.items[i] a := hmem
      cases q with
      | true =>
        refine .inl ⟨by rw [hxi, hyi, hiff.1 rfl], ?_⟩
        simp only [g_value_Equal_slices_EqualFunc_value_Equal_L1, hlt, cond_true, idx_nat, hxi, hyi, Option.bind_some, if_pos hrel, hq, Bool.not_true, cond_false, wrap_nat hi (show a.items.length ≤ 9223372036854775807 by omega)]
      | false =>
        refine .inr ⟨fun he => ?_, ?_⟩
        · rw [hxi, hyi] at he; simp at he
          have := hiff.2 he; cases this
        · simp only [g_value_Equal_slices_EqualFunc_value_Equal_L1, hlt, cond_true, idx_nat, hxi, hyi, Option.bind_some, if_pos hrel, hq, Bool.not_false]) (by simp [g_value_Equal_slices_EqualFunc_value_Equal_L1])
    refine ⟨q, by simp [h5', hq1], hq2.trans ⟨fun hall => ?_, ?_⟩⟩
    · exact val_ext h1 h2 h3 (list_ext h5 hall) h4
    · rintro rfl i _; rfl

/-! ### Refinement -/
/-- a is b, with values in the places of unknown ones. -/
inductive Refs : Val → Val → Prop
  | unk {a b : Val} : b.kind = 6 → Refs a b
  | node {a b : Val} : a.kind = b.kind → a.num = b.num → a.str = b.str → a.keys = b.keys → a.items.length = b.items.length → (∀ (i : Nat) (x y : Val), a.items[i]? = some x → b.items[i]? = some y → Refs x y) → Refs a b
theorem Refs.refl (a : Val) : Refs a a := by
  induction a using wfV.induction with
  | h a ih =>
    refine .node rfl rfl rfl rfl rfl fun i x y hx hy => ?_
    rw [hx] at hy; cases hy
    exact ih x (List.mem_of_getElem? hx)
end Abs
end Go.Proofs.YtodgepbihbcdbaaGreatDoor

namespace Go.Proofs.YtodgepbihbcdbaaGreatDoor
namespace Abs
open Go.RowKit
abbrev vZ : Val := Val.mk 0 0 eS [] []
/-! ### A key's value -/
/-- The value of a key, or null. -/
def look : List ByteArray → List Val → ByteArray → Val
  | k :: ks, x :: xs, n => if k = n then x else look ks xs n
  | _, _, _ => vZ
theorem look_at : ∀ (keys : List ByteArray) (items : List Val) (n : ByteArray) (i : Nat) (x : Val), Rising keys → keys[i]? = some n → items[i]? = some x → look keys items n = x
  | [], _, n, i, x, _, h, _ => by simp at h
  | k :: ks, [], n, i, x, _, _, h => by simp at h
  | k :: ks, y :: ys, n, i, x, hr, h1, h2 => by
    cases i with
    | zero => simp at h1 h2; subst h1 h2; simp [look]
    | succ i =>
      have hne : k ≠ n := fun he => by
        have := rising_nodup hr (i := 0) (j := i + 1) (a := n) (by simp [he]) h1
        omega
      simp only [look, if_neg hne]
      exact look_at ks ys n i x (fun a b hab p q hp hq => hr (a + 1) (b + 1) (by omega) p q (by simpa using hp) (by simpa using hq)) (by simpa using h1) (by simpa using h2)
theorem look_not : ∀ (keys : List ByteArray) (items : List Val) (n : ByteArray), n ∉ keys → look keys items n = vZ
  | [], _, _, _ => by simp [look]
  | _ :: _, [], _, _ => by simp [look]
  | k :: ks, y :: ys, n, h => by
    simp only [List.mem_cons, not_or] at h
    simp only [look, if_neg (Ne.symm h.1)]
    exact look_not ks ys n h.2
theorem look_mem : ∀ (keys : List ByteArray) (items : List Val) (n : ByteArray), look keys items n ∈ items ∨ look keys items n = vZ
  | [], _, _ => by simp [look]
  | _ :: _, [], _ => by simp [look]
  | k :: ks, y :: ys, n => by
    simp only [look]
    split
    · exact .inl (List.mem_cons_self ..)
    · rcases look_mem ks ys n with h | h
      · exact .inl (List.mem_cons_of_mem _ h)
      · exact .inr h
theorem get_spec (v : Val) (key : ByteArray) (hf : v.Fits) (hk : v.kind = 5) (hl : v.keys.length = v.items.length) (hr : Rising v.keys) : ∃ b, g_value_Get v key = some (look v.keys v.items key, b) := by
  obtain ⟨f1, f2, f3, f4, f5, f6, f7⟩ := hf.parts
  obtain ⟨q, h1, h2, h3, h4, h5⟩ := search_spec v.keys key (by have := len_i64 f5 (by decide); omega) hr
  have hk' : decide (v.kind = 5) = true := decide_eq_true hk
  unfold g_value_Get
  rw [h1, Option.bind_some, hk', Bool.not_true, cond_false]
  cases hq : q.2 with
  | false =>
    rw [Bool.not_false, cond_true, look_not _ _ _ (h5 hq)]
    exact ⟨_, rfl⟩
  | true =>
    rw [Bool.not_true, cond_false]
    have e := h4 hq
    obtain ⟨hi, _⟩ := List.getElem?_eq_some_iff.1 e
    have hi' : q.1.toNat < v.items.length := by omega
    have hd : decide (q.1 ≥ (v.items.length : Int)) = false := decide_eq_false (by omega)
    have hI : idx v.items q.1 = some v.items[q.1.toNat] := by
      have := idx_nat v.items q.1.toNat
      rw [show ((q.1.toNat : Nat) : Int) = q.1 by omega] at this
      rw [this, List.getElem?_eq_getElem hi']
    rw [hd, cond_false, hI, Option.bind_some, copied_spec _ (f7 _ (List.getElem_mem hi')), Option.bind_some]
    rw [look_at _ _ _ _ _ hr e (List.getElem?_eq_getElem hi')]
    exact ⟨_, rfl⟩
/-! ### Filling -/
mutual
/-- v, with x in the places of unknown values. -/
def fillV : Val → Val → Val
  | .mk k n s items keys, x => if k = 6 then x else .mk k n s (fillL items x) keys
def fillL : List Val → Val → List Val
  | [], _ => []
  | y :: r, x => fillV y x :: fillL r x
end
theorem fillL_map (x : Val) : ∀ l : List Val, fillL l x = l.map fun y => fillV y x
  | [] => by simp [fillL]
  | y :: r => by rw [fillL, fillL_map x r]; rfl
theorem fillV_eq (v x : Val) : fillV v x = if v.kind = 6 then x else .mk v.kind v.num v.str (v.items.map fun y => fillV y x) v.keys := by
  cases v; simp only [fillV, fillL_map]; rfl
theorem fill_refs (v x : Val) : Refs (fillV v x) v := by
  induction v using wfV.induction with
  | h v ih =>
    rw [fillV_eq]
    by_cases h6 : v.kind = 6
    · exact .unk h6
    · rw [if_neg h6]
      refine .node rfl rfl rfl rfl (by simp) fun i a b ha hb => ?_
      simp only [items_mk, List.getElem?_map, hb, Option.map_some, Option.some.injEq] at ha
      subst ha
      exact ih b (List.mem_of_getElem? hb)
theorem fill_fits (v x : Val) (hx : x.Fits) : v.Fits → (fillV v x).Fits := by
  induction v using wfV.induction with
  | h v ih =>
    intro hf
    obtain ⟨f1, f2, f3, f4, f5, f6, f7⟩ := hf.parts
    rw [fillV_eq]
    split
    · exact hx
    · refine .mk f1 f2 f3 (by simpa using f4) f5 f6 fun y hy => ?_
      obtain ⟨z, hz, rfl⟩ := List.mem_map.1 hy
      exact ih z hz (f7 z hz)
/-! ### Conforming -/
/-- A value conforms to a type. -/
inductive Conf : Val → Ty → Prop
  | any {v : Val} {t : Ty} : v.kind = 0 ∨ v.kind = 6 ∨ t.kind = 0 → Conf v t
  | prim {v : Val} {t : Ty} : t.kind = 1 ∨ t.kind = 2 ∨ t.kind = 3 → v.kind = t.kind → Conf v t
  | coll {v : Val} {t e : Ty} {r : List Ty} : t.kind = 4 ∨ t.kind = 5 → v.kind = t.kind → t.elems = e :: r → (∀ x ∈ v.items, Conf x e) → Conf v t
  | obj {v : Val} {t : Ty} : ¬ (t.kind = 0 ∨ t.kind = 1 ∨ t.kind = 2 ∨ t.kind = 3 ∨ t.kind = 4 ∨ t.kind = 5) → v.kind = 5 → v.keys = t.names → v.items.length = t.elems.length → (∀ (i : Nat) (x : Val) (e : Ty), v.items[i]? = some x → t.elems[i]? = some e → Conf x e) → Conf v t
theorem Conf.inv {v : Val} {t : Ty} (h : Conf v t) (h0 : v.kind ≠ 0) (h6 : v.kind ≠ 6) (ht : t.kind ≠ 0) :
    ((t.kind = 1 ∨ t.kind = 2 ∨ t.kind = 3) ∧ v.kind = t.kind) ∨ ((t.kind = 4 ∨ t.kind = 5) ∧ v.kind = t.kind ∧ ∃ e r, t.elems = e :: r ∧ ∀ x ∈ v.items, Conf x e) ∨
    (¬ (t.kind = 0 ∨ t.kind = 1 ∨ t.kind = 2 ∨ t.kind = 3 ∨ t.kind = 4 ∨ t.kind = 5) ∧ v.kind = 5 ∧ v.keys = t.names ∧ v.items.length = t.elems.length ∧ (∀ (i : Nat) (x : Val) (e : Ty), v.items[i]? = some x → t.elems[i]? = some e → Conf x e)) := by
  cases h with
  | any h => rcases h with h | h | h <;> contradiction
  | prim h1 h2 => exact .inl ⟨h1, h2⟩
  | coll h1 h2 h3 h4 => exact .inr (.inl ⟨h1, h2, _, _, h3, h4⟩)
  | obj h1 h2 h3 h4 h5 => exact .inr (.inr ⟨h1, h2, h3, h4, h5⟩)
end Abs
end Go.Proofs.YtodgepbihbcdbaaGreatDoor
