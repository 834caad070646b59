--@only f{provision/provisionlaw21.InstancesKinds}
/-
  Plain laws: lists in order; the reference's insertion sort; the kit's.
  Plain laws: the names of a list of strings (instances.texts, the reference's names).
  Plain laws: the keys of instances are those of the reference.
  Plain laws: value.Map.
  Plain laws: scopes of instances, known answers; the law of kinds.
-/
import Derived.Test.YtodgepbihbcdbaaGreatDoorPlA
import Derived.Test.YtodgepbihbcdbaaGreatDoorFnZ
import Derived.Test.YtodgepbihbcdbaaGreatDoorPlK
import Derived.Test.YtodgepbihbcdbaaGreatDoorPlL
namespace Go.Proofs.YtodgepbihbcdbaaGreatDoor
set_option linter.unusedSimpArgs false
set_option linter.unusedVariables false
namespace Abs
open Go.RowKit
theorem ba_ext {a b : ByteArray} (h : a.toList = b.toList) : a = b := by
  rw [ByteArray.toList_eq, ByteArray.toList_eq] at h
  obtain ⟨⟨x⟩⟩ := a
  obtain ⟨⟨y⟩⟩ := b
  simp at h
  subst h; rfl
/-- In ascending order. -/
def Asc (l : List ByteArray) : Prop := l.Pairwise fun x y => Op.bytesLess y.toList x.toList = false
theorem asc_unique {l m : List ByteArray} (hl : Asc l) (hm : Asc m) (hp : l.Perm m) : l = m :=
  List.Perm.eq_of_pairwise (le := fun x y : ByteArray => Op.bytesLess y.toList x.toList = false) (fun a b _ _ h1 h2 => ba_ext (bl_total h2 h1)) hl hm hp
theorem sortS_asc (l : List ByteArray) : Asc (sortP cmpS l) := (sortP_ok swoS l).2.imp fun {x y} h => by rw [ltS] at h; exact h
theorem sortS_perm (l : List ByteArray) : (sortP cmpS l).Perm l := (sortP_ok swoS l).1
theorem sortS_of {l m : List ByteArray} (hm : Asc m) (hp : m.Perm l) : sortP cmpS l = m := asc_unique (sortS_asc l) hm ((sortS_perm l).trans hp.symm)
theorem sortS_self {l : List ByteArray} (h : Asc l) : sortP cmpS l = l := sortS_of h (List.Perm.refl _)
theorem m_sortS_eq {l : List ByteArray} (h : l.length ≤ 140737488351232) : m_sortS l = some (sortP cmpS l) := if_pos (by omega)
/-- The reference's insertion: its place. -/
theorem ins_asc {out : List ByteArray} {x : ByteArray} {k : Nat} (ha : Asc out) (hk : k ≤ out.length) (h1 : ∀ (j : Nat) (a : ByteArray), j < k → out[j]? = some a → Op.bytesLess a.toList x.toList = true) (h2 : ∀ a, out[k]? = some a → Op.bytesLess a.toList x.toList = false) :
    Asc (out.take k ++ [x] ++ out.drop k) ∧ (out.take k ++ [x] ++ out.drop k).Perm (x :: out) := by
  have hd : Asc (out.take k ++ out.drop k) := by rw [List.take_append_drop]; exact ha
  obtain ⟨d1, d2, d3⟩ := List.pairwise_append.1 hd
  have low : ∀ a ∈ out.take k, Op.bytesLess a.toList x.toList = true := fun a ha => by
    obtain ⟨j, hj, rfl⟩ := List.getElem_of_mem ha
    have hj' : j < k := by simp at hj; omega
    have hj2 : j < out.length := by omega
    refine h1 j _ hj' ?_
    rw [List.getElem_take, List.getElem?_eq_getElem hj2]
  have high : ∀ a ∈ out.drop k, Op.bytesLess a.toList x.toList = false := by
    cases e : out.drop k with
    | nil => intro a ha; cases ha
    | cons y r =>
      have hy := h2 y (by have := drop_facts e; exact this.2.1)
      intro a ha
      rcases List.mem_cons.1 ha with rfl | ha
      · exact hy
      · rw [e] at d2
        exact bl_ntrans ((List.pairwise_cons.1 d2).1 a ha) hy
  refine ⟨?_, ?_⟩
  · rw [List.append_assoc]
    refine List.pairwise_append.2 ⟨d1, ?_, fun a h b hb => ?_⟩
    · rw [List.singleton_append]
      exact List.pairwise_cons.2 ⟨fun a h => high a h, d2⟩
    · rw [List.singleton_append] at hb
      rcases List.mem_cons.1 hb with rfl | hb
      · cases e : Op.bytesLess b.toList a.toList with
        | false => rfl
        | true => have := bl_trans e (low a h); rw [bl_irrefl] at this; cases this
      · exact d3 a h b hb
  · rw [List.append_assoc, List.singleton_append]
    refine List.perm_middle.trans ?_
    rw [List.take_append_drop]
theorem slc_take {α : Type} (l : List α) {k : Nat} (h : k ≤ l.length) : slc l 0 (k : Int) = some (l.take k) := by
  unfold slc
  rw [if_pos ⟨Int.le_refl _, by omega, by omega⟩]
  simp
theorem slc_drop {α : Type} (l : List α) {k : Nat} (h : k ≤ l.length) : slc l (k : Int) (l.length : Int) = some (l.drop k) := by
  unfold slc
  rw [if_pos ⟨by omega, by omega, by omega⟩]
  simp [List.take_of_length_le]
theorem rsorted_spec (l : List ByteArray) (hl : l.length ≤ 1000000) : g_r21_sorted l = some (sortP cmpS l) := by
  have main := loop_meas (body := g_r21_sorted_L1 l) (fun s => ∃ i : Nat, i ≤ l.length ∧ s.2 = (i : Int) ∧ Asc s.1 ∧ s.1.Perm (l.take i)) (fun s => l.length - s.2.toNat) (fun r => r = sortP cmpS l) ?_ ([], 0) ⟨0, Nat.zero_le _, rfl, List.Pairwise.nil, by simp⟩
  · obtain ⟨q, h1, rfl⟩ := main
    exact h1
  rintro ⟨out, j⟩ ⟨i, hi, rfl, ha, hp⟩
  simp only at ha hp ⊢
  have hlen : out.length = i := by rw [hp.length_eq]; simp; omega
  by_cases hlt : i < l.length
  · left
    have hx : idx l (i : Int) = some l[i] := by rw [idx_nat, List.getElem?_eq_getElem hlt]
    -- the place
    have fin : ∀ k : Nat, k ≤ out.length → (∀ (j : Nat) (a : ByteArray), j < k → out[j]? = some a → Op.bytesLess a.toList l[i].toList = true) → (∀ a, out[k]? = some a → Op.bytesLess a.toList l[i].toList = false) →
        ∃ nx, ((slc out 0 (k : Int)).bind fun x8 => (app 16 [] x8).bind fun l10 => (idx l (i : Int)).bind fun x11 => (app 16 l10 [x11]).bind fun l12 => (slc out (k : Int) (out.length : Int)).bind fun x13 => (app 16 l12 x13).bind fun l15 => some l15) = some nx ∧ Asc nx ∧ nx.Perm (l[i] :: out) := by
      intro k hk h1 h2
      obtain ⟨q1, q2⟩ := ins_asc ha hk h1 h2
      refine ⟨_, ?_, q1, q2⟩
      rw [slc_take out hk, Option.bind_some, app_of (by decide) (by simp; omega), Option.bind_some, hx, Option.bind_some, app_of (by decide) (by simp; omega), Option.bind_some, slc_drop out hk, Option.bind_some, app_of (by decide) (by simp; omega), Option.bind_some]
      simp
    have inner := loop_meas (body := g_r21_sorted_L2 l (out, (i : Int))) (fun s => ∃ k : Nat, k ≤ out.length ∧ s = (k : Int) ∧ ∀ (j : Nat) (a : ByteArray), j < k → out[j]? = some a → Op.bytesLess a.toList l[i].toList = true) (fun s => out.length - s.toNat)
      (fun r => ∃ nx, r = .inl (nx, ((i + 1 : Nat) : Int)) ∧ Asc nx ∧ nx.Perm (l[i] :: out)) ?_ 0 ⟨0, Nat.zero_le _, rfl, fun j a h => by omega⟩
    · obtain ⟨q, h1, nx, rfl, h2, h3⟩ := inner
      refine ⟨(nx, ((i + 1 : Nat) : Int)), ?_, ⟨i + 1, by omega, rfl, h2, ?_⟩, ?_⟩
      · unfold g_r21_sorted_L1
        rw [decide_eq_true (show (i : Int) < (l.length : Int) by omega), cond_true]
        exact h1
      · refine h3.trans ?_
        rw [List.take_add_one, List.getElem?_eq_getElem hlt]
        exact ((List.Perm.cons _ hp).trans (List.perm_append_singleton _ _).symm)
      · simp only [Int.toNat_natCast]; omega
    · rintro s ⟨k, hk, rfl, h1⟩
      have hw : IntKind.i64.wrap ((i : Int) + 1) = ((i + 1 : Nat) : Int) := wrap_nat (n := l.length) hlt (by omega)
      unfold g_r21_sorted_L2
      simp only
      by_cases hkl : k < out.length
      · rw [decide_eq_true (show (k : Int) < (out.length : Int) by omega), cond_true, idx_nat, List.getElem?_eq_getElem hkl, Option.bind_some, hx, Option.bind_some]
        cases hb : Op.bytesLess out[k].toList l[i].toList with
        | true =>
          left
          refine ⟨((k + 1 : Nat) : Int), ?_, ⟨k + 1, hkl, rfl, fun j a hj e => ?_⟩, ?_⟩
          · rw [cond_true, wrap_nat (n := out.length) hkl (by omega)]
          · rcases Nat.lt_or_ge j k with h | h
            · exact h1 j a h e
            · obtain rfl : j = k := by omega
              rw [List.getElem?_eq_getElem hkl] at e
              obtain rfl := Option.some.inj e
              exact hb
          · simp only [Int.toNat_natCast]; omega
        | false =>
          right
          obtain ⟨nx, e, q1, q2⟩ := fin k hk h1 (fun a e => by rw [List.getElem?_eq_getElem hkl] at e; obtain rfl := Option.some.inj e; exact hb)
          refine ⟨.inl (nx, ((i + 1 : Nat) : Int)), ?_, nx, rfl, q1, q2⟩
          rw [cond_false, ← hw]
          rw [hx] at e
          simp only [Option.bind_eq_some_iff] at e
          obtain ⟨a1, b1, a2, b2, a3, b3, a4, b4, a5, b5, a6, b6, b7⟩ := e
          obtain rfl := Option.some.inj b3
          obtain rfl := Option.some.inj b7
          rw [b1, Option.bind_some, b2, Option.bind_some, Option.bind_some, b4, Option.bind_some, b5, Option.bind_some, b6, Option.bind_some]
      · right
        obtain rfl : k = out.length := by omega
        obtain ⟨nx, e, q1, q2⟩ := fin out.length hk h1 (fun a e => by rw [List.getElem?_eq_none (Nat.le_refl _)] at e; cases e)
        refine ⟨.inl (nx, ((i + 1 : Nat) : Int)), ?_, nx, rfl, q1, q2⟩
        rw [decide_eq_false (show ¬ (out.length : Int) < (out.length : Int) by omega), cond_false, ← hw]
        rw [hx] at e
        simp only [Option.bind_eq_some_iff] at e
        obtain ⟨a1, b1, a2, b2, a3, b3, a4, b4, a5, b5, a6, b6, b7⟩ := e
        obtain rfl := Option.some.inj b3
        obtain rfl := Option.some.inj b7
        rw [b1, Option.bind_some, b2, Option.bind_some, hx, Option.bind_some, b4, Option.bind_some, b5, Option.bind_some, b6, Option.bind_some]
  · right
    obtain rfl : i = l.length := by omega
    refine ⟨out, ?_, (sortS_of ha (by rw [List.take_length] at hp; exact hp)).symm⟩
    unfold g_r21_sorted_L1
    rw [decide_eq_false (show ¬ (l.length : Int) < (l.length : Int) by omega), cond_false]
end Abs
end Go.Proofs.YtodgepbihbcdbaaGreatDoor

namespace Go.Proofs.YtodgepbihbcdbaaGreatDoor
set_option linter.unusedSimpArgs false
set_option linter.unusedVariables false
namespace Abs
open Go.RowKit
/-- The strings of a list, which are known and different: the strings, or what is wrong. -/
def namesS : List Val → List ByteArray → List ByteArray × Int
  | [], out => (out, 0)
  | x :: r, out => if x.kind = 6 then ([], 11) else if x.kind ≠ 3 then ([], 6) else if hasB out x.str = true then ([], 8) else namesS r (out ++ [x.str])
theorem namesS_cons (x : Val) (r : List Val) (out : List ByteArray) : namesS (x :: r) out = if x.kind = 6 then ([], 11) else if x.kind ≠ 3 then ([], 6) else if hasB out x.str = true then ([], 8) else namesS r (out ++ [x.str]) := rfl
theorem namesS_len : ∀ (l : List Val) (out : List ByteArray), (namesS l out).1.length ≤ out.length + l.length
  | [], out => by simp [namesS]
  | x :: r, out => by
    unfold namesS
    split
    · simp
    split
    · simp
    split
    · simp
    · have := namesS_len r (out ++ [x.str]); simp at this ⊢; omega
theorem texts_spec (l : List Val) (hl : l.length ≤ 1759218604441) : g_instances_texts l = some (if (namesS l []).2 = 0 then (sortP cmpS (namesS l []).1, 0) else namesS l []) := by
  unfold g_instances_texts
  refine loop_list0 l (fun i a => ((i : Int), a)) (fun a r => if (namesS r a).2 = 0 then (sortP cmpS (namesS r a).1, 0) else namesS r a) (fun a r => a.length + r.length ≤ 1759218604441) (a := []) rfl (by simpa using hl) (fun a h => ?_) fun i x r a hi hx hd hq => ?_
  · simp only [g_instances_texts_L1, decide_eq_false (show ¬ (l.length : Int) < (l.length : Int) by omega), cond_false, namesS, if_true]
    rw [m_sortS_eq (by simp at h; omega), Option.bind_some]
  · have hlt : decide ((i : Int) < (l.length : Int)) = true := decide_eq_true (by omega)
    simp only [g_instances_texts_L1, hlt, cond_true, idx_nat, hx, Option.bind_some]
    by_cases h6 : x.kind = 6
    · have e : namesS (x :: r) a = ([], 11) := by rw [namesS_cons, if_pos h6]
      right; rw [decide_eq_true h6, cond_true, e]; rfl
    rw [decide_eq_false h6, cond_false]
    by_cases h3 : x.kind = 3
    · have e : namesS (x :: r) a = if hasB a x.str = true then ([], 8) else namesS r (a ++ [x.str]) := by rw [namesS_cons, if_neg h6, if_neg (by simp [h3])]
      rw [decide_eq_true h3, Bool.not_true, cond_false, contains_spec a x.str (by omega), Option.bind_some, e]
      cases hb : hasB a x.str with
      | true => right; rw [cond_true]; rfl
      | false =>
        left
        refine ⟨a ++ [x.str], by simp at hq ⊢; omega, ?_, rfl⟩
        rw [cond_false, app_of (by decide) (by simp at hq ⊢; omega), Option.bind_some, wrap_nat hi (by omega)]
    · have e : namesS (x :: r) a = ([], 6) := by rw [namesS_cons, if_neg h6, if_pos h3]
      right; rw [decide_eq_false h3, Bool.not_false, cond_true, e]; rfl
theorem rnames_spec (v : Val) (h4 : v.kind = 4) (hl : v.items.length ≤ 1759218604441) : g_r21_names v = some (namesS v.items []) := by
  unfold g_r21_names
  rw [decide_eq_false (show ¬ v.kind = 6 by omega), cond_false, decide_eq_false (show ¬ v.kind = 5 by omega), cond_false, decide_eq_true h4, Bool.not_true, cond_false]
  refine loop_list0 v.items (fun i a => ((i : Int), a)) (fun a r => namesS r a) (fun a r => a.length + r.length = v.items.length) (a := []) rfl (by simp) (fun a h => ?_) fun i x r a hi hx hd hq => ?_
  · simp only [g_r21_names_L1, decide_eq_false (show ¬ (v.items.length : Int) < (v.items.length : Int) by omega), cond_false, namesS]
  · have hlt : decide ((i : Int) < (v.items.length : Int)) = true := decide_eq_true (by omega)
    have hal : a.length = i := by
      have : (x :: r).length = v.items.length - i := by rw [← hd, List.length_drop]
      omega
    simp only [g_r21_names_L1, hlt, cond_true, idx_nat, hx, Option.bind_some]
    by_cases h6 : x.kind = 6
    · have e : namesS (x :: r) a = ([], 11) := by rw [namesS_cons, if_pos h6]
      right; rw [decide_eq_true h6, cond_true, e]
    rw [decide_eq_false h6, cond_false]
    by_cases h3 : x.kind = 3
    · have e : namesS (x :: r) a = if hasB a x.str = true then ([], 8) else namesS r (a ++ [x.str]) := by rw [namesS_cons, if_neg h6, if_neg (by simp [h3])]
      rw [decide_eq_true h3, Bool.not_true, cond_false, e]
      have inner := loop_ask (body := g_r21_names_L2 v ((i : Int), a)) i (fun j => a[j]? ≠ some x.str) (.inl (((i + 1 : Nat) : Int), a ++ [x.str])) (.inr ([], 8)) (by omega) (fun j hj => by
        have hja : j < a.length := by omega
        simp only [g_r21_names_L2, decide_eq_true (show (j : Int) < (i : Int) by omega), cond_true, idx_nat, hx, Option.bind_some, List.getElem?_eq_getElem hja]
        by_cases e : a[j] = x.str
        · right
          rw [decide_eq_true e, cond_true]
          exact ⟨fun k => k (by rw [e]), rfl⟩
        · left
          rw [decide_eq_false e, cond_false]
          exact ⟨fun k => e (Option.some.inj k), rfl⟩) (by
        simp only [g_r21_names_L2, decide_eq_false (show ¬ (i : Int) < (i : Int) by omega), cond_false, idx_nat, hx, Option.bind_some]
        rw [app_of (by decide) (by simp; omega), Option.bind_some, wrap_nat hi (by omega)])
      cases hb : hasB a x.str with
      | true =>
        right
        rcases inner with ⟨_, h⟩ | ⟨h, _⟩
        · exfalso
          obtain ⟨j, hj, e⟩ := List.getElem_of_mem (hasB_iff.1 hb)
          exact h j (by omega) (by rw [List.getElem?_eq_getElem hj, e])
        · exact h
      | false =>
        left
        refine ⟨a ++ [x.str], by simp at hq ⊢; omega, ?_, rfl⟩
        rcases inner with ⟨h, _⟩ | ⟨_, j, hj, h⟩
        · exact h
        · exfalso
          have hm : x.str ∈ a := List.mem_of_getElem? (Classical.not_not.1 h)
          rw [hasB_iff.2 hm] at hb; cases hb
    · have e : namesS (x :: r) a = ([], 6) := by rw [namesS_cons, if_neg h6, if_pos h3]
      right; rw [decide_eq_false h3, Bool.not_false, cond_true, e]
end Abs
end Go.Proofs.YtodgepbihbcdbaaGreatDoor

namespace Go.Proofs.YtodgepbihbcdbaaGreatDoor
set_option linter.unusedSimpArgs false
set_option linter.unusedVariables false
namespace Abs
open Go.RowKit
def nkeys (n : Nat) : List KeyG := (List.range n).map fun (i : Nat) => KeyG.mk 1 (i : Int) eS
def skeys (l : List ByteArray) : List KeyG := l.map fun s => KeyG.mk 2 0 s
theorem cnt_loop (n : Int) {body : Int × List KeyG → Option ((Int × List KeyG) ⊕ (List KeyG × Int))}
    (hb : ∀ s, body s = bif (decide (s.1 < n)) then (app 32 s.2 [KeyG.mk 1 s.1 eS]).bind fun l8 => some (.inl (IntKind.i64.wrap (s.1 + 1), l8)) else some (.inr (s.2, 0))) (h0 : 0 ≤ n) (h1 : n ≤ 256) :
    loopO body (0, []) = some (nkeys n.toNat, 0) := by
  have := loop_meas (body := body) (fun s => ∃ i : Nat, i ≤ n.toNat ∧ s = ((i : Int), nkeys i)) (fun s => n.toNat - s.1.toNat) (fun r => r = (nkeys n.toNat, 0)) ?_ (0, []) ⟨0, Nat.zero_le _, rfl⟩
  · obtain ⟨q, h, rfl⟩ := this; exact h
  rintro s ⟨i, hi, rfl⟩
  rw [hb]
  by_cases hlt : i < n.toNat
  · left
    refine ⟨(((i + 1 : Nat) : Int), nkeys (i + 1)), ?_, ⟨i + 1, hlt, rfl⟩, by simp only [Int.toNat_natCast]; omega⟩
    rw [decide_eq_true (show (i : Int) < n by omega), cond_true, app_of (by decide) (by simp [nkeys]; omega), Option.bind_some, wrap_nat (n := n.toNat) hlt (by omega)]
    simp [nkeys, List.range_succ]
  · right
    obtain rfl : i = n.toNat := by omega
    refine ⟨_, ?_, rfl⟩
    rw [decide_eq_false (show ¬ (n.toNat : Int) < n by omega)]; rfl
/-- The keys of a count. -/
noncomputable def countS (v : Val) : List KeyG × Int :=
  if v.kind = 6 then ([], 11)
  else if v.kind = 0 then ([], 6)
  else if (cvS 2 v).2 ≠ 0 then ([], 6)
  else if (cvS 2 v).1.num < 0 then ([], 5)
  else if (cvS 2 v).1.num > 256 then ([], 14)
  else (nkeys (cvS 2 v).1.num.toNat, 0)
theorem str_loop (l : List ByteArray) (hl : l.length ≤ 256) {body : Int × List KeyG → Option ((Int × List KeyG) ⊕ (List KeyG × Int))}
    (hb : ∀ s, body s = bif (decide (s.1 < (l.length : Int))) then (idx l s.1).bind fun x => (app 32 s.2 [KeyG.mk 2 0 x]).bind fun l6 => some (.inl (IntKind.i64.wrap (s.1 + 1), l6)) else some (.inr (s.2, 0))) :
    loopO body (0, []) = some (skeys l, 0) := by
  have := loop_meas (body := body) (fun s => ∃ i : Nat, i ≤ l.length ∧ s = ((i : Int), skeys (l.take i))) (fun s => l.length - s.1.toNat) (fun r => r = (skeys l, 0)) ?_ (0, []) ⟨0, Nat.zero_le _, rfl⟩
  · obtain ⟨q, h, rfl⟩ := this; exact h
  rintro s ⟨i, hi, rfl⟩
  rw [hb]
  by_cases hlt : i < l.length
  · left
    refine ⟨(((i + 1 : Nat) : Int), skeys (l.take (i + 1))), ?_, ⟨i + 1, hlt, rfl⟩, by simp only [Int.toNat_natCast]; omega⟩
    rw [decide_eq_true (show (i : Int) < (l.length : Int) by omega), cond_true, idx_nat, List.getElem?_eq_getElem hlt, Option.bind_some, app_of (by decide) (by simp [skeys]; omega), Option.bind_some, wrap_nat hlt (by omega)]
    rw [List.take_add_one, List.getElem?_eq_getElem hlt]
    unfold skeys
    rw [List.map_append]
    rfl
  · right
    obtain rfl : i = l.length := by omega
    refine ⟨_, ?_, rfl⟩
    rw [decide_eq_false (show ¬ (l.length : Int) < (l.length : Int) by omega), cond_false, List.take_length]
theorem kind_zero_sc {v : Val} (h : Ck v) (h0 : v.kind = 0) : toS (Ty.mk 2 [] []) v = (v, 0) := by
  rw [toS_eq, if_pos (.inr (.inl h0))]
theorem counted_spec {v : Val} (h : Ck v) : g_instances_counted v = some (countS v) := by
  unfold g_instances_counted countS
  by_cases h6 : v.kind = 6
  · rw [decide_eq_true h6, cond_true, if_pos h6]
  rw [decide_eq_false h6, cond_false, if_neg h6]
  by_cases h0 : v.kind = 0
  · have e := kind_zero_sc h h0
    rw [if_pos h0, To_spec v _ (tok_simple (by omega)) h.ok, toE_good (by rw [e]) (by rw [e]; exact h.ck), e, Option.bind_some]
    rw [decide_eq_true (show (v, (0 : Int)).2 = 0 from rfl), Bool.not_true, cond_false, decide_eq_true h0, cond_true]
  rw [if_neg h0, To_sc (.inr (.inl rfl)) h h0, Option.bind_some]
  cases cvS_cases (k := 2) (.inr (.inl rfl)) h with
  | unk e _ => rw [e] at h6; exact absurd rfl h6
  | bad _ e => rw [e]; rfl
  | @val x _ _ _ hk hx e =>
    rw [e, decide_eq_true (show (x, (0 : Int)).2 = 0 from rfl), Bool.not_true, cond_false, if_neg (by simp), decide_eq_false (show ¬ x.kind = 0 by omega), cond_false]
    by_cases h1 : x.num < 0
    · rw [decide_eq_true h1, cond_true, if_pos h1]
    rw [decide_eq_false h1, cond_false, if_neg h1]
    by_cases h2 : x.num > 256
    · rw [decide_eq_true h2, cond_true, if_pos h2]
    rw [decide_eq_false h2, cond_false, if_neg h2]
    exact cnt_loop x.num (fun s => rfl) (by omega) (by omega)
theorem rcount_spec {v : Val} (h : Ck v) : g_r21_count v = some (countS v) := by
  unfold g_r21_count countS
  by_cases h6 : v.kind = 6
  · rw [decide_eq_true h6, cond_true, if_pos h6]
  rw [decide_eq_false h6, cond_false, if_neg h6]
  by_cases h0 : v.kind = 0
  · have e := kind_zero_sc h h0
    have e2 : g_r11_To v (Ty.mk 2 [] []) = some (v, 0) := by
      unfold g_r11_To
      rw [rto_spec _ v (tok_simple (by omega)) h.ok, e, Option.bind_some, show m_checkE v = some (checkE v) from gd_of h.ok.1, h.ck]; rfl
    rw [if_pos h0, e2, Option.bind_some]
    rw [decide_eq_true (show (v, (0 : Int)).2 = 0 from rfl), Bool.not_true, cond_false, decide_eq_false (show ¬ v.kind = 2 by omega), Bool.not_false, cond_true]
  rw [if_neg h0, rTo_sc (.inr (.inl rfl)) h h0, Option.bind_some]
  cases cvS_cases (k := 2) (.inr (.inl rfl)) h with
  | unk e _ => rw [e] at h6; exact absurd rfl h6
  | bad _ e => rw [e]; rfl
  | @val x _ _ _ hk hx e =>
    rw [e, decide_eq_true (show (x, (0 : Int)).2 = 0 from rfl), Bool.not_true, cond_false, if_neg (by simp), decide_eq_true hk, Bool.not_true, cond_false]
    by_cases h1 : x.num < 0
    · rw [decide_eq_true h1, cond_true, if_pos h1]
    rw [decide_eq_false h1, cond_false, if_neg h1]
    by_cases h2 : x.num > 256
    · rw [decide_eq_true h2, cond_true, if_pos h2]
    rw [decide_eq_false h2, cond_false, if_neg h2]
    exact cnt_loop x.num (fun s => rfl) (by omega) (by omega)
theorem rising_asc {l : List ByteArray} (h : Rising l) : Asc l := by
  unfold Asc
  rw [List.pairwise_iff_getElem]
  intro i j hi hj hij
  have := h i j hij _ _ (List.getElem?_eq_getElem hi) (List.getElem?_eq_getElem hj)
  cases e : Op.bytesLess l[j].toList l[i].toList with
  | false => rfl
  | true => have := bl_trans this e; rw [bl_irrefl] at this; cases this
/-- The keys of a map or of a list of strings. -/
def namedS (v : Val) : List KeyG × Int :=
  if v.kind = 6 then ([], 11)
  else if v.kind = 5 then (if v.keys.length > 256 then ([], 14) else (skeys v.keys, 0))
  else if v.kind = 4 then
    (if (namesS v.items []).2 ≠ 0 then ([], (namesS v.items []).2)
     else if (namesS v.items []).1.length > 256 then ([], 14) else (skeys (sortP cmpS (namesS v.items []).1), 0))
  else ([], 6)
theorem items_len {v : Val} (h : v.Fits) : v.items.length ≤ 1759218604441 := by
  obtain ⟨f1, f2, f3, f4, f5, f6, f7⟩ := h.parts
  omega
theorem named_spec {v : Val} (h : Ck v) : g_instances_named v = some (namedS v) := by
  unfold g_instances_named namedS
  by_cases h6 : v.kind = 6
  · rw [decide_eq_true h6, cond_true, if_pos h6]
  rw [decide_eq_false h6, cond_false, if_neg h6]
  by_cases h5 : v.kind = 5
  · rw [decide_eq_true h5, cond_true, if_pos h5]
    by_cases hl : v.keys.length > 256
    · rw [decide_eq_true (show (v.keys.length : Int) > 256 by omega), cond_true, if_pos hl]
    · rw [decide_eq_false (show ¬ (v.keys.length : Int) > 256 by omega), cond_false, if_neg hl]
      exact str_loop v.keys (by omega) fun s => rfl
  rw [decide_eq_false h5, cond_false, if_neg h5]
  by_cases h4 : v.kind = 4
  · rw [decide_eq_true h4, cond_true, if_pos h4, texts_spec v.items (items_len h.ok.1), Option.bind_some]
    by_cases he : (namesS v.items []).2 = 0
    · have hp := (sortS_perm (namesS v.items []).1).length_eq
      rw [if_pos he, if_neg (by simp [he]), decide_eq_true (show (sortP cmpS (namesS v.items []).1, (0 : Int)).2 = 0 from rfl), Bool.not_true, cond_false]
      by_cases hl : (namesS v.items []).1.length > 256
      · rw [decide_eq_true (show ((sortP cmpS (namesS v.items []).1, (0 : Int)).1.length : Int) > 256 by simp only; omega), cond_true, if_pos hl]
      · rw [decide_eq_false (show ¬ ((sortP cmpS (namesS v.items []).1, (0 : Int)).1.length : Int) > 256 by simp only; omega), cond_false, if_neg hl]
        exact str_loop (sortP cmpS (namesS v.items []).1) (by omega) fun s => rfl
    · rw [if_neg he, if_pos he, decide_eq_false he, Bool.not_false, cond_true]
  · rw [decide_eq_false h4, cond_false, if_neg h4]
/-- The keys of a repetition. -/
noncomputable def keysS (r : Int) (v : Val) : List KeyG × Int :=
  if r = 0 then ([KeyG.mk 0 0 eS], 0) else if r = 1 then countS v else if r = 2 then namedS v else ([], 1)
theorem Keys_spec (r : Int) {v : Val} (h : Ck v) : g_instances_Keys r v = some (keysS r v) := by
  unfold g_instances_Keys keysS
  by_cases h0 : r = 0
  · rw [decide_eq_true h0, cond_true, if_pos h0]
  rw [decide_eq_false h0, cond_false, if_neg h0]
  by_cases h1 : r = 1
  · rw [decide_eq_true h1, cond_true, if_pos h1, counted_spec h]; rfl
  rw [decide_eq_false h1, cond_false, if_neg h1]
  by_cases h2 : r = 2
  · rw [decide_eq_true h2, cond_true, if_pos h2, named_spec h]; rfl
  · rw [decide_eq_false h2, cond_false, if_neg h2]
theorem rKeys_spec (r : Int) {v : Val} (h : Ck v) : g_r21_Keys r v = some (keysS r v) := by
  unfold g_r21_Keys keysS
  by_cases h0 : r = 0
  · rw [decide_eq_true h0, cond_true, if_pos h0]
  rw [decide_eq_false h0, cond_false, if_neg h0]
  by_cases h1 : r = 1
  · rw [decide_eq_true h1, cond_true, if_pos h1, rcount_spec h]; rfl
  rw [decide_eq_false h1, cond_false, if_neg h1]
  by_cases h2 : r = 2
  · rw [decide_eq_true h2, cond_true, if_pos h2]
    unfold namedS
    have tail : ∀ l : List ByteArray, (bif decide ((l.length : Int) > 256) then some (([] : List KeyG), (14 : Int)) else (g_r21_sorted l).bind fun y8 => loopO (g_r21_Keys_L1 y8) (0, [])) = some (if l.length > 256 then ([], 14) else (skeys (sortP cmpS l), 0)) := fun l => by
      by_cases hl : l.length > 256
      · rw [decide_eq_true (show (l.length : Int) > 256 by omega), cond_true, if_pos hl]
      · have hp := (sortS_perm l).length_eq
        rw [decide_eq_false (show ¬ (l.length : Int) > 256 by omega), cond_false, if_neg hl, rsorted_spec l (by omega), Option.bind_some]
        exact str_loop (sortP cmpS l) (by omega) fun s => rfl
    by_cases h6 : v.kind = 6
    · unfold g_r21_names
      rw [decide_eq_true h6, cond_true, if_pos h6]; rfl
    rw [if_neg h6]
    by_cases h5 : v.kind = 5
    · unfold g_r21_names
      rw [decide_eq_false h6, cond_false, decide_eq_true h5, cond_true, if_pos h5, Option.bind_some]
      rw [decide_eq_true (show (v.keys, (0 : Int)).2 = 0 from rfl), Bool.not_true, cond_false]
      refine (tail v.keys).trans ?_
      rw [sortS_self (rising_asc h.ok.rising)]
    rw [if_neg h5]
    by_cases h4 : v.kind = 4
    · rw [if_pos h4, rnames_spec v h4 (items_len h.ok.1), Option.bind_some]
      by_cases he : (namesS v.items []).2 = 0
      · rw [decide_eq_true he, Bool.not_true, cond_false, if_neg (by simp [he])]
        exact tail _
      · rw [decide_eq_false he, Bool.not_false, cond_true, if_pos he]
    · unfold g_r21_names
      rw [decide_eq_false h6, cond_false, decide_eq_false h5, cond_false, decide_eq_false h4, Bool.not_false, cond_true, if_neg h4]; rfl
  · rw [decide_eq_false h2, cond_false, if_neg h2]
theorem keys_self (a : List KeyG) (hl : a.length ≤ 1000000) : g_l21_keys a a = some true := by
  unfold g_l21_keys
  rw [decide_eq_true rfl, Bool.not_true, cond_false]
  have := loop_meas (body := g_l21_keys_L1 a a) (fun s => ∃ i : Nat, i ≤ a.length ∧ s = (i : Int)) (fun s => a.length - s.toNat) (fun r => r = true) ?_ 0 ⟨0, Nat.zero_le _, rfl⟩
  · obtain ⟨q, h, rfl⟩ := this; exact h
  rintro s ⟨i, hi, rfl⟩
  unfold g_l21_keys_L1
  by_cases hlt : i < a.length
  · left
    refine ⟨((i + 1 : Nat) : Int), ?_, ⟨i + 1, hlt, rfl⟩, by simp only [Int.toNat_natCast]; omega⟩
    rw [decide_eq_true (show (i : Int) < (a.length : Int) by omega), cond_true, idx_nat, List.getElem?_eq_getElem hlt, Option.bind_some, Option.bind_some]
    simp only [decide_true, Bool.and_true, Bool.not_true, cond_false]
    rw [wrap_nat hlt (by omega)]
  · right
    obtain rfl : i = a.length := by omega
    refine ⟨_, ?_, rfl⟩
    rw [decide_eq_false (show ¬ (a.length : Int) < (a.length : Int) by omega), cond_false]
theorem skeys_len (l : List ByteArray) : (skeys l).length = l.length := by simp [skeys]
theorem nkeys_len (n : Nat) : (nkeys n).length = n := by simp [nkeys]
theorem keysS_len (r : Int) (v : Val) : (keysS r v).1.length ≤ 256 := by
  unfold keysS
  split
  · simp
  split
  · unfold countS
    split
    · simp
    split
    · simp
    split
    · simp
    split
    · simp
    split
    · simp
    · rw [nkeys_len]; omega
  split
  · unfold namedS
    split
    · simp
    split
    · split
      · simp
      · rw [skeys_len]; omega
    split
    · split
      · simp
      split
      · simp
      · rw [skeys_len, (sortS_perm _).length_eq]; omega
    · simp
  · simp
end Abs
end Go.Proofs.YtodgepbihbcdbaaGreatDoor

namespace Go.Proofs.YtodgepbihbcdbaaGreatDoor
set_option linter.unusedSimpArgs false
set_option linter.unusedVariables false
namespace Abs
open Go.RowKit
/-- The first n places. -/
def iota (n : Nat) : List Int := (List.range n).map fun (i : Nat) => (i : Int)
theorem iota_len (n : Nat) : (iota n).length = n := by simp [iota]
/-- The order that value.Map gives its keys: places, a permutation, the keys in ascending order. -/
theorem order_spec (keys : List ByteArray) (hl : keys.length ≤ 140737488351232) :
    ∃ o, m_sortI keys (iota keys.length) = some o ∧ o.Perm (iota keys.length) ∧ ∀ (i j : Nat) (x y : Int) (a b : ByteArray), i < j → o[i]? = some x → o[j]? = some y → keys[x.toNat]? = some a → keys[y.toNat]? = some b → Op.bytesLess b.toList a.toList = false := by
  have hr : ∀ x ∈ iota keys.length, 0 ≤ x ∧ x < keys.length := fun x hx => by
    simp only [iota, List.mem_map, List.mem_range] at hx
    obtain ⟨i, hi, rfl⟩ := hx
    omega
  unfold m_sortI
  by_cases h0 : iota keys.length = []
  · rw [if_pos h0]
    exact ⟨[], rfl, by rw [h0], fun i j x y a b _ e => by simp at e⟩
  · rw [if_neg h0]
    have hpos : 0 < keys.length := Nat.pos_of_ne_zero fun e => h0 (by rw [e]; rfl)
    have hc : 0 < keys.length ∧ (iota keys.length).length < 4611686018427387904 ∧ ∀ x ∈ iota keys.length, 0 ≤ x ∧ x < keys.length := ⟨hpos, by rw [iota_len]; omega, hr⟩
    rw [dif_pos hc]
    letI : Inhabited (Plc keys) := ⟨⟨0, hpos⟩⟩
    obtain ⟨q1, q2⟩ := sortP_ok (swoP keys) (plcs keys (iota keys.length) hc.2.2)
    refine ⟨_, rfl, ?_, fun i j x y a b hij e1 e2 k1 k2 => ?_⟩
    · have := q1.map (fun a : Plc keys => (a.1 : Int))
      rwa [plcs_val] at this
    · simp only [List.getElem?_map, Option.map_eq_some_iff] at e1 e2
      obtain ⟨p, e1, rfl⟩ := e1
      obtain ⟨q, e2, rfl⟩ := e2
      obtain ⟨hi, e1⟩ := List.getElem?_eq_some_iff.1 e1
      obtain ⟨hj, e2⟩ := List.getElem?_eq_some_iff.1 e2
      have h := List.pairwise_iff_getElem.1 q2 i j hi hj hij
      rw [e1, e2] at h
      have h' : ltOf cmpS (keys[q.1]'q.2) (keys[p.1]'p.2) = false := h
      rw [ltS] at h'
      rw [Int.toNat_natCast, List.getElem?_eq_getElem p.2] at k1
      rw [Int.toNat_natCast, List.getElem?_eq_getElem q.2] at k2
      obtain rfl := Option.some.inj k1
      obtain rfl := Option.some.inj k2
      exact h'
/-- value.Map up to its order. -/
theorem map_first (keys : List ByteArray) (items : List Val) (hk : keys.length = items.length) (hl : keys.length * 8 ≤ 140737488351232) {o : List Int} (ho : m_sortI keys (iota keys.length) = some o) (r : Val × Int)
    (h : loopO (g_value_Map_L2 keys items o) (0, [], []) = some (.inr r)) : g_value_Map keys items = some r := by
  unfold g_value_Map
  have hm : mkl 8 (keys.length : Int) (0 : Int) = some (List.replicate keys.length 0) := by
    unfold mkl
    rw [if_pos (by omega)]
    simp
  rw [decide_eq_true (show (keys.length : Int) = items.length by omega), Bool.not_true, cond_false, hm, Option.bind_some]
  have := loop_meas (body := g_value_Map_L1 keys items (List.replicate keys.length 0)) (fun s => ∃ i : Nat, i ≤ keys.length ∧ s.1 = (i : Int) ∧ s.2.length = keys.length ∧ ∀ j : Nat, j < i → s.2[j]? = some (j : Int)) (fun s => keys.length - s.1.toNat) (fun q => q = r) ?_ (0, List.replicate keys.length 0) ⟨0, Nat.zero_le _, rfl, by simp, fun j hj => by omega⟩
  · obtain ⟨q, h', e⟩ := this
    rw [e] at h'; exact h'
  rintro ⟨s, l⟩ ⟨i, hi, rfl, hlen, hv⟩
  simp only at hlen hv ⊢
  unfold g_value_Map_L1
  simp only [List.length_replicate]
  by_cases hlt : i < keys.length
  · left
    refine ⟨(((i + 1 : Nat) : Int), upd l (i : Int) (i : Int)), ?_, ⟨i + 1, hlt, rfl, by simp only [upd_len]; exact hlen, fun j hj => ?_⟩, by simp only [Int.toNat_natCast]; omega⟩
    · rw [decide_eq_true (show (i : Int) < (keys.length : Int) by omega), cond_true, idx_nat, List.getElem?_eq_getElem (show i < l.length by omega), Option.bind_some, wrap_nat hlt (by omega)]
    · unfold upd
      simp only [Int.toNat_natCast]
      rcases Nat.eq_or_lt_of_le (Nat.le_of_lt_succ hj) with rfl | hj'
      · rw [List.getElem?_set_self (by omega)]
      · rw [List.getElem?_set_ne (by omega)]; exact hv j hj'
  · right
    obtain rfl : i = keys.length := by omega
    have hlo : l = iota keys.length := by
      apply List.ext_getElem?
      intro j
      rcases Nat.lt_or_ge j keys.length with hj | hj
      · rw [hv j hj]; simp [iota, hj]
      · rw [List.getElem?_eq_none (by omega), List.getElem?_eq_none (by rw [iota_len]; exact hj)]
    refine ⟨r, ?_, rfl⟩
    rw [decide_eq_false (show ¬ (keys.length : Int) < (keys.length : Int) by omega), cond_false, hlo, ho, Option.bind_some, h]
theorem iota_get {n i : Nat} {x : Int} (h : (iota n)[i]? = some x) : x = (i : Int) ∧ i < n := by
  have hi : i < n := by have := (List.getElem?_eq_some_iff.1 h).1; rwa [iota_len] at this
  simp [iota, hi] at h
  exact ⟨h.symm, hi⟩
/-- Rising keys are in order. -/
theorem order_rising {keys : List ByteArray} (hl : keys.length ≤ 140737488351232) (hr : Rising keys) : m_sortI keys (iota keys.length) = some (iota keys.length) := by
  obtain ⟨o, h1, h2, h3⟩ := order_spec keys hl
  rw [h1]
  congr 1
  refine List.Perm.eq_of_pairwise (le := fun x y : Int => ∀ a b, keys[x.toNat]? = some a → keys[y.toNat]? = some b → Op.bytesLess b.toList a.toList = false) (fun x y hx hy k1 k2 => ?_) ?_ ?_ h2
  · have hx' := h2.mem_iff.1 hx
    obtain ⟨i, hi⟩ := List.getElem?_of_mem hx'
    obtain ⟨j, hj⟩ := List.getElem?_of_mem hy
    obtain ⟨rfl, hi'⟩ := iota_get hi
    obtain ⟨rfl, hj'⟩ := iota_get hj
    have e1 := List.getElem?_eq_getElem hi'
    have e2 := List.getElem?_eq_getElem hj'
    have p1 := k1 _ _ (by rw [Int.toNat_natCast]; exact e1) (by rw [Int.toNat_natCast]; exact e2)
    have p2 := k2 _ _ (by rw [Int.toNat_natCast]; exact e2) (by rw [Int.toNat_natCast]; exact e1)
    have e := ba_ext (bl_total p2 p1)
    rw [e] at e1
    rw [rising_nodup hr e1 e2]
  · rw [List.pairwise_iff_getElem]
    intro i j hi hj hij a b k1 k2
    exact h3 i j _ _ a b hij (List.getElem?_eq_getElem hi) (List.getElem?_eq_getElem hj) k1 k2
  · rw [List.pairwise_iff_getElem]
    intro i j hi hj hij a b k1 k2
    obtain ⟨e1, _⟩ := iota_get (List.getElem?_eq_getElem hi)
    obtain ⟨e2, _⟩ := iota_get (List.getElem?_eq_getElem hj)
    rw [e1, Int.toNat_natCast] at k1
    rw [e2, Int.toNat_natCast] at k2
    have := hr i j hij a b k1 k2
    cases e : Op.bytesLess b.toList a.toList with
    | false => rfl
    | true => have := bl_trans this e; rw [bl_irrefl] at this; cases this
/-- value.Map at keys in order. -/
theorem map_rising (keys : List ByteArray) (items : List Val) (hk : keys.length = items.length) (hl : keys.length * 80 ≤ 140737488351232) (hr : Rising keys) (hf : ∀ x ∈ items, x.Fits) :
    g_value_Map keys items = some (Val.mk 5 0 eS items keys, 0) := by
  refine map_first keys items hk (by omega) (order_rising (by omega) hr) _ ?_
  have := loop_meas (body := g_value_Map_L2 keys items (iota keys.length)) (fun s => ∃ i : Nat, i ≤ keys.length ∧ s = ((i : Int), items.take i, keys.take i)) (fun s => keys.length - s.1.toNat) (fun q => q = .inr (Val.mk 5 0 eS items keys, 0)) ?_ (0, [], []) ⟨0, Nat.zero_le _, rfl⟩
  · obtain ⟨q, h', e⟩ := this
    rw [e] at h'; exact h'
  rintro s ⟨i, hi, rfl⟩
  unfold g_value_Map_L2
  simp only [iota_len]
  by_cases hlt : i < keys.length
  · left
    have hi2 : i < items.length := by omega
    have e0 : idx (iota keys.length) (i : Int) = some (i : Int) := by rw [idx_nat]; simp [iota, hlt]
    have e1 : idx keys (i : Int) = some keys[i] := by rw [idx_nat, List.getElem?_eq_getElem hlt]
    have e2 : idx items (i : Int) = some items[i] := by rw [idx_nat, List.getElem?_eq_getElem hi2]
    have e3 : t_value_copied items[i] = some items[i] := copied_spec _ (hf _ (List.getElem_mem hi2))
    refine ⟨(((i + 1 : Nat) : Int), items.take (i + 1), keys.take (i + 1)), ?_, ⟨i + 1, hlt, rfl⟩, by simp only [Int.toNat_natCast]; omega⟩
    have a1 : app 16 (keys.take i) [keys[i]] = some (keys.take (i + 1)) := by
      rw [app_of (by decide) (by simp; omega), List.take_add_one, List.getElem?_eq_getElem hlt]; rfl
    have a2 : app 80 (items.take i) [items[i]] = some (items.take (i + 1)) := by
      rw [app_of (by decide) (by simp; omega), List.take_add_one, List.getElem?_eq_getElem hi2]; rfl
    rw [decide_eq_true (show (i : Int) < (keys.length : Int) by omega), cond_true, e0, Option.bind_some, e1, e2]
    simp only [Option.bind_some, e3, a1, a2]
    rw [wrap_nat hlt (by omega)]
    cases i with
    | zero => rw [decide_eq_false (show ¬ (((0 : Nat) : Int) > 0) by omega), cond_false]
    | succ j =>
      have hj : j < keys.length := by omega
      have w : IntKind.i64.wrap (((j + 1 : Nat) : Int) - 1) = (j : Int) := by
        rw [show (((j + 1 : Nat) : Int) - 1) = (j : Int) by omega]; exact wrap_in (by omega) (by omega)
      have e4 : idx (keys.take (j + 1)) (j : Int) = some keys[j] := by
        rw [idx_nat, List.getElem?_take, if_pos (by omega), List.getElem?_eq_getElem hj]
      rw [decide_eq_true (show (((j + 1 : Nat) : Int) > 0) by omega), cond_true, w, e4, Option.bind_some]
      rw [decide_eq_false (fun e => ?_), cond_false]
      have := rising_nodup hr (List.getElem?_eq_getElem hj) (by rw [← e]; exact List.getElem?_eq_getElem hlt)
      omega
  · right
    obtain rfl : i = keys.length := by omega
    refine ⟨_, ?_, rfl⟩
    rw [decide_eq_false (show ¬ (keys.length : Int) < (keys.length : Int) by omega), cond_false, List.take_length, hk, List.take_length]
end Abs
end Go.Proofs.YtodgepbihbcdbaaGreatDoor

namespace Go.Proofs.YtodgepbihbcdbaaGreatDoor
set_option linter.unusedSimpArgs false
set_option linter.unusedVariables false
namespace Abs
open Go.RowKit
theorem vNumber_eq (n : Int) : g_value_Number n = some (vNum n) := rfl
theorem vString_eq (s : ByteArray) : g_value_String s = some (vText s) := rfl
theorem m_checkE_eq {v : Val} (h : v.Fits) : m_checkE v = some (checkE v) := gd_of h
theorem keyG_ext {a b : KeyG} (h1 : a.kind = b.kind) (h2 : a.num = b.num) (h3 : a.str = b.str) : a = b := by
  cases a; cases b; simp only at h1 h2 h3; subst h1 h2 h3; rfl
def eqK (a b : KeyG) : Bool := decide ((a.kind : Int) = b.kind) && (decide ((a.num : Int) = b.num) && (decide (a.str = b.str) && true))
theorem eqK_iff {a b : KeyG} : eqK a b = true ↔ a = b := by
  unfold eqK
  simp only [Bool.and_true, Bool.and_eq_true, decide_eq_true_eq]
  exact ⟨fun h => keyG_ext h.1 h.2.1 h.2.2, fun h => by subst h; exact ⟨rfl, rfl, rfl⟩⟩
theorem eqK_self (a : KeyG) : eqK a a = true := eqK_iff.2 rfl
def hasK (l : List KeyG) (k : KeyG) : Bool := l.any (eqK k)
theorem hasK_iff {l : List KeyG} {k : KeyG} : hasK l k = true ↔ k ∈ l := by
  unfold hasK
  rw [List.any_eq_true]
  exact ⟨fun ⟨x, h1, h2⟩ => by rw [eqK_iff.1 h2]; exact h1, fun h => ⟨k, h, eqK_self k⟩⟩
theorem containsK_spec (l : List KeyG) (k : KeyG) (hl : l.length ≤ 9223372036854775807) : g_slices_Contains_Key l k = some (hasK l k) := by
  obtain ⟨n, h1, h2⟩ := loop_first l (eqK k) (body := g_slices_Index_Key_L1 l k) hl (fun i x hi hx => by
    simp only [g_slices_Index_Key_L1, decide_eq_true (show (i : Int) < l.length by omega), cond_true, idx_nat, hx, Option.bind_some]
    show (bif eqK k x then _ else _) = _
    cases eqK k x <;> rfl) (by simp [g_slices_Index_Key_L1])
  unfold g_slices_Contains_Key g_slices_Index_Key
  rw [h1, Option.bind_some, h2]; rfl
/-! ### Objects -/
def scpS (root : ByteArray) (keys : List ByteArray) (items : List Val) : Val := Val.mk 5 0 eS [Val.mk 5 0 eS items keys] [root]
theorem rising_one (s : ByteArray) : Rising [s] := fun i j hij a b h1 h2 => by
  have := (List.getElem?_eq_some_iff.1 h1).1
  have := (List.getElem?_eq_some_iff.1 h2).1
  simp only [List.length_cons, List.length_nil] at *; omega
theorem rising_two {s t : ByteArray} (h : Op.bytesLess s.toList t.toList = true) : Rising [s, t] := fun i j hij a b h1 h2 => by
  have := (List.getElem?_eq_some_iff.1 h1).1
  have := (List.getElem?_eq_some_iff.1 h2).1
  simp only [List.length_cons, List.length_nil] at *
  obtain rfl : i = 0 := by omega
  obtain rfl : j = 1 := by omega
  simp at h1 h2
  subst h1 h2; exact h
theorem scp_spec (root : ByteArray) (keys : List ByteArray) (items : List Val) (hk : keys.length = items.length) (hl : keys.length ≤ 100) (hr : Rising keys) (hs : ∀ s ∈ keys, s.size ≤ 140737488351232) (hf : ∀ x ∈ items, x.Fits) :
    g_instances_object root keys items = some (scpS root keys items) := by
  unfold g_instances_object
  rw [map_rising keys items hk (by omega) hr hf, Option.bind_some]
  simp only
  rw [map_rising [root] _ rfl (by simp) (rising_one root) (fun x hx => by rw [List.mem_singleton.1 hx]; exact fits_map (by omega) (by omega) hs hf)]
  rfl
theorem scp_fits {root : ByteArray} {keys : List ByteArray} {items : List Val} (hr : root.size ≤ 140737488351232) (hk : keys.length ≤ 1000) (hl : items.length ≤ 1000) (hs : ∀ s ∈ keys, s.size ≤ 140737488351232) (hf : ∀ x ∈ items, x.Fits) : (scpS root keys items).Fits :=
  fits_map (by simp) (by simp) (fun s h => by rw [List.mem_singleton.1 h]; exact hr) (fun x hx => by rw [List.mem_singleton.1 hx]; exact fits_map hl hk hs hf)
abbrev bCount : ByteArray := ⟨#[99, 111, 117, 110, 116]⟩
abbrev bIndex : ByteArray := ⟨#[105, 110, 100, 101, 120]⟩
abbrev bEach : ByteArray := ⟨#[101, 97, 99, 104]⟩
abbrev bKey : ByteArray := ⟨#[107, 101, 121]⟩
abbrev bValue : ByteArray := ⟨#[118, 97, 108, 117, 101]⟩
/-- The scope of an instance, before it is checked. -/
def scopeV (r : Int) (v : Val) (k : KeyG) : Val :=
  if r = 1 then scpS bCount [bIndex] [vNum k.num]
  else if r = 2 then scpS bEach [bKey, bValue] [vText k.str, if v.kind = 5 then look v.keys v.items k.str else vText k.str]
  else Val.mk 5 0 eS [] []
/-- A value that is checked last. -/
def fin (x : Val) : Val × Int := if checkE x = 0 then (x, 0) else (vZ, checkE x)
/-- The scope of an instance. -/
noncomputable def scopeS (r : Int) (v : Val) (k : KeyG) : Val × Int :=
  if (keysS r v).2 ≠ 0 then (vZ, (keysS r v).2) else if hasK (keysS r v).1 k = true then fin (scopeV r v k) else (vZ, 16)
def KFits (k : KeyG) : Prop := (-9223372036854775808 ≤ k.num ∧ k.num ≤ 9223372036854775807) ∧ k.str.size ≤ 140737488351232
theorem scope_fits (r : Int) {v : Val} (h : Ck v) {k : KeyG} (hk : KFits k) : (scopeV r v k).Fits := by
  have ht : (vText k.str).Fits := fits_simple (by decide) (by decide) hk.2
  unfold scopeV
  split
  · exact scp_fits (by decide) (by simp) (by simp) (fun s h => by rw [List.mem_singleton.1 h]; decide) (fun x hx => by rw [List.mem_singleton.1 hx]; exact fits_simple (by decide) hk.1 eS_size)
  split
  · refine scp_fits (by decide) (by simp) (by simp) (fun s h => ?_) (fun x hx => ?_)
    · simp at h; rcases h with rfl | rfl <;> decide
    · simp at hx
      rcases hx with rfl | rfl
      · exact ht
      · split
        · exact (h.look k.str).ok.1
        · exact ht
  · exact fits_map (by simp) (by simp) (fun s h => absurd h List.not_mem_nil) (fun x h => absurd h List.not_mem_nil)
theorem fin_spec {x : Val} (h : x.Fits) : (m_checkE x).bind (fun y => bif (!decide (y = 0)) then some (vZ, y) else some (x, 0)) = some (fin x) := by
  rw [m_checkE_eq h, Option.bind_some]
  unfold fin
  by_cases e : checkE x = 0
  · rw [decide_eq_true e, if_pos e]; rfl
  · rw [decide_eq_false e, if_neg e]; rfl
theorem Scope_spec (r : Int) {v : Val} (h : Ck v) {k : KeyG} (hk : KFits k) : g_instances_Scope r v k = some (scopeS r v k) := by
  have ht : (vText k.str).Fits := fits_simple (by decide) (by decide) hk.2
  have hf := scope_fits r h hk
  have h2 : ∀ {x : Val}, x.Fits → ∀ y ∈ [vText k.str, x], y.Fits := fun hx y hy => by
    simp at hy; rcases hy with rfl | rfl
    · exact ht
    · exact hx
  have hs2 : ∀ s ∈ [bKey, bValue], s.size ≤ 140737488351232 := fun s h => by
    simp at h; rcases h with rfl | rfl <;> decide
  have hr2 : Rising [bKey, bValue] := rising_two (by rw [ByteArray.toList_eq, ByteArray.toList_eq]; decide)
  unfold g_instances_Scope scopeS
  rw [Keys_spec r h, Option.bind_some]
  by_cases he : (keysS r v).2 = 0
  · rw [decide_eq_true he, Bool.not_true, cond_false, if_neg (by simp [he]), containsK_spec _ _ (by have := keysS_len r v; omega), Option.bind_some]
    cases hc : hasK (keysS r v).1 k with
    | false => rfl
    | true =>
      rw [Bool.not_true, cond_false, if_pos rfl]
      unfold scopeV at hf ⊢
      by_cases r1 : r = 1
      · rw [if_pos r1] at hf ⊢
        rw [decide_eq_true r1, cond_true, vNumber_eq, Option.bind_some, scp_spec _ _ _ rfl (by simp) (rising_one _) (fun s h => by rw [List.mem_singleton.1 h]; decide) (fun x hx => by rw [List.mem_singleton.1 hx]; exact fits_simple (by decide) hk.1 eS_size), Option.bind_some]
        exact fin_spec hf
      rw [decide_eq_false r1, cond_false]
      rw [if_neg r1] at hf ⊢
      by_cases r2 : r = 2
      · rw [if_pos r2] at hf ⊢
        rw [decide_eq_true r2, cond_true]
        simp only [vString_eq, Option.bind_some]
        by_cases h5 : v.kind = 5
        · rw [if_pos h5] at hf ⊢
          rw [decide_eq_true h5, cond_true, get_full v k.str h.ok.1 h5 (h.ok.shape.2.2.2.2.2.2.1 h5) h.ok.rising, Option.bind_some, scp_spec _ _ _ rfl (by simp) hr2 hs2 (h2 (h.look k.str).ok.1), Option.bind_some]
          exact fin_spec hf
        · rw [if_neg h5] at hf ⊢
          rw [decide_eq_false h5, cond_false, scp_spec _ _ _ rfl (by simp) hr2 hs2 (h2 ht), Option.bind_some]
          exact fin_spec hf
      · rw [if_neg r2] at hf ⊢
        rw [decide_eq_false r2, cond_false]
        exact fin_spec hf
  · rw [decide_eq_false he, Bool.not_false, cond_true, if_pos he]
theorem copiesv_spec (l : List Val) (hl : l.length * 80 ≤ 140737488351232) (h : ∀ x ∈ l, x.Fits) : t_value_copies l = some l := copies_spec _ l hl fun x hx => copied_spec x (h x hx)
theorem List_spec (l : List Val) (hl : l.length * 80 ≤ 140737488351232) (h : ∀ x ∈ l, x.Fits) : g_value_List l = some (Val.mk 4 0 eS l []) := by
  unfold g_value_List
  rw [copiesv_spec l hl h]; rfl
/-! ### Known answers -/
theorem text_a : vtext ⟨#[97]⟩ = 0 := by decide
theorem text_b : vtext ⟨#[98]⟩ = 0 := by decide
theorem text_2 : vtext ⟨#[50]⟩ = 0 := by decide
theorem num_text2 : primS g_convert_toNumber (vText ⟨#[50]⟩) = (vNum 2, 0) := by
  unfold primS g_convert_toNumber
  rw [decide_eq_false (show ¬ (vText ⟨#[50]⟩).kind = 2 by decide), decide_eq_true (show (vText ⟨#[50]⟩).kind = 3 by decide)]
  simp only [cond_false, Bool.not_true]
  rw [show m_parse (vText ⟨#[50]⟩).str = some (2, 0) by unfold m_parse; rw [gd_of (by decide)]; decide]
  rfl
theorem check_empty : checkE (Val.mk 4 0 eS [] []) = 0 := by
  unfold checkE
  rw [checkV_eq, if_neg (by decide), if_neg (by decide), if_neg (by rw [node_list]; decide)]
  rfl
theorem check_obj {root key : ByteArray} {x : Val} (hr : vtext root = 0) (hk : vtext key = 0) (hx : x.items = []) (hn : nodeE x = 0) : checkE (scpS root [key] [x]) = 0 := by
  have hxc : checkV x 3 2 = (0, 3) := by rw [checkV_eq, if_neg (by decide), if_neg (by decide), if_neg (by simp [hn]), hx]; rfl
  have hm : checkV (Val.mk 5 0 eS [x] [key]) 2 1 = (0, 3) := by
    rw [checkV_eq, if_neg (by decide), if_neg (by decide), if_neg (by simp [node_map1 hk]), items_mk, checkL, show (2 : Int) + 1 = 3 from rfl, show (1 : Int) + 1 = 2 from rfl, hxc]; rfl
  unfold checkE scpS
  rw [checkV_eq, if_neg (by decide), if_neg (by decide), if_neg (by simp [node_map1 hr]), items_mk, checkL, show (1 : Int) + 1 = 2 from rfl, show (0 : Int) + 1 = 1 from rfl, hm]; rfl
theorem awake21 : g_l21_awake = some true := by
  have ka : Ck (vText ⟨#[97]⟩) := vText_ck text_a (by decide)
  have kb : Ck (vText ⟨#[98]⟩) := vText_ck text_b (by decide)
  have k2 : Ck (vText ⟨#[50]⟩) := vText_ck text_2 (by decide)
  have n2 : Ck (vNum 2) := vNum_ck (by decide)
  have kl : Ck (Val.mk 4 0 eS [vText ⟨#[98]⟩, vText ⟨#[97]⟩] []) := by
    refine ck_of (fits_list (by decide) (by decide) fun x hx => ?_) (check_two rfl rfl (node_text text_b) (node_text text_a))
    simp at hx; rcases hx with rfl | rfl
    · exact kb.ok.1
    · exact ka.ok.1
  have c2 : cvS 2 (vText ⟨#[50]⟩) = (vNum 2, 0) := by
    unfold cvS
    rw [if_neg (by decide), toS_num _ (by decide) (by decide), num_text2]
  have c3 : cvS 2 (vNum 2) = (vNum 2, 0) := by
    unfold cvS
    rw [if_neg (by decide), toS_num _ (by decide) (by decide), (toNumber_prim.eq n2.ok.1).2.2.1 rfl]
  have s1 : sortP cmpS [(⟨#[98]⟩ : ByteArray), ⟨#[97]⟩] = [⟨#[97]⟩, ⟨#[98]⟩] := sortS_of (List.pairwise_cons.2 ⟨fun a ha => by rw [List.mem_singleton.1 ha, ByteArray.toList_eq, ByteArray.toList_eq]; decide, List.pairwise_singleton _ _⟩) (List.Perm.swap _ _ _)
  have e1 : keysS 2 (Val.mk 4 0 eS [vText ⟨#[98]⟩, vText ⟨#[97]⟩] []) = ([KeyG.mk 2 0 ⟨#[97]⟩, KeyG.mk 2 0 ⟨#[98]⟩], 0) := by
    have hn : namesS [vText ⟨#[98]⟩, vText ⟨#[97]⟩] [] = ([⟨#[98]⟩, ⟨#[97]⟩], 0) := by
      rw [namesS_cons, if_neg (by decide), if_neg (by decide), if_neg (by decide), namesS_cons, if_neg (by decide), if_neg (by decide), if_neg (by decide)]; rfl
    unfold keysS namedS
    rw [if_neg (by decide), if_neg (by decide), if_pos rfl, if_neg (by decide), if_neg (by decide), if_pos (by rfl), items_mk, hn, if_neg (by decide), if_neg (by decide), s1]; rfl
  have e2 : keysS 1 (vText ⟨#[50]⟩) = ([KeyG.mk 1 0 eS, KeyG.mk 1 1 eS], 0) := by
    unfold keysS countS
    rw [if_neg (by decide), if_pos rfl, if_neg (by decide), if_neg (by decide), c2]; rfl
  have e3 : keysS 1 (vNum 2) = ([KeyG.mk 1 0 eS, KeyG.mk 1 1 eS], 0) := by
    unfold keysS countS
    rw [if_neg (by decide), if_pos rfl, if_neg (by decide), if_neg (by decide), c3]; rfl
  have hcnt : vtext bCount = 0 := by decide
  have hind : vtext bIndex = 0 := by decide
  have s4 : scopeS 1 (vNum 2) (KeyG.mk 1 1 eS) = (scpS bCount [bIndex] [vNum 1], 0) := by
    unfold scopeS
    rw [e3, if_neg (by simp), if_pos (hasK_iff.2 (by simp))]
    unfold fin scopeV
    rw [if_pos rfl, if_pos (check_obj hcnt hind rfl (node_number (by decide)))]
  have s5 : scopeS 1 (vNum 2) (KeyG.mk 1 2 eS) = (vZ, 16) := by
    unfold scopeS
    rw [e3, if_neg (by simp), if_neg (fun h => by have := hasK_iff.1 h; simp at this)]
  have c0 : g_instances_Collect 1 [] [] = some (Val.mk 4 0 eS [] [], 0) := by
    unfold g_instances_Collect g_instances_expected
    rw [loop_done (q := true) (by unfold g_instances_expected_L1; rfl)]
    rw [List_spec [] (by simp) (fun x h => absurd h List.not_mem_nil)]
    have hm : m_checkE (Val.mk 4 0 eS [] []) = some 0 := by rw [m_checkE_eq (fits_list (by decide) (by simp) (fun x h => absurd h List.not_mem_nil)), check_empty]
    show (m_checkE (Val.mk 4 0 eS [] [])).bind _ = _
    rw [hm]; rfl
  unfold g_l21_awake g_l21_text g_l21_number
  simp only [Option.bind_some]
  rw [Keys_spec 2 kl, e1, Option.bind_some, Keys_spec 1 k2, e2, Option.bind_some, Scope_spec 1 n2 ⟨by decide, eS_size⟩, s4, Option.bind_some, Scope_spec 1 n2 ⟨by decide, eS_size⟩, s5, Option.bind_some, c0, Option.bind_some]
  rfl
/-! ### The law of kinds -/
theorem right_spec {v : Val} (h : v.Fits) : ∃ b, g_l21_right v = some b ∧ (b = true → Ck v ∧ smallV v 600 = true) := by
  unfold g_l21_right
  rw [show m_small v 600 = some (smallV v 600) from gd_of ⟨h, by decide, by decide⟩, Option.bind_some]
  cases e : smallV v 600 with
  | false => exact ⟨false, rfl, fun k => by cases k⟩
  | true =>
    rw [cond_true, m_checkE_eq h, Option.bind_some]
    exact ⟨_, rfl, fun k => ⟨ck_of h (of_decide_eq_true k), rfl⟩⟩
theorem law_Kinds (r : Int) (v : Val) (h : v.Fits) : g_l21_InstancesKinds r v = some true := by
  unfold g_l21_InstancesKinds
  obtain ⟨b, hb, hb2⟩ := right_spec h
  rw [hb, Option.bind_some]
  cases b with
  | false => rw [Bool.not_false, cond_true, awake21]; rfl
  | true =>
    have hc := (hb2 rfl).1
    rw [Bool.not_true, cond_false, Keys_spec r hc, rKeys_spec r hc, Option.bind_some, Option.bind_some, decide_eq_true rfl, cond_true, keys_self _ (by have := keysS_len r v; omega), Option.bind_some, cond_true, awake21]; rfl
end Abs
end Go.Proofs.YtodgepbihbcdbaaGreatDoor
