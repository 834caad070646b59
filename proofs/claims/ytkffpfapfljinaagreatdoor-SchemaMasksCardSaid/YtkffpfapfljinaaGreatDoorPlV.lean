/-
  The law of masks: what is sensitive is hidden, in the program as in the reference.
-/
import Derived.Test.YtkffpfapfljinaaGreatDoorPlQ
import Derived.Test.YtkffpfapfljinaaGreatDoorGnZ
namespace Go.Proofs.YtkffpfapfljinaaGreatDoor
set_option linter.unusedSimpArgs false
set_option linter.unusedVariables false
namespace Abs
open Go.RowKit
theorem qf8 {α : Type} {l : List α} {j : Nat} {x : α} (h : l[j]? = some x) : l.set j x = l := by
 refine List.ext_getElem? fun i => ?_
 rw [List.getElem?_set]
 split
 ·rename_i e; subst e
  rw [h]
  have := (List.getElem?_eq_some_iff.1 h).1
  rw [if_pos this]
 ·rfl
theorem qvx {f g : ByteArray → Val → Val} {keys : List ByteArray} {items : List Val} {n : ByteArray} (h : ∀ k x, k ≠ n → g k x = f k x) (hn : n ∉ keys) : List.zipWith g keys items = List.zipWith f keys items := by
 induction keys generalizing items with
 | nil => rfl
 | cons k r ih =>
  cases items with
  | nil => rfl
  | cons x s =>
   rw [List.zipWith_cons_cons, List.zipWith_cons_cons, ih (fun m => hn (List.mem_cons_of_mem _ m)), h k x (fun e => hn (by rw [e]; exact List.mem_cons_self))]
theorem q9c {f : ByteArray → Val → Val} {keys : List ByteArray} {items : List Val} {j : Nat} {n : ByteArray} {x : Val} (hk : keys[j]? = some n) (hx : items[j]? = some x) : (List.zipWith f keys items)[j]? = some (f n x) := by
 rw [List.getElem?_zipWith, hk, hx]
theorem zip_in {f g : ByteArray → Val → Val} {keys : List ByteArray} {items : List Val} {n : ByteArray} (h : ∀ k x, k ≠ n → g k x = f k x) (hr : Rising keys) {j : Nat} {x : Val} (hk : keys[j]? = some n) (hx : items[j]? = some x) :
  List.zipWith g keys items = (List.zipWith f keys items).set j (g n x) := by
 refine List.ext_getElem? fun i => ?_
 rw [List.getElem?_set]
 split
 ·rename_i e; subst e
  rw [q9c hk hx]
  have := (List.getElem?_eq_some_iff.1 (q9c (f := f) hk hx)).1
  rw [if_pos this]
 ·rename_i hne
  rw [List.getElem?_zipWith, List.getElem?_zipWith]
  cases hk2 : keys[i]? with
  | none => rfl
  | some k =>
   cases hx2 : items[i]? with
   | none => rfl
   | some y =>
    show some (g k y) = some (f k y)
    rw [h k y fun e => hne (q7h hr hk (e ▸ hk2))]
theorem qmb {g : ByteArray → Val → Val} (g0 : ∀ k x, g k x = x) : ∀ (keys : List ByteArray) (items : List Val), keys.length = items.length → List.zipWith g keys items = items
 | [], [], _ => rfl
 | [], _ :: _, h => by simp at h
 | _ :: _, [], h => by simp at h
 | k :: r, x :: s, h => by rw [List.zipWith_cons_cons, g0, qmb g0 r s (by simpa using h)]
abbrev MSt := Int × Int × ByteArray × List Val × List ByteArray × Int
theorem qjs {ρ : Type} (l : List ρ) (nm : ρ → ByteArray) (g : List ρ → ByteArray → Val → Val) (keys : List ByteArray) (items : List Val) (hlen : keys.length = items.length) (hr : Rising keys) {body : MSt → Option (MSt ⊕ Val)}
  (g0 : ∀ k x, g [] k x = x)
  (hg : ∀ (i : Nat) a, l[i]? = some a → ∀ k x, k ≠ nm a → g (l.take (i + 1)) k x = g (l.take i) k x)
  (step : ∀ (i : Nat) a, l[i]? = some a →
   (nm a ∉ keys → body (5, 0, eS, List.zipWith (g (l.take i)) keys items, keys, (i : Int)) = some (.inl (5, 0, eS, List.zipWith (g (l.take i)) keys items, keys, ((i + 1 : Nat) : Int)))) ∧
   (∀ (j : Nat) x, keys[j]? = some (nm a) → items[j]? = some x → body (5, 0, eS, List.zipWith (g (l.take i)) keys items, keys, (i : Int)) = some (.inl (5, 0, eS, (List.zipWith (g (l.take i)) keys items).set j (g (l.take (i + 1)) (nm a) x), keys, ((i + 1 : Nat) : Int)))))
  (stop : body (5, 0, eS, List.zipWith (g l) keys items, keys, (l.length : Int)) = some (.inr (Val.mk 5 0 eS (List.zipWith (g l) keys items) keys))) :
  qb body (5, 0, eS, items, keys, 0) = some (Val.mk 5 0 eS (List.zipWith (g l) keys items) keys) := by
 obtain ⟨q, h1, h2⟩ := q13 (body := body) (fun t => ∃ i : Nat, t = (5, 0, eS, List.zipWith (g (l.take i)) keys items, keys, (i : Int)) ∧ i ≤ l.length) (fun t => l.length - t.2.2.2.2.2.toNat) (fun q => q = Val.mk 5 0 eS (List.zipWith (g l) keys items) keys) (by
  rintro t ⟨i, rfl, hi⟩
  rcases Nat.eq_or_lt_of_le hi with h0 | h0
  ·subst h0
   rw [List.take_length]
   exact .inr ⟨_, stop, rfl⟩
  ·have ha := List.getElem?_eq_getElem h0
   obtain ⟨s1, s2⟩ := step i _ ha
   by_cases hn : nm l[i] ∈ keys
   ·obtain ⟨j, hj⟩ := List.getElem?_of_mem hn
    have hjl : j < items.length := by rw [← hlen]; exact (List.getElem?_eq_some_iff.1 hj).1
    have hx := List.getElem?_eq_getElem hjl
    refine .inl ⟨_, s2 j _ hj hx, ⟨i + 1, ?_, h0⟩, by simp only [Int.toNat_natCast]; omega⟩
    rw [zip_in (hg i _ ha) hr hj hx]
   ·refine .inl ⟨_, s1 hn, ⟨i + 1, ?_, h0⟩, by simp only [Int.toNat_natCast]; omega⟩
    rw [qvx (hg i _ ha) hn]) (5, 0, eS, items, keys, 0) ⟨0, by rw [List.take_zero, qmb g0 keys items hlen]; rfl, Nat.zero_le _⟩
 rw [h1, h2]
theorem qhl (l : List Val) (hl : l.length * 80 ≤ 140737488351232) (hf : ∀ x ∈ l, x.Fits) (hne : l.length ≠ 0) {body : Int × List Val → Option ((Int × List Val) ⊕ List Val)}
  (hb : body = fun s => bif (decide (s.1 < (l.length : Int))) then (idx l s.1).bind fun x5 => (tQb6 x5).bind fun y6 => (app 80 s.2 [y6]).bind fun l7 => some (.inl ((IntKind.i64.wrap (s.1 + 1)), l7)) else bif (decide ((s.2.length : Int) = 0)) then none else some (.inr (s.2))) : qb body (0, []) = some l := by
 have hn := q16 hl (by decide)
 have := qe4 (body := body) l (fun x => x) (fun acc => acc) (fun i acc x hi hx ha => by
  rw [hb]
  simp only [decide_eq_true (show (i : Int) < l.length by omega), cond_true, qc, hx, Option.bind_some, q87 x (hf x (List.mem_of_getElem? hx))]
  rw [qw acc x (by decide) (n := l.length) (by omega) hl, Option.bind_some, qk hi (by omega)]) (fun acc ha => by
  rw [hb]
  simp only [decide_eq_false (show ¬ (l.length : Int) < l.length by omega), cond_false]
  rw [decide_eq_false (show ¬ (acc.length : Int) = 0 by omega), cond_false])
 rw [this, List.map_id']
theorem put_i1 {w x : Val} (hw : w.Fits) (hne : w.items.length ≠ 0) : gQ9j w x = some (w.kind, w.num, w.str, w.items, w.keys) := by
 obtain ⟨f1, f2, f3, f4, f5, f6, f7⟩ := hw.parts
 have hn := q16 f4 (by decide)
 unfold gQ9j gQ9l
 rw [q5s f5, Option.bind_some, decide_eq_false (show ¬ (w.items.length : Int) = 0 by omega), cond_false, qef f4 (by decide), Option.bind_some, qhl (body := gQ9m w) w.items f4 f7 hne (by funext s; rfl)]; rfl
theorem qit {l : List Val} {j : Nat} (hj : j < l.length) (x : Val) : upd l (j : Int) x = l.set j x := by
 simp [upd]
theorem qkr {w x : Val} (hw : w.Fits) (hr : Rising w.keys) (hlen : w.keys.length = w.items.length) (hx : x.Fits) {j : Nat} {key : ByteArray} (hk : w.keys[j]? = some key) :
  gQ9i w key x = some (Val.mk w.kind w.num w.str (w.items.set j x) w.keys) := by
 obtain ⟨f1, f2, f3, f4, f5, f6, f7⟩ := hw.parts
 have hjk := (List.getElem?_eq_some_iff.1 hk).1
 have hn := q16 f5 (by decide)
 unfold gQ9i
 rw [put_i1 hw (by omega), Option.bind_some]
 obtain ⟨q, q1, q2, q3, q4, q5⟩ := q7i w.keys key (by omega) hr
 show (gQ7x w.keys key).bind _ = _
 rw [q1, Option.bind_some]
 have ht : q.2 = true := by
  cases h : q.2 with
  | true => rfl
  | false => exact absurd (List.mem_of_getElem? hk) (q5 h)
 have hj : q.1.toNat = j := q7h hr (q4 ht) hk
 have hj2 : q.1 = (j : Int) := by omega
 rw [hj2, ht]
 simp only []
 rw [decide_eq_false (show ¬ (j : Int) > w.items.length by omega), cond_false, cond_true, decide_eq_false (show ¬ (j : Int) = w.items.length by omega), cond_false, q87 x hx, Option.bind_some, qc, List.getElem?_eq_getElem (show j < w.items.length by omega), Option.bind_some, qit (by omega)]
theorem qij {w : Val} (hm : Mok w) (n : ByteArray) : gQ91 w n = some (if w.kind = 5 then (look w.keys w.items n, hasB w.keys n) else (vZ, false)) := by
 by_cases h5 : w.kind = 5
 ·rw [if_pos h5]; exact qik w n hm.fits h5 (hm.len h5) hm.ris
 ·rw [if_neg h5]
  obtain ⟨q, q1, _⟩ := q7i w.keys n (by have := q16 hm.fits.parts.2.2.2.2.1 (by decide); omega) hm.ris
  unfold gQ91
  rw [q1, Option.bind_some, decide_eq_false h5]; rfl
abbrev tS : Val := Val.mk 3 0 (⟨#[40, 115, 101, 110, 115, 105, 116, 105, 118, 101, 41]⟩ : ByteArray) [] []
theorem qlu : tS.Fits := q3t (by decide) (by decide) (by decide)
theorem tS_ok : Vok tS := q4z (s := (⟨#[40, 115, 101, 110, 115, 105, 116, 105, 118, 101, 41]⟩ : ByteArray)) (by decide) (by decide)
def actA (a : AttrG) (x : Val) : Val := if a.sensitive = true ∧ x.kind ≠ 0 then tS else x
def mA (l : List AttrG) (k : ByteArray) (x : Val) : Val := if (qf k l).2 = true then actA (qf k l).1 x else x
def hidS (l : List AttrG) (v : Val) : Val := if v.kind = 5 then Val.mk 5 0 eS (List.zipWith (mA l) v.keys v.items) v.keys else v
theorem qda (k : ByteArray) (a : AttrG) : ∀ l : List AttrG, qf k (l ++ [a]) = if (qf k l).2 = true then qf k l else if a.name = k then (a, true) else (aZ, false)
 | [] => by
  show qf k [a] = if (aZ, false).2 = true then _ else _
  rw [if_neg (by decide)]; rfl
 | b :: l => by
  show (if b.name = k then (b, true) else qf k (l ++ [a])) = _
  by_cases h : b.name = k
  ·rw [if_pos h]
   have : qf k (b :: l) = (b, true) := by show (if b.name = k then (b, true) else qf k l) = _; rw [if_pos h]
   rw [this]; rfl
  ·have : qf k (b :: l) = qf k l := by show (if b.name = k then (b, true) else qf k l) = _; rw [if_neg h]
   rw [if_neg h, this, qda k a l]
theorem qdb (k : ByteArray) (a : NestedG) : ∀ l : List NestedG, q11 k (l ++ [a]) = if (q11 k l).2 = true then q11 k l else if a.name = k then (a, true) else (nZ, false)
 | [] => by
  show q11 k [a] = if (nZ, false).2 = true then _ else _
  rw [if_neg (by decide)]; rfl
 | b :: l => by
  show (if b.name = k then (b, true) else q11 k (l ++ [a])) = _
  by_cases h : b.name = k
  ·rw [if_pos h]
   have : q11 k (b :: l) = (b, true) := by show (if b.name = k then (b, true) else q11 k l) = _; rw [if_pos h]
   rw [this]; rfl
  ·have : q11 k (b :: l) = q11 k l := by show (if b.name = k then (b, true) else q11 k l) = _; rw [if_neg h]
   rw [if_neg h, this, qdb k a l]
theorem qe8 {l : List AttrG} {k : ByteArray} {x : Val} (hx : x.Fits) : (mA l k x).Fits := by
 unfold mA actA
 split
 ·split
  ·exact qlu
  ·exact hx
 ·exact hx
theorem mA_ok {l : List AttrG} {k : ByteArray} {x : Val} (hx : Vok x) : Vok (mA l k x) := by
 unfold mA actA
 split
 ·split
  ·exact tS_ok
  ·exact hx
 ·exact hx
theorem qg1 {f : ByteArray → Val → Val} {keys : List ByteArray} {items : List Val} {y : Val} (h : y ∈ List.zipWith f keys items) : ∃ k x, x ∈ items ∧ y = f k x := by
 obtain ⟨j, hj⟩ := List.getElem?_of_mem h
 rw [List.getElem?_zipWith] at hj
 cases hk : keys[j]? with
 | none => rw [hk] at hj; cases hj
 | some k =>
  cases hx : items[j]? with
  | none => rw [hk, hx] at hj; cases hj
  | some x => rw [hk, hx] at hj; cases hj; exact ⟨k, x, List.mem_of_getElem? hx, rfl⟩
theorem qme {f : ByteArray → Val → Val} {v : Val} (hv : v.Fits) (hlen : v.keys.length = v.items.length) (hf : ∀ k x, x.Fits → (f k x).Fits) : (Val.mk 5 0 eS (List.zipWith f v.keys v.items) v.keys).Fits := by
 obtain ⟨f1, f2, f3, f4, f5, f6, f7⟩ := hv.parts
 refine Val.Fits.mk (by decide) (by decide) q3l ?_ f5 f6 fun y hy => ?_
 ·rw [List.length_zipWith, hlen, Nat.min_self]; exact f4
 ·obtain ⟨k, x, hx, rfl⟩ := qg1 hy
  exact hf k x (f7 x hx)
theorem qmc {f : ByteArray → Val → Val} {v : Val} (hv : Mok v) (h5 : v.kind = 5) (hf : ∀ k x, x.Fits → (f k x).Fits) : Mok (Val.mk 5 0 eS (List.zipWith f v.keys v.items) v.keys) :=
 ⟨qme hv.fits (hv.len h5) hf, fun _ => by show v.keys.length = (List.zipWith f v.keys v.items).length; rw [List.length_zipWith, hv.len h5, Nat.min_self], hv.ris⟩
theorem qpo {l : List AttrG} {v : Val} (hv : Mok v) : (hidS l v).Fits := by
 unfold hidS
 split
 ·rename_i h; exact qme hv.fits (hv.len h) fun k x hx => qe8 hx
 ·exact hv.fits
theorem q7o {α : Type} {l : List α} {i : Nat} {a : α} (h : l[i]? = some a) : l.take (i + 1) = l.take i ++ [a] := by
 have h1 := (List.getElem?_eq_some_iff.1 h)
 rw [List.take_succ_eq_append_getElem h1.1, h1.2]
theorem qpc {l : List AttrG} (hp : l.Pairwise fun a b => Op.bytesLess a.name.toList b.name.toList = true) {i : Nat} {a : AttrG} (ha : l[i]? = some a) : (qf a.name (l.take i)).2 = false := by
 cases h : (qf a.name (l.take i)).2 with
 | false => rfl
 | true =>
  obtain ⟨b, hb, e⟩ := qd8.1 h
  obtain ⟨j, hj⟩ := List.getElem?_of_mem hb
  have hji : j < i := by have := (List.getElem?_eq_some_iff.1 hj).1; rw [List.length_take] at this; omega
  have hj2 : l[j]? = some b := by rw [List.getElem?_take] at hj; rw [if_pos hji] at hj; exact hj
  have hr : Rising (l.map (·.name)) := q6b (List.pairwise_map.2 hp)
  have := q7h hr (i := i) (j := j) (a := a.name) (by rw [List.getElem?_map, ha]; rfl) (by rw [List.getElem?_map, hj2, ← e]; rfl)
  omega
theorem qpe {l : List NestedG} (hp : l.Pairwise fun a b => Op.bytesLess a.name.toList b.name.toList = true) {i : Nat} {a : NestedG} (ha : l[i]? = some a) : (q11 a.name (l.take i)).2 = false := by
 cases h : (q11 a.name (l.take i)).2 with
 | false => rfl
 | true =>
  obtain ⟨b, hb, e⟩ := qi2.1 h
  obtain ⟨j, hj⟩ := List.getElem?_of_mem hb
  have hji : j < i := by have := (List.getElem?_eq_some_iff.1 hj).1; rw [List.length_take] at this; omega
  have hj2 : l[j]? = some b := by rw [List.getElem?_take] at hj; rw [if_pos hji] at hj; exact hj
  have hr : Rising (l.map (·.name)) := q6b (List.pairwise_map.2 hp)
  have := q7h hr (i := i) (j := j) (a := a.name) (by rw [List.getElem?_map, ha]; rfl) (by rw [List.getElem?_map, hj2, ← e]; rfl)
  omega
theorem qqx {l : List AttrG} {i : Nat} {a : AttrG} (ha : l[i]? = some a) (k : ByteArray) (x : Val) (hk : k ≠ a.name) : mA (l.take (i + 1)) k x = mA (l.take i) k x := by
 unfold mA
 rw [q7o ha, qda]
 by_cases h : (qf k (l.take i)).2 = true
 ·simp only [h, if_true]
 ·simp only [h, if_neg (fun e : a.name = k => hk e.symm)]; simp
theorem mA_new {l : List AttrG} (hp : l.Pairwise fun a b => Op.bytesLess a.name.toList b.name.toList = true) {i : Nat} {a : AttrG} (ha : l[i]? = some a) (x : Val) : mA (l.take (i + 1)) a.name x = actA a x ∧ mA (l.take i) a.name x = x := by
 have hf := qpc hp ha
 unfold mA
 rw [q7o ha, qda, hf]
 simp
theorem qiq (v : Val) (hv : Mok v) (h0 : v.kind = 5 → v.num = 0 ∧ v.str = eS) (l : List AttrG) (hl : l.length ≤ 1000) (hp : l.Pairwise fun a b => Op.bytesLess a.name.toList b.name.toList = true) : gQ7g v l = some (hidS l v) := by
 unfold gQ7g hidS
 by_cases h5 : v.kind = 5
 ·obtain ⟨n0, s0⟩ := h0 h5
  rw [if_pos h5, h5, n0, s0]
  refine qjs l (·.name) mA v.keys v.items (hv.len h5) hv.ris (fun k x => rfl) (fun i a ha k x hk => qqx ha k x hk) (fun i a ha => ?_) ?_
  ·have hi := (List.getElem?_eq_some_iff.1 ha).1
   have w := qk hi (show l.length ≤ 9223372036854775807 by omega)
   have hm := qmc (f := mA (l.take i)) hv h5 fun k x hx => qe8 hx
   have hget := (qij hm a.name).trans (congrArg some (if_pos (rfl : (Val.mk 5 0 eS (List.zipWith (mA (l.take i)) v.keys v.items) v.keys).kind = 5)))
   have body : ∀ r, (gQ91 (Val.mk 5 0 eS (List.zipWith (mA (l.take i)) v.keys v.items) v.keys) a.name) = some r → gQ7h l (5, 0, eS, List.zipWith (mA (l.take i)) v.keys v.items, v.keys, (i : Int)) = (bif r.2 then bif a.sensitive then bif (!decide (r.1.kind = 0)) then (gQ9i (Val.mk 5 0 eS (List.zipWith (mA (l.take i)) v.keys v.items) v.keys) a.name tS).bind fun y8 => some (.inl (y8.kind, y8.num, y8.str, y8.items, y8.keys, ((i + 1 : Nat) : Int))) else some (.inl (5, 0, eS, List.zipWith (mA (l.take i)) v.keys v.items, v.keys, ((i + 1 : Nat) : Int))) else some (.inl (5, 0, eS, List.zipWith (mA (l.take i)) v.keys v.items, v.keys, ((i + 1 : Nat) : Int))) else some (.inl (5, 0, eS, List.zipWith (mA (l.take i)) v.keys v.items, v.keys, ((i + 1 : Nat) : Int)))) := by
    intro r hr
    unfold gQ7h
    simp only [decide_eq_true (show (i : Int) < l.length by omega), cond_true, qc, ha, Option.bind_some, w]
    rw [hr, Option.bind_some]
    rfl
   rw [body _ hget]
   constructor
   ·intro hn
    rw [show hasB (Val.mk 5 0 eS (List.zipWith (mA (l.take i)) v.keys v.items) v.keys).keys a.name = false from qdk hn, cond_false]
   ·intro j x hk hx
    obtain ⟨e1, e2⟩ := mA_new hp ha x
    have hz := q9c (f := mA (l.take i)) hk hx
    rw [e2] at hz
    rw [show hasB (Val.mk 5 0 eS (List.zipWith (mA (l.take i)) v.keys v.items) v.keys).keys a.name = true from q3v.2 (List.mem_of_getElem? hk), cond_true]
    rw [show look (Val.mk 5 0 eS (List.zipWith (mA (l.take i)) v.keys v.items) v.keys).keys (Val.mk 5 0 eS (List.zipWith (mA (l.take i)) v.keys v.items) v.keys).items a.name = x from q4p _ _ _ j x hv.ris hk hz, e1]
    unfold actA
    cases hs : a.sensitive with
    | false => rw [cond_false, if_neg (fun h => by cases h.1), qf8 hz]
    | true =>
     rw [cond_true]
     by_cases hx0 : x.kind = 0
     ·rw [decide_eq_true hx0, Bool.not_true, cond_false, if_neg (fun h => h.2 hx0), qf8 hz]
     ·rw [decide_eq_false hx0, Bool.not_false, cond_true, if_pos ⟨rfl, hx0⟩, qkr hm.fits hv.ris (hm.len rfl) qlu hk]; rfl
  ·unfold gQ7h
   simp only [decide_eq_false (show ¬ (l.length : Int) < l.length by omega), cond_false]
 ·rw [if_neg h5]
  obtain ⟨q, q1, q2⟩ := q13 (body := gQ7h l) (fun t => ∃ i : Nat, t = (v.kind, v.num, v.str, v.items, v.keys, (i : Int)) ∧ i ≤ l.length) (fun t => l.length - t.2.2.2.2.2.toNat) (fun q => q = v) (by
   rintro t ⟨i, rfl, hi⟩
   rcases Nat.eq_or_lt_of_le hi with e0 | e0
   ·subst e0
    refine .inr ⟨v, ?_, rfl⟩
    unfold gQ7h
    simp only [decide_eq_false (show ¬ (l.length : Int) < l.length by omega), cond_false]
    cases v; rfl
   ·have ha := List.getElem?_eq_getElem e0
    have w := qk e0 (show l.length ≤ 9223372036854775807 by omega)
    refine .inl ⟨(v.kind, v.num, v.str, v.items, v.keys, ((i + 1 : Nat) : Int)), ?_, ⟨i + 1, rfl, e0⟩, by simp only [Int.toNat_natCast]; omega⟩
    have hget := qij hv l[i].name
    rw [if_neg h5] at hget
    have he : Val.mk v.kind v.num v.str v.items v.keys = v := by cases v; rfl
    unfold gQ7h
    simp only [decide_eq_true (show (i : Int) < l.length by omega), cond_true, qc, ha, Option.bind_some, he, hget, cond_false, w]) (v.kind, v.num, v.str, v.items, v.keys, 0) ⟨0, rfl, Nat.zero_le _⟩
  rw [q1, q2]
theorem qmd {f : ByteArray → Val → Val} {keys : List ByteArray} {items : List Val} {i : Nat} {k : ByteArray} {x : Val} (hk : keys[i]? = some k) (hx : items[i]? = some x) : (List.zipWith f keys items).take (i + 1) = (List.zipWith f keys items).take i ++ [f k x] := q7o (q9c hk hx)
theorem qlb (v : Val) (hv : Mok v) (l : List AttrG) (hl : l.length ≤ 1000) : gQ4s l v = some (hidS l v) := by
 unfold gQ4s hidS
 by_cases h5 : v.kind = 5
 case neg => rw [decide_eq_false h5, Bool.not_false, cond_true, if_neg h5]
 rw [decide_eq_true h5, Bool.not_true, cond_false, if_pos h5]
 obtain ⟨f1, f2, f3, f4, f5, f6, f7⟩ := hv.fits.parts
 have hn := q16 f4 (by decide)
 have hlen := hv.len h5
 have hzl : (List.zipWith (mA l) v.keys v.items).length = v.items.length := by rw [List.length_zipWith, hlen, Nat.min_self]
 obtain ⟨q, q1, q2⟩ := q13 (body := gQ4t l v) (fun t => ∃ i : Nat, t = ((i : Int), (List.zipWith (mA l) v.keys v.items).take i) ∧ i ≤ v.items.length) (fun t => v.items.length - t.1.toNat) (fun q => q = Val.mk 5 0 eS (List.zipWith (mA l) v.keys v.items) v.keys) (by
  rintro t ⟨i, rfl, hi⟩
  rcases Nat.eq_or_lt_of_le hi with e0 | e0
  ·subst e0
   refine .inr ⟨_, ?_, rfl⟩
   unfold gQ4t
   simp only [decide_eq_false (show ¬ (v.items.length : Int) < v.items.length by omega), cond_false]
   rw [← hzl, List.take_length]
  ·have hx := List.getElem?_eq_getElem e0
   have hk := List.getElem?_eq_getElem (show i < v.keys.length by omega)
   have w := qk e0 (show v.items.length ≤ 9223372036854775807 by omega)
   refine .inl ⟨(((i + 1 : Nat) : Int), (List.zipWith (mA l) v.keys v.items).take (i + 1)), ?_, ⟨i + 1, rfl, e0⟩, by simp only [Int.toNat_natCast]; omega⟩
   have ha : ∀ y : Val, app 80 ((List.zipWith (mA l) v.keys v.items).take i) [y] = some ((List.zipWith (mA l) v.keys v.items).take i ++ [y]) := fun y => qw _ y (by decide) (n := v.items.length) (by rw [List.length_take, hzl]; omega) f4
   rw [qmd hk hx]
   generalize (List.zipWith (mA l) v.keys v.items).take i = T at ha ⊢
   unfold gQ4t mA actA
   simp only [decide_eq_true (show (i : Int) < v.items.length by omega), cond_true, qc, hx, hk, Option.bind_some, q4d l _ (show l.length ≤ 9223372036854775807 by omega), w]
   cases h2 : (qf v.keys[i] l).2 with
   | false => rw [cond_false, if_neg (by simp)]; rw [ha, Option.bind_some]
   | true =>
    rw [cond_true, if_pos rfl]
    cases hs : (qf v.keys[i] l).1.sensitive with
    | false => rw [cond_false, if_neg (fun h => by cases h.1)]; rw [ha, Option.bind_some]
    | true =>
     rw [cond_true]
     by_cases hx0 : v.items[i].kind = 0
     ·rw [decide_eq_true hx0, Bool.not_true, cond_false, if_neg (fun h => h.2 hx0)]; rw [ha, Option.bind_some]
     ·rw [decide_eq_false hx0, Bool.not_false, cond_true, if_pos ⟨rfl, hx0⟩]; rw [ha, Option.bind_some]) (0, []) ⟨0, rfl, Nat.zero_le _⟩
 rw [q1, q2]
def actN (n : NestedG) (x : Val) : Val := if x.kind = 4 then Val.mk 4 0 eS (x.items.map (hidS n.attrs)) [] else x
def mN (l : List NestedG) (k : ByteArray) (x : Val) : Val := if (q11 k l).2 = true then actN (q11 k l).1 x else x
def q7b (s : SchemaG) (v : Val) : Val := if v.kind = 5 then Val.mk 5 0 eS (List.zipWith (mN s.nested) (hidS s.attrs v).keys (hidS s.attrs v).items) (hidS s.attrs v).keys else v
theorem qga {n : NestedG} {x : Val} (hx : Vok x) : (actN n x).Fits := by
 unfold actN
 split
 ·obtain ⟨f1, f2, f3, f4, f5, f6, f7⟩ := hx.1.parts
  refine Val.Fits.mk (by decide) (by decide) q3l (by rw [List.length_map]; exact f4) (by simp) (fun s h => absurd h List.not_mem_nil) fun y hy => ?_
  obtain ⟨z, hz, rfl⟩ := List.mem_map.1 hy
  exact qpo (hx.item z hz).mok
 ·exact hx.1
theorem qqy {l : List NestedG} {k : ByteArray} {x : Val} (hx : Vok x) : (mN l k x).Fits := by
 unfold mN
 split
 ·exact qga hx
 ·exact hx.1
theorem qqz {l : List NestedG} {i : Nat} {a : NestedG} (ha : l[i]? = some a) (k : ByteArray) (x : Val) (hk : k ≠ a.name) : mN (l.take (i + 1)) k x = mN (l.take i) k x := by
 unfold mN
 rw [q7o ha, qdb]
 by_cases h : (q11 k (l.take i)).2 = true
 ·simp only [h, if_true]
 ·simp only [h, if_neg (fun e : a.name = k => hk e.symm)]; simp
theorem mN_new {l : List NestedG} (hp : l.Pairwise fun a b => Op.bytesLess a.name.toList b.name.toList = true) {i : Nat} {a : NestedG} (ha : l[i]? = some a) (x : Val) : mN (l.take (i + 1)) a.name x = actN a x ∧ mN (l.take i) a.name x = x := by
 have hf := qpe hp ha
 unfold mN
 rw [q7o ha, qdb, hf]
 simp
structure Uok (u : Val) : Prop where
 mok : Mok u
 kind : u.kind = 5
 num : u.num = 0
 str : u.str = eS
 items : ∀ x ∈ u.items, Vok x
theorem Vok.uok {v : Val} (hv : Vok v) (h5 : v.kind = 5) : Uok v := by
 obtain ⟨s0, s1, s2, s3, s4, s5, s6, s7⟩ := hv.shape
 exact ⟨hv.mok, h5, s2 (by omega) (by omega), s4 (by omega), hv.item⟩
theorem qdm {l : List AttrG} {v : Val} (hu : Uok v) : Uok (hidS l v) := by
 unfold hidS
 rw [if_pos hu.kind]
 refine ⟨qmc hu.mok hu.kind fun k x hx => qe8 hx, rfl, rfl, rfl, fun y hy => ?_⟩
 obtain ⟨k, x, hx, rfl⟩ := qg1 hy
 exact mA_ok (hu.items x hx)
theorem qma {u : Val} (hu : Uok u) (l : List NestedG) : Mok (Val.mk 5 0 eS (List.zipWith (mN l) u.keys u.items) u.keys) := by
 have hlen := hu.mok.len hu.kind
 obtain ⟨f1, f2, f3, f4, f5, f6, f7⟩ := hu.mok.fits.parts
 refine ⟨Val.Fits.mk (by decide) (by decide) q3l ?_ f5 f6 fun y hy => ?_, fun _ => ?_, hu.mok.ris⟩
 ·rw [List.length_zipWith, hlen, Nat.min_self]; exact f4
 ·obtain ⟨k, x, hx, rfl⟩ := qg1 hy
  exact qqy (hu.items x hx)
 ·show u.keys.length = (List.zipWith (mN l) u.keys u.items).length
  rw [List.length_zipWith, hlen, Nat.min_self]
theorem qr8 (n : NestedG) {x : Val} (hx : x.Fits) (t : MSt) : gQ5w n x t = some (x.kind, x.num, x.str, x.items, x.keys) := by
 obtain ⟨f1, f2, f3, f4, f5, f6, f7⟩ := hx.parts
 unfold gQ5w gQ5y
 rw [q5s f5, Option.bind_some]
 by_cases h0 : x.items.length = 0
 ·rw [decide_eq_true (show (x.items.length : Int) = 0 by omega), cond_true, Option.bind_some, List.eq_nil_of_length_eq_zero h0]
 ·rw [decide_eq_false (show ¬ (x.items.length : Int) = 0 by omega), cond_false, qef f4 (by decide), Option.bind_some, qhl (body := gQ5z x) x.items f4 f7 h0 (by funext s; rfl)]; rfl
theorem qr7 (n : NestedG) {w : Val} (hm : Mok w) (h5 : w.kind = 5) (i : Int) : gQ5u n (w.kind, w.num, w.str, w.items, w.keys, i) =
  some (if hasB w.keys n.name = true then ((look w.keys w.items n.name).kind, (look w.keys w.items n.name).num, (look w.keys w.items n.name).str, (look w.keys w.items n.name).items, (look w.keys w.items n.name).keys, true) else (0, 0, eS, [], [], false)) := by
 have hn := q16 hm.fits.parts.2.2.2.2.1 (by decide)
 have hlen := hm.len h5
 obtain ⟨q, q1, q2, q3, q4, q5⟩ := q7i w.keys n.name (by omega) hm.ris
 unfold gQ5u
 simp only [q1, Option.bind_some, decide_eq_true h5, Bool.not_true, cond_false]
 cases ht : q.2 with
 | false => rw [Bool.not_false, cond_true, qdk (q5 ht), if_neg (by decide)]
 | true =>
  have hk := q4 ht
  have hj := (List.getElem?_eq_some_iff.1 hk).1
  have hq : q.1 = ((q.1.toNat : Nat) : Int) := by omega
  rw [Bool.not_true, cond_false, decide_eq_false (show ¬ q.1 ≥ (w.items.length : Int) by omega), cond_false, hq, qc, List.getElem?_eq_getElem (show q.1.toNat < w.items.length by omega), Option.bind_some]
  have hx := List.getElem?_eq_getElem (show q.1.toNat < w.items.length by omega)
  rw [qr8 n (hm.fits.parts.2.2.2.2.2.2 _ (List.getElem_mem _)), Option.bind_some, q3v.2 (List.mem_of_getElem? hk), if_pos rfl, q4p _ _ _ _ _ hm.ris hk hx]
theorem qr9 (n : NestedG) (hn : Kasc n) (t : MSt) {y20 : Int × Int × ByteArray × List Val × List ByteArray × Bool} {l : List Val} (hy : y20.2.2.2.1 = l) (hl : l.length * 80 ≤ 140737488351232) (hv : ∀ x ∈ l, Vok x) (r : MSt ⊕ Val)
  (hfin : (gQ9i (Val.mk t.1 t.2.1 t.2.2.1 t.2.2.2.1 t.2.2.2.2.1) n.name (Val.mk y20.1 y20.2.1 y20.2.2.1 (l.map (hidS n.attrs)) y20.2.2.2.2.1)).bind (fun y28 => some (.inl (y28.kind, y28.num, y28.str, y28.items, y28.keys, (IntKind.i64.wrap (t.2.2.2.2.2 + 1))))) = some r) :
  qb (gQ5t n t y20) (0, l) = some r := by
 have hlen := q16 hl (by decide)
 have hna := hn.len
 obtain ⟨q, q1, q2⟩ := q13 (body := gQ5t n t y20) (fun s => ∃ i : Nat, s = ((i : Int), (l.take i).map (hidS n.attrs) ++ l.drop i) ∧ i ≤ l.length) (fun s => l.length - s.1.toNat) (fun q => q = r) (by
  rintro s ⟨i, rfl, hi⟩
  rcases Nat.eq_or_lt_of_le hi with e0 | e0
  ·subst e0
   refine .inr ⟨r, ?_, rfl⟩
   unfold gQ5t
   simp only [hy, decide_eq_false (show ¬ (l.length : Int) < l.length by omega), cond_false, List.take_length, List.drop_length, List.append_nil]
   cases hP : gQ9i (Val.mk t.1 t.2.1 t.2.2.1 t.2.2.2.1 t.2.2.2.2.1) n.name (Val.mk y20.1 y20.2.1 y20.2.2.1 (l.map (hidS n.attrs)) y20.2.2.2.2.1) with
   | none => rw [hP] at hfin; cases hfin
   | some z => rw [hP] at hfin; rw [Option.bind_some] at hfin ⊢; cases hfin; rfl
  ·have hx := List.getElem?_eq_getElem e0
   have w := qk e0 (show l.length ≤ 9223372036854775807 by omega)
   have hti : ((l.take i).map (hidS n.attrs)).length = i := by simp; omega
   have hcur : ((l.take i).map (hidS n.attrs) ++ l.drop i)[i]? = some l[i] := by
    rw [List.getElem?_append_right (by omega), hti, Nat.sub_self, List.getElem?_drop]; simp
   have hvi := hv _ (List.getElem_mem e0)
   refine .inl ⟨(((i + 1 : Nat) : Int), (l.take (i + 1)).map (hidS n.attrs) ++ l.drop (i + 1)), ?_, ⟨i + 1, rfl, e0⟩, by simp only [Int.toNat_natCast]; omega⟩
   have hnext : ∀ y, ((l.take i).map (hidS n.attrs) ++ l.drop i).set i y = (l.take i).map (hidS n.attrs) ++ y :: l.drop (i + 1) := fun y => by
    rw [List.set_append_right _ _ (by omega), hti, Nat.sub_self, List.drop_eq_getElem_cons e0]; rfl
   have htake : (l.take (i + 1)).map (hidS n.attrs) ++ l.drop (i + 1) = (l.take i).map (hidS n.attrs) ++ hidS n.attrs l[i] :: l.drop (i + 1) := by
    rw [q7o hx, List.map_append]; simp
   unfold gQ5t
   simp only [hy, decide_eq_true (show (i : Int) < l.length by omega), cond_true, qc, hcur, Option.bind_some, w]
   by_cases h5 : l[i].kind = 5
   ·have hu := hvi.uok h5
    rw [decide_eq_true h5, cond_true, qiq _ hvi.mok (fun _ => ⟨hu.num, hu.str⟩) n.attrs (by omega) hn.ra, Option.bind_some, qit (by simp; omega), hnext, htake]
   ·rw [decide_eq_false h5, cond_false, htake]
    have : hidS n.attrs l[i] = l[i] := by unfold hidS; rw [if_neg h5]
    rw [this, ← List.drop_eq_getElem_cons e0]) (0, l) ⟨0, by simp, Nat.zero_le _⟩
 rw [q1, q2]
theorem qmm {s : SchemaG} (hs : SVal s) {v : Val} (hv : Vok v) : gQ5r s v = some (q7b s v) := by
 have hla := hs.few.la
 have hln := hs.few.ln
 unfold gQ5r q7b
 rw [show cpy v = some v from q2l hv.1, Option.bind_some]
 by_cases h5 : v.kind = 5
 case neg => rw [decide_eq_false h5, Bool.not_false, cond_true, if_neg h5]
 have hu0 := hv.uok h5
 rw [decide_eq_true h5, Bool.not_true, cond_false, if_pos h5, qiq v hv.mok (fun _ => ⟨hu0.num, hu0.str⟩) s.attrs (by omega) hs.names.ra, Option.bind_some]
 have hu := qdm (l := s.attrs) hu0
 generalize hidS s.attrs v = u at hu ⊢
 rw [hu.kind, hu.num, hu.str]
 refine qjs s.nested (·.name) mN u.keys u.items (hu.mok.len hu.kind) hu.mok.ris (fun k x => rfl) (fun i a ha k x hk => qqz ha k x hk) (fun i a ha => ?_) ?_
 ·have hi := (List.getElem?_eq_some_iff.1 ha).1
  have w := qk hi (show s.nested.length ≤ 9223372036854775807 by omega)
  have hm := qma hu (s.nested.take i)
  have hget := qr7 a hm rfl (i : Int)
  have hka := hs.kasc a (List.mem_of_getElem? ha)
  constructor
  ·intro hn
   have hget : gQ5u a (5, 0, eS, List.zipWith (mN (s.nested.take i)) u.keys u.items, u.keys, (i : Int)) = some (0, 0, eS, [], [], false) := hget.trans (congrArg some (if_neg (fun h => hn (q3v.1 h))))
   unfold gQ5s
   simp only [decide_eq_true (show (i : Int) < s.nested.length by omega), cond_true, qc, ha, Option.bind_some, hget, Bool.not_false, w]
  ·intro j x hk hx
   obtain ⟨e1, e2⟩ := mN_new hs.names.rn ha x
   have hz := q9c (f := mN (s.nested.take i)) hk hx
   rw [e2] at hz
   have hxv : Vok x := hu.items x (List.mem_of_getElem? hx)
   have hlk : look (Val.mk 5 0 eS (List.zipWith (mN (s.nested.take i)) u.keys u.items) u.keys).keys (Val.mk 5 0 eS (List.zipWith (mN (s.nested.take i)) u.keys u.items) u.keys).items a.name = x := q4p _ _ _ j x hu.mok.ris hk hz
   have hget : gQ5u a (5, 0, eS, List.zipWith (mN (s.nested.take i)) u.keys u.items, u.keys, (i : Int)) = some (x.kind, x.num, x.str, x.items, x.keys, true) := by
    refine (hget.trans (congrArg some (if_pos (q3v.2 (List.mem_of_getElem? hk))))).trans ?_
    rw [hlk]
   unfold gQ5s
   simp only [decide_eq_true (show (i : Int) < s.nested.length by omega), cond_true, qc, ha, Option.bind_some, hget, Bool.not_true, cond_false, w]
   rw [e1]
   unfold actN
   by_cases h4 : x.kind = 4
   ·obtain ⟨s0, s1, s2, s3, s4, s5, s6, s7⟩ := hxv.shape
    have hxk : x.keys = [] := s7 (by omega)
    rw [decide_eq_true h4, Bool.not_true, cond_false, if_pos h4]
    have hfit : (Val.mk 4 0 eS (x.items.map (hidS a.attrs)) []).Fits := by
     have := qga (n := a) hxv
     unfold actN at this; rw [if_pos h4] at this; exact this
    have hput := qkr (key := a.name) (x := Val.mk 4 0 eS (x.items.map (hidS a.attrs)) []) hm.fits hu.mok.ris (hm.len rfl) hfit hk
    have hx4 : Val.mk x.kind x.num x.str (x.items.map (hidS a.attrs)) x.keys = Val.mk 4 0 eS (x.items.map (hidS a.attrs)) [] := by
     rw [h4, s2 (by omega) (by omega), s4 (by omega), hxk]
    refine qr9 a hka (5, 0, eS, List.zipWith (mN (s.nested.take i)) u.keys u.items, u.keys, (i : Int)) (y20 := (x.kind, x.num, x.str, x.items, x.keys, true)) (l := x.items) rfl hxv.1.parts.2.2.2.1 hxv.item _ ?_
    show (gQ9i (Val.mk 5 0 eS (List.zipWith (mN (s.nested.take i)) u.keys u.items) u.keys) a.name (Val.mk x.kind x.num x.str (x.items.map (hidS a.attrs)) x.keys)).bind _ = _
    rw [hx4, hput, Option.bind_some]
    show some (Sum.inl (_, _, _, _, _, IntKind.i64.wrap ((i : Int) + 1))) = _
    rw [w]; rfl
   ·rw [decide_eq_false h4, Bool.not_false, cond_true, if_neg h4, qf8 hz]
 ·unfold gQ5s
  simp only [decide_eq_false (show ¬ (s.nested.length : Int) < s.nested.length by omega), cond_false]
theorem qtd {s : SchemaG} (hs : SVal s) {v : Val} (hv : Vok v) : gQ3w s v = some (q7b s v) := by
 have hla := hs.few.la
 have hln := hs.few.ln
 unfold gQ3w q7b
 by_cases h5 : v.kind = 5
 case neg => rw [decide_eq_false h5, Bool.not_false, cond_true, if_neg h5]
 have hu0 := hv.uok h5
 rw [decide_eq_true h5, Bool.not_true, cond_false, if_pos h5, qlb v hv.mok s.attrs (by omega), Option.bind_some]
 have hu := qdm (l := s.attrs) hu0
 generalize hidS s.attrs v = u at hu ⊢
 obtain ⟨f1, f2, f3, f4, f5, f6, f7⟩ := hu.mok.fits.parts
 have hn := q16 f4 (by decide)
 have hlen := hu.mok.len hu.kind
 have hzl : (List.zipWith (mN s.nested) u.keys u.items).length = u.items.length := by rw [List.length_zipWith, hlen, Nat.min_self]
 obtain ⟨q, q1, q2⟩ := q13 (body := gQ3x s u) (fun t => ∃ i : Nat, t = ((i : Int), (List.zipWith (mN s.nested) u.keys u.items).take i) ∧ i ≤ u.items.length) (fun t => u.items.length - t.1.toNat) (fun q => q = Val.mk 5 0 eS (List.zipWith (mN s.nested) u.keys u.items) u.keys) (by
  rintro t ⟨i, rfl, hi⟩
  rcases Nat.eq_or_lt_of_le hi with e0 | e0
  ·subst e0
   refine .inr ⟨_, ?_, rfl⟩
   unfold gQ3x
   simp only [decide_eq_false (show ¬ (u.items.length : Int) < u.items.length by omega), cond_false]
   rw [← hzl, List.take_length]
  ·have hx := List.getElem?_eq_getElem e0
   have hk := List.getElem?_eq_getElem (show i < u.keys.length by omega)
   have w := qk e0 (show u.items.length ≤ 9223372036854775807 by omega)
   have hxv : Vok u.items[i] := hu.items _ (List.getElem_mem e0)
   refine .inl ⟨(((i + 1 : Nat) : Int), (List.zipWith (mN s.nested) u.keys u.items).take (i + 1)), ?_, ⟨i + 1, rfl, e0⟩, by simp only [Int.toNat_natCast]; omega⟩
   have ha : ∀ y : Val, app 80 ((List.zipWith (mN s.nested) u.keys u.items).take i) [y] = some ((List.zipWith (mN s.nested) u.keys u.items).take i ++ [y]) := fun y => qw _ y (by decide) (n := u.items.length) (by rw [List.length_take, hzl]; omega) f4
   rw [qmd hk hx]
   generalize (List.zipWith (mN s.nested) u.keys u.items).take i = T at ha ⊢
   unfold gQ3x mN actN
   simp only [decide_eq_true (show (i : Int) < u.items.length by omega), cond_true, qc, hx, hk, Option.bind_some, qc6 s _ (show s.nested.length ≤ 9223372036854775807 by omega), w]
   cases h2 : (q11 u.keys[i] s.nested).2 with
   | false => rw [cond_false, if_neg (by simp)]; rw [ha, Option.bind_some]
   | true =>
    rw [cond_true, if_pos rfl]
    by_cases h4 : u.items[i].kind = 4
    ·rw [decide_eq_true h4, cond_true, if_pos h4]
     have hmem := (qdc h2).1
     have hka := hs.kasc _ hmem
     have hkl := hka.len
     have g4 := hxv.1.parts.2.2.2.1
     have hgl := q16 g4 (by decide)
     refine qe4 (body := gQ3y u.items[i] (q11 u.keys[i] s.nested) ((i : Int), T)) u.items[i].items (hidS (q11 u.keys[i] s.nested).1.attrs) (fun l => .inl (((i + 1 : Nat) : Int), T ++ [Val.mk 4 0 eS l []])) (fun j acc y hj hy hacc => ?_) (fun acc hacc => ?_)
     ·unfold gQ3y
      simp only [decide_eq_true (show (j : Int) < u.items[i].items.length by omega), cond_true, qc, hy, Option.bind_some]
      rw [qlb y (hxv.item y (List.mem_of_getElem? hy)).mok _ (by omega), Option.bind_some, qw acc _ (by decide) (n := u.items[i].items.length) (by omega) g4, Option.bind_some, qk hj (by omega)]
     ·unfold gQ3y
      simp only [decide_eq_false (show ¬ (u.items[i].items.length : Int) < u.items[i].items.length by omega), cond_false, w]
      rw [ha, Option.bind_some]
    ·rw [decide_eq_false h4, cond_false, if_neg h4]; rw [ha, Option.bind_some]) (0, []) ⟨0, rfl, Nat.zero_le _⟩
 rw [q1, q2]
theorem qr6 {s : SchemaG} {v : Val} (hv : Vok v) : (q7b s v).Fits := by
 unfold q7b
 by_cases h5 : v.kind = 5
 ·rw [if_pos h5]; exact (qma (qdm (l := s.attrs) (hv.uok h5)) s.nested).fits
 ·rw [if_neg h5]; exact hv.1
theorem qqg (s : SchemaG) (v : Val) (hf : q2a s) (hv : v.Fits) : gQ0u s v = some true := by
 unfold gQ0u
 obtain ⟨b, b1, b2⟩ := q99 s hf
 rw [b1, Option.bind_some]
 cases b with
 | false => rw [Bool.not_false, cond_true, awake12]; rfl
 | true =>
  have hs := b2 rfl
  rw [Bool.not_true, cond_false]
  obtain ⟨c, c1, c2⟩ := q6c hv
  rw [c1, Option.bind_some]
  cases c with
  | false => rw [Bool.not_false, cond_true, awake12]; rfl
  | true =>
   have hk := (c2 rfl).ok
   rw [Bool.not_true, cond_false, qmm hs hk, Option.bind_some, qtd hs hk, Option.bind_some, q69 (qr6 hk), q2u.2 rfl, Option.bind_some, cond_true, awake12]; rfl
end Abs
end Go.Proofs.YtkffpfapfljinaaGreatDoor
