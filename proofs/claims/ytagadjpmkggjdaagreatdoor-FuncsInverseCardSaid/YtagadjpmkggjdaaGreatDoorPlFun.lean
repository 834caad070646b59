/-
  The names of the functions, their letters and numbers of arguments.
  Decidedly equal, decidedly different; functions that compare or flatten elements.
  Functions of numbers and of strings: what the program computes.
  value.Map of pairs with different keys, pairs by ascending keys.
  The branches of apply, plainly: lists, maps, general.
  What apply answers, function by function.
  What apply answers: search, lists, maps, general; Call.
  The names, the chapter's examples; few arguments.
  The laws FuncsCallable and FuncsKnown.
  The law FuncsKnown.
-/
import Derived.Test.YtagadjpmkggjdaaGreatDoorFnZ
import Derived.Test.YtagadjpmkggjdaaGreatDoorPlBs
import Derived.Lib.SplitLaws
namespace Go.Proofs.YtagadjpmkggjdaaGreatDoor
set_option linter.unusedSimpArgs false
set_option linter.unusedVariables false
namespace Abs
open Go.RowKit
inductive Nm where
 | nAbs
 | nCoalesce
 | nConcat
 | nContains
 | nDistinct
 | nElement
 | nEndswith
 | nFlatten
 | nIndex
 | nJoin
 | nKeys
 | nLength
 | nLookup
 | nLower
 | nMax
 | nMerge
 | nMin
 | nRange
 | nReplace
 | nReverse
 | nSlice
 | nSort
 | nSplit
 | nStartswith
 | nSum
 | nTobool
 | nTonumber
 | nTostring
 | nTrim
 | nUpper
 | nValues
 | nZipmap
def nmB : Nm → ByteArray
 | .nAbs => ⟨#[97, 98, 115]⟩
 | .nCoalesce => ⟨#[99, 111, 97, 108, 101, 115, 99, 101]⟩
 | .nConcat => ⟨#[99, 111, 110, 99, 97, 116]⟩
 | .nContains => ⟨#[99, 111, 110, 116, 97, 105, 110, 115]⟩
 | .nDistinct => ⟨#[100, 105, 115, 116, 105, 110, 99, 116]⟩
 | .nElement => ⟨#[101, 108, 101, 109, 101, 110, 116]⟩
 | .nEndswith => ⟨#[101, 110, 100, 115, 119, 105, 116, 104]⟩
 | .nFlatten => ⟨#[102, 108, 97, 116, 116, 101, 110]⟩
 | .nIndex => ⟨#[105, 110, 100, 101, 120]⟩
 | .nJoin => ⟨#[106, 111, 105, 110]⟩
 | .nKeys => ⟨#[107, 101, 121, 115]⟩
 | .nLength => ⟨#[108, 101, 110, 103, 116, 104]⟩
 | .nLookup => ⟨#[108, 111, 111, 107, 117, 112]⟩
 | .nLower => ⟨#[108, 111, 119, 101, 114]⟩
 | .nMax => ⟨#[109, 97, 120]⟩
 | .nMerge => ⟨#[109, 101, 114, 103, 101]⟩
 | .nMin => ⟨#[109, 105, 110]⟩
 | .nRange => ⟨#[114, 97, 110, 103, 101]⟩
 | .nReplace => ⟨#[114, 101, 112, 108, 97, 99, 101]⟩
 | .nReverse => ⟨#[114, 101, 118, 101, 114, 115, 101]⟩
 | .nSlice => ⟨#[115, 108, 105, 99, 101]⟩
 | .nSort => ⟨#[115, 111, 114, 116]⟩
 | .nSplit => ⟨#[115, 112, 108, 105, 116]⟩
 | .nStartswith => ⟨#[115, 116, 97, 114, 116, 115, 119, 105, 116, 104]⟩
 | .nSum => ⟨#[115, 117, 109]⟩
 | .nTobool => ⟨#[116, 111, 98, 111, 111, 108]⟩
 | .nTonumber => ⟨#[116, 111, 110, 117, 109, 98, 101, 114]⟩
 | .nTostring => ⟨#[116, 111, 115, 116, 114, 105, 110, 103]⟩
 | .nTrim => ⟨#[116, 114, 105, 109]⟩
 | .nUpper => ⟨#[117, 112, 112, 101, 114]⟩
 | .nValues => ⟨#[118, 97, 108, 117, 101, 115]⟩
 | .nZipmap => ⟨#[122, 105, 112, 109, 97, 112]⟩
def spB : Nm → SpecG
 | .nAbs => SpecG.mk ⟨#[110]⟩ 1 1 true
 | .nCoalesce => SpecG.mk ⟨#[97]⟩ 1 64 false
 | .nConcat => SpecG.mk ⟨#[108]⟩ 1 64 true
 | .nContains => SpecG.mk ⟨#[108, 97]⟩ 2 2 false
 | .nDistinct => SpecG.mk ⟨#[108]⟩ 1 1 false
 | .nElement => SpecG.mk ⟨#[108, 110]⟩ 2 2 false
 | .nEndswith => SpecG.mk ⟨#[115, 115]⟩ 2 2 true
 | .nFlatten => SpecG.mk ⟨#[108]⟩ 1 1 false
 | .nIndex => SpecG.mk ⟨#[108, 97]⟩ 2 2 false
 | .nJoin => SpecG.mk ⟨#[115, 83]⟩ 2 2 true
 | .nKeys => SpecG.mk ⟨#[109]⟩ 1 1 true
 | .nLength => SpecG.mk ⟨#[99]⟩ 1 1 true
 | .nLookup => SpecG.mk ⟨#[109, 115, 97]⟩ 2 3 false
 | .nLower => SpecG.mk ⟨#[115]⟩ 1 1 true
 | .nMax => SpecG.mk ⟨#[110]⟩ 1 64 true
 | .nMerge => SpecG.mk ⟨#[109]⟩ 1 64 true
 | .nMin => SpecG.mk ⟨#[110]⟩ 1 64 true
 | .nRange => SpecG.mk ⟨#[110]⟩ 1 2 true
 | .nReplace => SpecG.mk ⟨#[115, 115, 115]⟩ 3 3 true
 | .nReverse => SpecG.mk ⟨#[108]⟩ 1 1 true
 | .nSlice => SpecG.mk ⟨#[108, 110, 110]⟩ 3 3 true
 | .nSort => SpecG.mk ⟨#[83]⟩ 1 1 true
 | .nSplit => SpecG.mk ⟨#[115, 115]⟩ 2 2 true
 | .nStartswith => SpecG.mk ⟨#[115, 115]⟩ 2 2 true
 | .nSum => SpecG.mk ⟨#[78]⟩ 1 1 true
 | .nTobool => SpecG.mk ⟨#[97]⟩ 1 1 false
 | .nTonumber => SpecG.mk ⟨#[97]⟩ 1 1 false
 | .nTostring => SpecG.mk ⟨#[97]⟩ 1 1 false
 | .nTrim => SpecG.mk ⟨#[115]⟩ 1 1 true
 | .nUpper => SpecG.mk ⟨#[115]⟩ 1 1 true
 | .nValues => SpecG.mk ⟨#[109]⟩ 1 1 true
 | .nZipmap => SpecG.mk ⟨#[83, 108]⟩ 2 2 false
theorem qe9 (k : Nm) : gQ1b (nmB k) = some (spB k, true) := by cases k <;> rfl
theorem qj0 {n : ByteArray} (h : ∀ k, n ≠ nmB k) : gQ1b n = some (SpecG.mk eS 0 0 false, false) := by
 unfold gQ1b
 have h0 := h .nAbs
 have h1 := h .nCoalesce
 have h2 := h .nConcat
 have h3 := h .nContains
 have h4 := h .nDistinct
 have h5 := h .nElement
 have h6 := h .nEndswith
 have h7 := h .nFlatten
 have h8 := h .nIndex
 have h9 := h .nJoin
 have h10 := h .nKeys
 have h11 := h .nLength
 have h12 := h .nLookup
 have h13 := h .nLower
 have h14 := h .nMax
 have h15 := h .nMerge
 have h16 := h .nMin
 have h17 := h .nRange
 have h18 := h .nReplace
 have h19 := h .nReverse
 have h20 := h .nSlice
 have h21 := h .nSort
 have h22 := h .nSplit
 have h23 := h .nStartswith
 have h24 := h .nSum
 have h25 := h .nTobool
 have h26 := h .nTonumber
 have h27 := h .nTostring
 have h28 := h .nTrim
 have h29 := h .nUpper
 have h30 := h .nValues
 have h31 := h .nZipmap
 simp only [nmB] at h0 h1 h2 h3 h4 h5 h6 h7 h8 h9 h10 h11 h12 h13 h14 h15 h16 h17 h18 h19 h20 h21 h22 h23 h24 h25 h26 h27 h28 h29 h30 h31
 simp only [h0, h1, h2, h3, h4, h5, h6, h7, h8, h9, h10, h11, h12, h13, h14, h15, h16, h17, h18, h19, h20, h21, h22, h23, h24, h25, h26, h27, h28, h29, h30, h31, decide_false, cond_false]
theorem qfg (n : ByteArray) : (∃ k, n = nmB k) ∨ ∀ k, n ≠ nmB k := by
 by_cases h : ∃ k, n = nmB k
 ·exact .inl h
 ·exact .inr fun k e => h ⟨k, e⟩
structure Args (l : List Val) : Prop where
 len : l.length ≤ 70
 ck : ∀ v ∈ l, Ck v
 nodes : ∀ v ∈ l, q1z v ≤ 400
def isK (v : Val) (ks : List Int) : Bool := (ks.any fun k => decide (v.kind = k)) || decide (v.kind = 6)
theorem q6o (v : Val) (ks : List Int) (hl : ks.length ≤ 1000) : gQ1q v ks = some (isK v ks) := by
 unfold gQ1q
 refine q1j ks (fun i (_ : Unit) => (i : Int)) (fun _ r => (r.any fun k => decide (v.kind = k)) || decide (v.kind = 6)) (fun _ _ => True) (a := ()) rfl trivial (fun _ _ => ?_) (fun i x r _ hi hx _ _ => ?_)
 ·simp only [gQ1r, decide_eq_false (show ¬ (ks.length : Int) < ks.length by omega), cond_false, List.any_nil, Bool.false_or]
 ·simp only [gQ1r, decide_eq_true (show (i : Int) < ks.length by omega), cond_true, qe, hx, Option.bind_some, List.any_cons]
  by_cases h : v.kind = x
  ·right; rw [decide_eq_true h]; rfl
  ·left
   rw [decide_eq_false h, cond_false, qq hi (by omega)]
   exact ⟨(), trivial, rfl, rfl⟩
def allK (v : Val) (k : Int) : Bool := isK v [4] && v.items.all fun x => isK x [k]
theorem qny (v : Val) (k : Int) (hl : v.items.length ≤ 9223372036854775807) : gQ0u v k = some (allK v k) := by
 unfold gQ0u allK
 rw [q6o v [4] (by decide), Option.bind_some]
 cases isK v [4] with
 | false => rfl
 | true =>
  rw [Bool.not_true, cond_false, Bool.true_and]
  refine q1j v.items (fun i (_ : Unit) => (i : Int)) (fun _ r => r.all fun x => isK x [k]) (fun _ _ => True) (a := ()) rfl trivial (fun _ _ => ?_) (fun i x r _ hi hx _ _ => ?_)
  ·simp only [gQ0v, decide_eq_false (show ¬ (v.items.length : Int) < v.items.length by omega), cond_false, List.all_nil]
  ·simp only [gQ0v, decide_eq_true (show (i : Int) < v.items.length by omega), cond_true, qe, hx, Option.bind_some, List.all_cons, q6o x [k] (by simp)]
   cases isK x [k] with
   | false => right; rfl
   | true =>
    left
    rw [Bool.not_true, cond_false, qq hi hl]
    exact ⟨(), trivial, rfl, rfl⟩
def fitK (v : Val) (c : Int) : Bool :=
 if c = 110 then isK v [2] else if c = 115 then isK v [3] else if c = 108 then isK v [4] else if c = 109 then isK v [5] else if c = 78 then allK v 2 else if c = 83 then allK v 3 else if c = 99 then isK v [3, 4, 5] else true
theorem qrb (v : Val) (c : Int) (hl : v.items.length ≤ 9223372036854775807) : gQ1d v c = some (fitK v c) := by
 unfold gQ1d fitK
 simp only [q6o v [2] (by decide), q6o v [3] (by decide), q6o v [4] (by decide), q6o v [5] (by decide), q6o v [3, 4, 5] (by decide), qny v _ hl, Option.bind_some]
 by_cases h1 : c = 110
 ·rw [decide_eq_true h1, if_pos h1]; rfl
 rw [decide_eq_false h1, if_neg h1, cond_false]
 by_cases h2 : c = 115
 ·rw [decide_eq_true h2, if_pos h2]; rfl
 rw [decide_eq_false h2, if_neg h2, cond_false]
 by_cases h3 : c = 108
 ·rw [decide_eq_true h3, if_pos h3]; rfl
 rw [decide_eq_false h3, if_neg h3, cond_false]
 by_cases h4 : c = 109
 ·rw [decide_eq_true h4, if_pos h4]; rfl
 rw [decide_eq_false h4, if_neg h4, cond_false]
 by_cases h5 : c = 78
 ·rw [decide_eq_true h5, if_pos h5]; rfl
 rw [decide_eq_false h5, if_neg h5, cond_false]
 by_cases h6 : c = 83
 ·rw [decide_eq_true h6, if_pos h6]; rfl
 rw [decide_eq_false h6, if_neg h6, cond_false]
 by_cases h7 : c = 99
 ·rw [decide_eq_true h7, if_pos h7]; rfl
 rw [decide_eq_false h7, if_neg h7, cond_false]
def lett (k : Nm) (i : Nat) : Int := (((spB k).kinds.data.toList.getD (min i ((spB k).kinds.size - 1)) 0).toNat : Nat)
theorem qk6 (k : Nm) : 1 ≤ (spB k).kinds.size ∧ (spB k).kinds.size ≤ 3 := by cases k <;> exact ⟨by decide, by decide⟩
theorem qki (k : Nm) (i : Nat) (hi : i ≤ 1000) : gQ2q (spB k) (i : Int) = some (lett k i) := by
 obtain ⟨h1, h2⟩ := qk6 k
 unfold gQ2q lett
 generalize (spB k).kinds = s at h1 h2
 have hw : IntKind.i64.wrap ((s.size : Int) - 1) = ((s.size - 1 : Nat) : Int) := by rw [q28 (by omega) (by omega)]; omega
 rw [hw]
 have hm : (if ((s.size - 1 : Nat) : Int) < (i : Int) then ((s.size - 1 : Nat) : Int) else (i : Int)) = ((min i (s.size - 1) : Nat) : Int) := by split <;> omega
 have hlt : min i (s.size - 1) < s.size := by omega
 rw [hm, qmi hlt, Option.bind_some, List.getD_eq_getElem?_getD, List.getElem?_eq_getElem (by simpa using hlt)]
 rfl
open Classical in
theorem qsy (x : Val) : tQ78 x = gQ5p (gQ5q (fun a0 => if relV a0 x then tQ78 a0 else none)) x := q3d x ()
open Classical in
theorem q99 (x : Val) : x.Fits → tQ78 x = some (q7 x) := by
 induction x using wfV.induction with
 | h x ih =>
  intro hf
  obtain ⟨f1, f2, f3, f4, f5, f6, f7⟩ := hf.parts
  have hn := q2v f4 (by decide)
  rw [qsy, qbm]
  unfold gQ5p
  by_cases h6 : x.kind = 6
  ·rw [decide_eq_true h6]; simp [h6]
  rw [decide_eq_false h6, Bool.not_false, cond_true]
  obtain ⟨n, h1, h2⟩ := qtm x.items (fun v => !q7 v) (body := gQ5w (gQ5q fun a0 => if relV a0 x then tQ78 a0 else none) x.items) (by omega) (fun i y hi hy => by
   have hm : y ∈ x.items := List.mem_of_getElem? hy
   simp only [gQ5w, decide_eq_true (show (i : Int) < x.items.length by omega), cond_true, qe, hy, Option.bind_some, gQ5q, if_pos (show relV y x from hm), ih y hm (f7 y hm)]
   cases q7 y <;> rfl) (by simp [gQ5w])
  unfold gQ5t gQ5v
  rw [h1, Option.bind_some, Option.bind_some, h2]
  congr 1
  simp only [ne_eq, h6, not_false_eq_true, decide_true, Bool.true_and]
  rw [List.not_any_eq_all_not]; simp
def q1t (k : Nm) (l : List Val) : Bool := l.zipIdx.any fun p => decide (p.1.kind = 6) || ((decide (lett k p.2 = 78) || decide (lett k p.2 = 83)) && !q7 p.1)
theorem qvk (k : Nm) (l : List Val) (hl : l.length ≤ 1000) (hf : ∀ v ∈ l, v.Fits) : gQ2s (spB k) l = some (q1t k l) := by
 unfold gQ2s q1t
 have := q1j (body := gQ2t (spB k) l) l.zipIdx (fun i (_ : Unit) => (i : Int)) (fun _ r => r.any fun p => decide (p.1.kind = 6) || ((decide (lett k p.2 = 78) || decide (lett k p.2 = 83)) && !q7 p.1)) (fun _ _ => True) (s0 := 0) (a := ()) rfl trivial (fun _ _ => ?_) (fun i x r _ hi hx _ _ => ?_)
 ·exact this
 ·simp only [gQ2t, List.length_zipIdx, decide_eq_false (show ¬ (l.length : Int) < l.length by omega), cond_false, List.any_nil]
 ·rw [List.length_zipIdx] at hi
  rw [List.getElem?_zipIdx, List.getElem?_eq_getElem hi] at hx
  simp only [Option.map_some, Nat.zero_add, Option.some.injEq] at hx
  subst hx
  have hm := hf _ (List.getElem_mem hi)
  simp only [gQ2t, decide_eq_true (show (i : Int) < l.length by omega), cond_true, qe, List.getElem?_eq_getElem hi, Option.bind_some, List.any_cons, qki k i (by omega), q99 _ hm, qq hi (show l.length ≤ 9223372036854775807 by omega)]
  by_cases h6 : l[i].kind = 6
  ·right; rw [decide_eq_true h6]; rfl
  rw [decide_eq_false h6, cond_false, Bool.false_or]
  by_cases h1 : lett k i = 78
  ·rw [decide_eq_true h1, cond_true, Bool.true_or, Bool.true_and]
   cases q7 l[i] with
   | false => right; rfl
   | true => left; exact ⟨(), trivial, rfl, rfl⟩
  rw [decide_eq_false h1, cond_false, Bool.false_or]
  by_cases h2 : lett k i = 83
  ·rw [decide_eq_true h2, cond_true, Bool.true_and]
   cases q7 l[i] with
   | false => right; rfl
   | true => left; exact ⟨(), trivial, rfl, rfl⟩
  rw [decide_eq_false h2, cond_false, Bool.false_and]
  left; exact ⟨(), trivial, rfl, rfl⟩
def q2i (k : Nm) (l : List Val) : Bool := l.zipIdx.all fun p => fitK p.1 (lett k p.2)
noncomputable def finS (r : Val × Int) : Val × Int := if r.2 = 0 then (if qf r.1 = 0 then (r.1, 0) else (vZ, qf r.1)) else (vZ, r.2)
theorem q6k {v : Val} (h : v.Fits) : q21 v = some (qf v) := q2c h
theorem cpy_of {v : Val} (h : v.Fits) : cpy v = some v := q2c h
theorem qiz {O : Type} {r : Val × Int} (h : r.1.Fits) (f : Val × Int → O) :
  (bif (decide (r.2 = 0)) then (q21 r.1).bind fun y16 => bif (!decide (y16 = 0)) then some (f ((Val.mk 0 0 eS [] []), y16)) else (cpy r.1).bind fun y18 => some (f (y18, 0)) else some (f ((Val.mk 0 0 eS [] []), r.2))) = some (f (finS r)) := by
 unfold finS
 by_cases h0 : r.2 = 0
 ·rw [decide_eq_true h0, cond_true, if_pos h0, q6k h, Option.bind_some, cpy_of h, Option.bind_some]
  by_cases hc : qf r.1 = 0
  ·rw [decide_eq_true hc, if_pos hc]; rfl
  ·rw [decide_eq_false hc, if_neg hc]; rfl
 ·rw [decide_eq_false h0, cond_false, if_neg h0]
def arOk (k : Nm) (l : List Val) : Bool := decide ((spB k).least ≤ l.length) && decide ((l.length : Int) ≤ (spB k).most)
theorem qas {n : ByteArray} (h : ∀ k, n ≠ nmB k) (l : List Val) : gQ0n n l = some (vZ, 17) := by
 unfold gQ0n
 rw [qj0 h]; rfl
theorem qar {k : Nm} {l : List Val} (h : arOk k l = false) : gQ0n (nmB k) l = some (vZ, 18) := by
 unfold gQ0n
 rw [qe9, Option.bind_some]
 show (bif (!true) then _ else bif (decide ((l.length : Int) < (spB k).least)) then _ else bif (decide ((l.length : Int) > (spB k).most)) then _ else _) = _
 rw [Bool.not_true, cond_false]
 unfold arOk at h
 by_cases h1 : (l.length : Int) < (spB k).least
 ·rw [decide_eq_true h1, cond_true]
 ·rw [decide_eq_false h1, cond_false, decide_eq_true (show (l.length : Int) > (spB k).most by
   rw [decide_eq_true (show (spB k).least ≤ l.length by omega), Bool.true_and] at h
   have := of_decide_eq_false h; omega), cond_true]
theorem qpq {k : Nm} {l : List Val} (ha : Args l) (h : arOk k l = true) (hap : q2i k l = true → ((spB k).strict && q1t k l) = false → ∃ r, gQ0x (nmB k) l = some r ∧ r.1.Fits) :
  gQ0n (nmB k) l = some (if q2i k l = false then (vZ, 6) else if ((spB k).strict && q1t k l) = true then (vU, 0) else finS ((gQ0x (nmB k) l).getD (vZ, 0))) := by
 unfold gQ0n
 rw [qe9, Option.bind_some]
 show (bif (!true) then _ else bif (decide ((l.length : Int) < (spB k).least)) then _ else bif (decide ((l.length : Int) > (spB k).most)) then _ else q8 (gQ0o (nmB k) l (spB k, true)) 0) = _
 unfold arOk at h
 simp only [Bool.and_eq_true, decide_eq_true_eq] at h
 rw [Bool.not_true, cond_false, decide_eq_false (show ¬ (l.length : Int) < (spB k).least by omega), cond_false, decide_eq_false (show ¬ (l.length : Int) > (spB k).most by omega), cond_false]
 have hlen := ha.len
 have hff : ∀ v ∈ l, v.Fits := fun v hv => (ha.ck v hv).ok.1
 have := q1j (body := gQ0o (nmB k) l (spB k, true)) l.zipIdx (fun i (_ : Unit) => (i : Int))
  (fun _ r => if (r.all fun p => fitK p.1 (lett k p.2)) = false then (vZ, 6) else if ((spB k).strict && q1t k l) = true then (vU, 0) else finS ((gQ0x (nmB k) l).getD (vZ, 0)))
  (fun _ r => (r.all fun p => fitK p.1 (lett k p.2)) = true → q2i k l = true) (s0 := 0) (a := ()) rfl (fun h => h) (fun _ hq => ?_) (fun i x r _ hi hx _ hq => ?_)
 ·exact this
 ·have hfa := hq rfl
  rw [if_neg (by simp)]
  simp only [gQ0o, List.length_zipIdx, decide_eq_false (show ¬ (l.length : Int) < l.length by omega), cond_false, qvk k l (by omega) hff, Option.bind_some]
  cases hs : (spB k).strict with
  | false =>
   obtain ⟨r, h1, h2⟩ := hap hfa (by rw [hs]; rfl)
   rw [cond_false, h1, Option.bind_some, qiz h2 (fun z => Sum.inr z), Bool.false_and, if_neg (by decide)]; rfl
  | true =>
   rw [cond_true, Bool.true_and]
   cases ho : q1t k l with
   | true => rfl
   | false =>
    obtain ⟨r, h1, h2⟩ := hap hfa (by rw [hs, ho]; rfl)
    rw [cond_false, h1, Option.bind_some, qiz h2 (fun z => Sum.inr z), if_neg (by decide)]; rfl
 ·rw [List.length_zipIdx] at hi
  rw [List.getElem?_zipIdx, List.getElem?_eq_getElem hi] at hx
  simp only [Option.map_some, Nat.zero_add, Option.some.injEq] at hx
  subst hx
  have hm := hff _ (List.getElem_mem hi)
  have hil := (hm.parts).2.2.2.1
  simp only [gQ0o, decide_eq_true (show (i : Int) < l.length by omega), cond_true, qe, List.getElem?_eq_getElem hi, Option.bind_some, qki k i (by omega), qrb l[i] _ (by omega), qq hi (show l.length ≤ 9223372036854775807 by omega), List.all_cons] at hq ⊢
  by_cases hb : fitK l[i] (lett k i) = true
  ·left
   rw [hb, Bool.true_and] at hq
   simp only [hb, Bool.not_true, cond_false, Bool.true_and]
   exact ⟨(), hq, trivial, trivial⟩
  ·right
   simp only [eq_false_of_ne_true hb, Bool.not_false, cond_true, Bool.false_and, if_true]
end Abs
end Go.Proofs.YtagadjpmkggjdaaGreatDoor
namespace Go.Proofs.YtagadjpmkggjdaaGreatDoor
set_option linter.unusedSimpArgs false
set_option linter.unusedVariables false
namespace Abs
open Go.RowKit
mutual
/-- Are two values decidedly different? -/
def difV : Val → Val → Bool
 | .mk k n s items keys, b => if k = 6 ∨ b.kind = 6 then false else if k ≠ b.kind ∨ n ≠ b.num ∨ s ≠ b.str ∨ items.length ≠ b.items.length ∨ keys ≠ b.keys then true else difL items b.items
def difL : List Val → List Val → Bool
 | [], _ => false
 | x :: r, l => match l with
  | [] => false
  | y :: t => difV x y || difL r t
end
theorem q8v (a b : Val) : difV a b = if a.kind = 6 ∨ b.kind = 6 then false else if a.kind ≠ b.kind ∨ a.num ≠ b.num ∨ a.str ≠ b.str ∨ a.items.length ≠ b.items.length ∨ a.keys ≠ b.keys then true else difL a.items b.items := by
 cases a; rw [difV]; rfl
theorem qij (l : List Val) : difL [] l = false := by rw [difL]
theorem difL_nil' (l : List Val) : difL l [] = false := by cases l <;> rw [difL]
theorem qii (x y : Val) (r t : List Val) : difL (x :: r) (y :: t) = (difV x y || difL r t) := by rw [difL]
theorem q8u : ∀ {l m : List Val}, difL l m = true ↔ ∃ (i : Nat) (x y : Val), l[i]? = some x ∧ m[i]? = some y ∧ difV x y = true
 | [], m => by rw [qij]; simp
 | x :: r, [] => by rw [difL_nil']; simp
 | x :: r, y :: t => by
  rw [qii, Bool.or_eq_true, q8u]
  constructor
  ·rintro (h | ⟨i, a, b, h1, h2, h3⟩)
   ·exact ⟨0, x, y, rfl, rfl, h⟩
   ·exact ⟨i + 1, a, b, by simpa using h1, by simpa using h2, h3⟩
  ·rintro ⟨i, a, b, h1, h2, h3⟩
   cases i with
   | zero => simp at h1 h2; subst h1; subst h2; exact .inl h3
   | succ i => exact .inr ⟨i, a, b, by simpa using h1, by simpa using h2, h3⟩
open Classical in
/-- Are two values decidedly equal? -/
noncomputable def ql (a b : Val) : Bool := decide (a = b) && q7 a
theorem q8k {a b : Val} : ql a b = true ↔ a = b ∧ q7 a = true := by unfold ql; simp
theorem qql (a : Val) : difV a a = false := by
 induction a using wfV.induction with
 | h a ih =>
  rw [q8v]
  split
  ·rfl
  rw [if_neg (by simp)]
  cases h : difL a.items a.items with
  | false => rfl
  | true =>
   obtain ⟨i, x, y, h1, h2, h3⟩ := q8u.1 h
   rw [h1] at h2
   obtain rfl := Option.some.inj h2
   rw [ih x (List.mem_of_getElem? h1)] at h3; cases h3
theorem qqm (a : Val) : ∀ b, q7 a = true → q7 b = true → difV a b = false → a = b := by
 induction a using wfV.induction with
 | h a ih =>
  intro b ha hb h
  have ka := q2e ha
  have kb := q2e hb
  rw [q8v, if_neg (by omega)] at h
  split at h
  ·cases h
  ·rename_i hm
   have h1 : a.kind = b.kind := Classical.not_not.1 fun q => hm (.inl q)
   have h2 : a.num = b.num := Classical.not_not.1 fun q => hm (.inr (.inl q))
   have h3 : a.str = b.str := Classical.not_not.1 fun q => hm (.inr (.inr (.inl q)))
   have h4 : a.items.length = b.items.length := Classical.not_not.1 fun q => hm (.inr (.inr (.inr (.inl q))))
   have h5 : a.keys = b.keys := Classical.not_not.1 fun q => hm (.inr (.inr (.inr (.inr q))))
   refine q8c h1 h2 h3 (q9a h4 fun i hi => ?_) h5
   have hib : i < b.items.length := by omega
   rw [List.getElem?_eq_getElem hi, List.getElem?_eq_getElem hib]
   refine congrArg some (ih _ (List.getElem_mem hi) _ (q39 ha _ (List.getElem_mem hi)) (q39 hb _ (List.getElem_mem hib)) ?_)
   cases hd : difV a.items[i] b.items[i] with
   | false => rfl
   | true => rw [q8u.2 ⟨i, _, _, List.getElem?_eq_getElem hi, List.getElem?_eq_getElem hib, hd⟩] at h; cases h
theorem qau (a : Val) : ∀ b a' b', Refs a' a → Refs b' b → difV a b = true → difV a' b' = true := by
 induction a using wfV.induction with
 | h a ih =>
  intro b a' b' ha hb h
  rw [q8v] at h
  split at h
  ·cases h
  rename_i h6
  obtain ⟨a1, a2, a3, a4, a5, a6⟩ := qcb ha (fun e => h6 (.inl e))
  obtain ⟨b1, b2, b3, b4, b5, b6⟩ := qcb hb (fun e => h6 (.inr e))
  rw [q8v, if_neg (by rw [a1, b1]; exact h6), a1, a2, a3, a4, a5, b1, b2, b3, b4, b5]
  split at h
  ·rename_i hm; rw [if_pos hm]
  ·rename_i hm
   rw [if_neg hm]
   obtain ⟨i, x, y, h1, h2, h3⟩ := q8u.1 h
   have hi := (List.getElem?_eq_some_iff.1 h1).1
   have hj := (List.getElem?_eq_some_iff.1 h2).1
   have e1 := List.getElem?_eq_getElem (show i < a'.items.length by omega)
   have e2 := List.getElem?_eq_getElem (show i < b'.items.length by omega)
   exact q8u.2 ⟨i, _, _, e1, e2, ih x (List.mem_of_getElem? h1) y _ _ (a6 i _ _ e1 h1) (b6 i _ _ e2 h2) h3⟩
theorem qd3 {a b a' b' : Val} (ha : Refs a' a) (hb : Refs b' b) (h : ql a b = true) : ql a' b' = true := by
 obtain ⟨rfl, hk⟩ := q8k.1 h
 rw [qfu a' a hk ha, qfu b' a hk hb]
 exact h
theorem qae {a b : Val} (h : ql a b = true) : difV a b = false := by
 obtain ⟨rfl, _⟩ := q8k.1 h
 exact qql a
theorem qd2 {a b : Val} (ha : q7 a = true) (hb : q7 b = true) : ql a b = !difV a b := by
 cases hd : difV a b with
 | false => rw [q8k.2 ⟨qqm a b ha hb hd, ha⟩]; rfl
 | true =>
  cases h : ql a b with
  | false => rfl
  | true => rw [qae h] at hd; cases hd
theorem qd4 (a b : Val) (hf : a.Fits) : gQ0s a b = some (ql a b) := by
 unfold gQ0s
 obtain ⟨q, h1, h2⟩ := qy7 a b hf
 rw [h1, Option.bind_some, q99 a hf]
 cases q with
 | true =>
  rw [cond_true, Option.bind_some]
  obtain rfl := h2.1 rfl
  congr 1
  rw [Bool.eq_iff_iff, q8k]; simp
 | false =>
  rw [cond_false]
  cases h : ql a b with
  | false => rfl
  | true => have := h2.2 (q8k.1 h).1; cases this
open Classical in
theorem qy1 (a b : Val) : tQ6q a b = gQ30 (fun a0 a1 => if relV a0 a then tQ6q a0 a1 else none) a b := q3d a b
open Classical in
theorem qgg (a : Val) : ∀ b : Val, a.Fits → tQ6q a b = some (difV a b) := by
 induction a using wfV.induction with
 | h a ih =>
  intro b hf
  obtain ⟨f1, f2, f3, f4, f5, f6, f7⟩ := hf.parts
  have hn := q2v f4 (by decide)
  have hk := q2v f5 (by decide)
  rw [qy1, q8v]
  unfold gQ30
  by_cases h1 : a.kind = 6
  ·rw [decide_eq_true h1, if_pos (.inl h1)]; rfl
  rw [decide_eq_false h1, cond_false]
  by_cases h2 : b.kind = 6
  ·rw [decide_eq_true h2, if_pos (.inr h2)]; rfl
  rw [decide_eq_false h2, cond_false, if_neg (by omega)]
  by_cases h3 : a.kind = b.kind
  ·rw [decide_eq_true h3, Bool.not_true, cond_false]
   by_cases h4 : a.num = b.num
   ·rw [decide_eq_true h4, Bool.not_true, cond_false]
    by_cases h5 : a.str = b.str
    ·rw [decide_eq_true h5, Bool.not_true, cond_false]
     by_cases h7 : a.items.length = b.items.length
     ·rw [decide_eq_true (show (a.items.length : Int) = b.items.length by omega), Bool.not_true, cond_false, qe4 _ _ (by omega), Option.bind_some]
      by_cases h8 : a.keys = b.keys
      ·rw [decide_eq_true h8, Bool.not_true, cond_false, if_neg (by simp [h3, h4, h5, h7, h8])]
       refine q1j a.items (fun i (_ : Unit) => (i : Int)) (fun _ r => difL r (b.items.drop (a.items.length - r.length))) (a := ()) (fun _ r => r.length ≤ a.items.length ∧ ∀ y ∈ r, y ∈ a.items) rfl ⟨Nat.le_refl _, fun _ h => h⟩ (fun _ _ => ?_) (fun i x r _ hi hx hd hq => ?_) |>.trans (by rw [Nat.sub_self, List.drop_zero])
       ·simp only [gQ31, decide_eq_false (show ¬ (a.items.length : Int) < a.items.length by omega), cond_false, qij]
       ·have hib : i < b.items.length := by omega
        have hr : a.items.length - (x :: r).length = i := by
         have := congrArg List.length hd
         rw [List.length_drop] at this; omega
        have hr' : a.items.length - r.length = i + 1 := by rw [List.length_cons] at hr; have := hq.1; rw [List.length_cons] at this; omega
        have hm : x ∈ a.items := List.mem_of_getElem? hx
        rw [hr, hr', List.drop_eq_getElem_cons hib, qii]
        simp only [gQ31, decide_eq_true (show (i : Int) < a.items.length by omega), cond_true, qe, hx, List.getElem?_eq_getElem hib, Option.bind_some, if_pos (show relV x a from hm), ih x hm _ (f7 x hm), qq hi (show a.items.length ≤ 9223372036854775807 by omega)]
        cases difV x b.items[i] with
        | true => right; rfl
        | false =>
         left
         exact ⟨(), ⟨by have := hq.1; rw [List.length_cons] at this; omega, fun y hy => hq.2 y (List.mem_cons_of_mem _ hy)⟩, rfl, by rw [Bool.false_or]⟩
      ·rw [decide_eq_false h8, Bool.not_false, cond_true, if_pos (.inr (.inr (.inr (.inr h8))))]
     ·rw [decide_eq_false (show ¬ (a.items.length : Int) = b.items.length by omega), Bool.not_false, cond_true, if_pos (.inr (.inr (.inr (.inl h7))))]
    ·rw [decide_eq_false h5, Bool.not_false, cond_true, if_pos (.inr (.inr (.inl h5)))]
   ·rw [decide_eq_false h4, Bool.not_false, cond_true, if_pos (.inr (.inl h4))]
  ·rw [decide_eq_false h3, Bool.not_false, cond_true, if_pos (.inl h3)]
noncomputable def q3g (l : List Val) (v : Val) : Val := bif (l.any fun x => ql x v) then bV true else bif (l.all fun x => difV x v) then bV false else vU
theorem qqd (l : List Val) (v : Val) (hl : l.length ≤ 140737488351232) (hf : ∀ x ∈ l, x.Fits) : gQ0z l v = some (q3g l v) := by
 unfold gQ0z
 have := q1j (body := gQ10 l v) l (fun i (a : Bool) => ((i : Int), a)) (fun a r => bif (r.any fun x => ql x v) then bV true else bif (a && r.all fun x => difV x v) then bV false else vU) (fun _ r => ∀ x ∈ r, x.Fits) (s0 := (0, true)) (a := true) rfl hf (fun a _ => ?_) (fun i x r a hi hx _ hq => ?_)
 ·rw [this]; unfold q3g; rw [Bool.true_and]
 ·simp only [gQ10, decide_eq_false (show ¬ (l.length : Int) < l.length by omega), cond_false, List.any_nil, List.all_nil, Bool.and_true]
  cases a <;> rfl
 ·have hx' := hq x List.mem_cons_self
  simp only [gQ10, decide_eq_true (show (i : Int) < l.length by omega), cond_true, qe, hx, Option.bind_some, qd4 x v hx', qgg x v hx', List.any_cons, List.all_cons, qq hi (show l.length ≤ 9223372036854775807 by omega)]
  cases ql x v with
  | true => right; rfl
  | false =>
   left
   refine ⟨a && difV x v, fun y hy => hq y (List.mem_cons_of_mem _ hy), ?_, by rw [Bool.false_or, Bool.and_assoc]⟩
   rw [cond_false]
   cases a <;> rfl
noncomputable def q24 (v : Val) : Nat → List Val → Val × Int
 | _, [] => (vZ, 16)
 | i, x :: r => bif ql x v then (vNum i, 0) else bif difV x v then q24 v (i + 1) r else (vU, 0)
theorem q7p (v : Val) (i : Nat) (x : Val) (r : List Val) : q24 v i (x :: r) = bif ql x v then (vNum i, 0) else bif difV x v then q24 v (i + 1) r else (vU, 0) := by rw [q24]
theorem qry (l : List Val) (v : Val) (hl : l.length ≤ 140737488351232) (hf : ∀ x ∈ l, x.Fits) :
  ((gQ1k l v).bind fun y14 => bif (!y14.2) then (gQ6d).bind fun y16 => some (y16, (0 : Int)) else bif (decide (y14.1 < 0)) then some ((Val.mk 0 0 eS [] []), 16) else (gQ64 y14.1).bind fun y18 => some (y18, 0)) = some (q24 v 0 l) := by
 have key : ∃ q, gQ1k l v = some q ∧ (bif (!q.2) then (gQ6d).bind fun y16 => some (y16, (0 : Int)) else bif (decide (q.1 < 0)) then some ((Val.mk 0 0 eS [] []), 16) else (gQ64 q.1).bind fun y18 => some (y18, 0)) = some (q24 v 0 l) := by
  unfold gQ1k
  refine q2p (fun s => ∃ i : Nat, s = (i : Int) ∧ i ≤ l.length ∧ q24 v i (l.drop i) = q24 v 0 l) (fun s => l.length - s.toNat) (fun (q : Int × Bool) => (bif (!q.2) then (gQ6d).bind fun y16 => some (y16, (0 : Int)) else bif (decide (q.1 < 0)) then some ((Val.mk 0 0 eS [] []), 16) else (gQ64 q.1).bind fun y18 => some (y18, 0)) = some (q24 v 0 l)) ?_ 0 ⟨0, rfl, Nat.zero_le _, by simp⟩
  rintro s ⟨i, rfl, hi, hs⟩
  rcases Nat.eq_or_lt_of_le hi with h0 | h0
  ·refine .inr ⟨(-1, true), ?_, ?_⟩
   ·simp only [gQ1l, decide_eq_false (show ¬ (i : Int) < l.length by omega), cond_false]
   ·rw [h0, List.drop_length] at hs
    rw [← hs]; rfl
  ·have hx := List.getElem?_eq_getElem h0
   have hx' := hf _ (List.getElem_mem h0)
   rw [List.drop_eq_getElem_cons h0] at hs
   rw [q7p] at hs
   simp only [gQ1l, decide_eq_true (show (i : Int) < l.length by omega), cond_true, qe, hx, Option.bind_some, qd4 _ v hx', qgg _ v hx', qq h0 (show l.length ≤ 9223372036854775807 by omega)]
   cases ha : ql l[i] v with
   | true =>
    rw [ha, cond_true] at hs
    refine .inr ⟨_, rfl, ?_⟩
    rw [← hs]
    simp only [Bool.not_true, cond_false]
    rw [decide_eq_false (show ¬ (i : Int) < 0 by omega)]; rfl
   | false =>
    rw [ha, cond_false] at hs
    simp only [cond_false]
    cases hd : difV l[i] v with
    | true =>
     rw [hd, cond_true] at hs
     exact .inl ⟨_, rfl, ⟨i + 1, rfl, h0, hs⟩, by simp only [Int.toNat_natCast]; omega⟩
    | false =>
     rw [hd, cond_false] at hs
     refine .inr ⟨_, rfl, ?_⟩
     rw [← hs]; rfl
 obtain ⟨q, h1, h2⟩ := key
 rw [h1, Option.bind_some, h2]
noncomputable def q29 : List Val → List Val → List Val → Val
 | _, acc, [] => Val.mk 4 0 eS acc []
 | pre, acc, x :: r => bif (pre.any fun y => !ql x y && !difV x y) then vU else q29 (pre ++ [x]) (bif (pre.any fun y => ql x y) then acc else acc ++ [x]) r
theorem q8w (pre acc : List Val) (x : Val) (r : List Val) : q29 pre acc (x :: r) = bif (pre.any fun y => !ql x y && !difV x y) then vU else q29 (pre ++ [x]) (bif (pre.any fun y => ql x y) then acc else acc ++ [x]) r := by rw [q29]
theorem qx7 {α : Type} (l : List α) (i : Nat) (hi : i ≤ l.length) : slc l 0 (i : Int) = some (l.take i) := by
 unfold slc
 rw [if_pos (by omega)]
 simp
theorem qqn (l : List Val) (hl : l.length ≤ 100000) (hf : ∀ x ∈ l, x.Fits) : gQ12 l = some (q29 [] [] l) := by
 unfold gQ12
 have := q1j (body := gQ13 l) l (fun i (a : List Val) => ((i : Int), a)) (fun a r => q29 (l.take (l.length - r.length)) a r) (fun a r => a.length + r.length ≤ l.length ∧ ∀ x ∈ r, x.Fits) (s0 := (0, [])) (a := []) rfl ⟨by simp, hf⟩ (fun a _ => ?_) (fun i x r a hi hx hd hq => ?_)
 ·rw [this, Nat.sub_self, List.take_zero]
 ·simp only [gQ13, decide_eq_false (show ¬ (l.length : Int) < l.length by omega), cond_false, q29]; rfl
 ·have hr : l.length - (x :: r).length = i := by
   have := congrArg List.length hd
   rw [List.length_drop] at this; omega
  have hq1 := hq.1
  rw [List.length_cons] at hq1
  have hr' : l.length - r.length = i + 1 := by rw [List.length_cons] at hr; omega
  have hx' := hq.2 x List.mem_cons_self
  have htk : l.take (i + 1) = l.take i ++ [x] := by
   rw [List.take_add_one, hx]; rfl
  rw [hr, hr', htk]
  simp only [gQ13, decide_eq_true (show (i : Int) < l.length by omega), cond_true, qe, hx, Option.bind_some, qx7 l i (by omega)]
  -- the inner loop
  have hin := q1j (body := gQ14 x (l.take i) ((i : Int), a)) (l.take i) (fun j (b : Bool) => ((j : Int), b))
   (fun b q => bif (q.any fun y => !ql x y && !difV x y) then (.inr vU : (Int × List Val) ⊕ Val) else .inl (((i + 1 : Nat) : Int), bif (b && !q.any fun y => ql x y) then a ++ [x] else a)) (fun _ _ => True) (s0 := (0, true)) (a := true) rfl trivial (fun b _ => ?_) (fun j y q b hj hy _ _ => ?_)
  ·rw [show q8 (gQ14 x (l.take i) ((i : Int), a)) (0, true) = _ from hin, Bool.true_and]
   rw [q8w]
   cases (l.take i).any fun y => !ql x y && !difV x y with
   | true => right; rfl
   | false =>
    left
    refine ⟨bif ((l.take i).any fun y => ql x y) then a else a ++ [x], ⟨?_, fun y hy => hq.2 y (List.mem_cons_of_mem _ hy)⟩, ?_, rfl⟩
    ·cases (l.take i).any fun y => ql x y with
     | true => rw [cond_true]; omega
     | false => rw [cond_false, List.length_append, List.length_singleton]; omega
    ·cases (l.take i).any fun y => ql x y <;> rfl
  ·simp only [gQ14, decide_eq_false (show ¬ ((l.take i).length : Int) < (l.take i).length by omega), cond_false, List.any_nil, Bool.not_false, Bool.and_true, qq hi (show l.length ≤ 9223372036854775807 by omega)]
   cases b with
   | false => rfl
   | true =>
    rw [cond_true, q2r a x (m := 80) (n := 100001) (by decide) (by omega) (by decide)]; rfl
  ·have hjl : j < l.length := by rw [List.length_take] at hj; omega
   simp only [gQ14, decide_eq_true (show (j : Int) < (l.take i).length by omega), cond_true, qe, hy, Option.bind_some, qd4 x y hx', qgg x y hx', List.any_cons, qq hjl (show l.length ≤ 9223372036854775807 by omega)]
   cases hal : ql x y with
   | true =>
    left
    refine ⟨false, trivial, ?_, by simp⟩
    rw [Bool.not_true, cond_false]
    cases b <;> rfl
   | false =>
    rw [Bool.not_false, cond_true]
    cases hdf : difV x y with
    | false => right; rfl
    | true =>
     left
     refine ⟨b, trivial, ?_, by simp⟩
     rw [Bool.not_true, cond_false]
     cases b <;> rfl
mutual
/-- The elements of a list and of the lists in it; none: one of them is unknown. -/
def q5l : Val → Option (List Val)
 | .mk k n s items keys => if k = 6 then none else if k = 4 then q1c items else some [.mk k n s items keys]
def q1c : List Val → Option (List Val)
 | [] => some []
 | x :: r => (q5l x).bind fun a => (q1c r).map fun b => a ++ b
end
theorem q7o (x : Val) : q5l x = if x.kind = 6 then none else if x.kind = 4 then q1c x.items else some [x] := by cases x; rw [q5l]; rfl
theorem q5k : q1c [] = some [] := by rw [q1c]
theorem q4j (x : Val) (r : List Val) : q1c (x :: r) = (q5l x).bind fun a => (q1c r).map fun b => a ++ b := by rw [q1c]
theorem q52 (x : Val) : q1z x = 1 + q1s x.items := by cases x; rw [q1z]; rfl
theorem q5p (x : Val) (r : List Val) : q1s (x :: r) = q1z x + q1s r := by rw [q1s]
theorem q9i : q1s [] = 0 := by rw [q1s]
theorem qfk : ∀ {l : List Val} {x : Val}, x ∈ l → q1z x ≤ q1s l
 | y :: r, x, h => by
  rw [q5p]
  rcases List.mem_cons.1 h with rfl | h
  ·omega
  ·have := qfk h; omega
theorem qc5 : ∀ (l : List Val), l.length ≤ q1s l
 | [] => by rw [q9i]; exact Nat.le_refl _
 | x :: r => by
  rw [q5p, List.length_cons, q52]
  have := qc5 r
  omega
theorem qrn (x : Val) : ∀ z, q5l x = some z → z.length ≤ q1z x := by
 induction x using wfV.induction with
 | h x ih =>
  intro z h
  have key : ∀ (l : List Val), (∀ y ∈ l, y ∈ x.items) → ∀ z, q1c l = some z → z.length ≤ q1s l := by
   intro l
   induction l with
   | nil => intro _ z hz; rw [q5k] at hz; obtain rfl := Option.some.inj hz; exact Nat.zero_le _
   | cons y r ihl =>
    intro hm z hz
    rw [q4j] at hz
    obtain ⟨a, ha, hz⟩ := Option.bind_eq_some_iff.1 hz
    obtain ⟨b, hb, rfl⟩ := Option.map_eq_some_iff.1 hz
    have h1 := ih y (hm y List.mem_cons_self) a ha
    have h2 := ihl (fun w hw => hm w (List.mem_cons_of_mem _ hw)) b hb
    rw [q5p, List.length_append]; omega
  rw [q7o] at h
  rw [q52]
  split at h
  ·cases h
  split at h
  ·have := key x.items (fun _ h => h) z h; omega
  ·obtain rfl := Option.some.inj h; simp
theorem qec : ∀ (l z : List Val), q1c l = some z → z.length ≤ q1s l
 | [], z, hz => by rw [q5k] at hz; obtain rfl := Option.some.inj hz; exact Nat.zero_le _
 | y :: r, z, hz => by
  rw [q4j] at hz
  obtain ⟨a, ha, hz⟩ := Option.bind_eq_some_iff.1 hz
  obtain ⟨b, hb, rfl⟩ := Option.map_eq_some_iff.1 hz
  have h1 := qrn y a ha
  have h2 := qec r b hb
  rw [q5p, List.length_append]; omega
open Classical in
theorem qrl (l : List Val) : tQ6n l = gQ1h (fun a0 => if q9r a0 l then tQ6n a0 else none) l := q3d l ()
open Classical in
theorem qrr (l : List Val) : q1s l ≤ 100000 → tQ6n l = some (match q1c l with | some z => (z, true) | none => ([], false)) := by
 induction l using wfVL.induction with
 | h l ih =>
  intro hn
  have hll := qc5 l
  rw [qrl]
  unfold gQ1h
  refine q1j l (fun i (a : List Val) => ((i : Int), a)) (fun a r => match q1c r with | some z => (a ++ z, true) | none => ([], false)) (fun a r => a.length + q1s r ≤ q1s l ∧ ∀ x ∈ r, x ∈ l) (s0 := (0, [])) (a := []) rfl ⟨by simp, fun _ h => h⟩ (fun a _ => ?_) (fun i x r a hi hx _ hq => ?_) |>.trans (by cases q1c l <;> rfl)
  ·simp only [gQ1i, decide_eq_false (show ¬ (l.length : Int) < l.length by omega), cond_false, q5k, List.append_nil]
  ·obtain ⟨q1, q2⟩ := hq
   have hm := q2 x List.mem_cons_self
   rw [q5p] at q1
   have hnx := q52 x
   simp only [gQ1i, decide_eq_true (show (i : Int) < l.length by omega), cond_true, qe, hx, Option.bind_some, qq hi (show l.length ≤ 9223372036854775807 by omega), q4j]
   rw [q7o]
   by_cases h6 : x.kind = 6
   ·right; rw [decide_eq_true h6, if_pos h6]; rfl
   rw [decide_eq_false h6, cond_false, if_neg h6]
   by_cases h4 : x.kind = 4
   ·rw [decide_eq_true h4, cond_true, if_pos h4, if_pos (show q9r x.items l from ⟨x, hm, rfl⟩), ih x.items ⟨x, hm, rfl⟩ (by have := qfk hm; omega)]
    cases hf : q1c x.items with
    | none => right; rfl
    | some z =>
     have hz := qec _ _ hf
     left
     refine ⟨a ++ z, ⟨by rw [List.length_append]; omega, fun y hy => q2 y (List.mem_cons_of_mem _ hy)⟩, ?_, ?_⟩
     ·simp only [Option.bind_some, Bool.not_true, cond_false]
      rw [qd9 (by decide) (show (a.length + z.length) * 80 ≤ 140737488355328 by omega), Option.bind_some]
     ·simp only [Option.bind_some]
      cases q1c r with
      | none => rfl
      | some b => simp
   ·rw [decide_eq_false h4, cond_false, if_neg h4]
    left
    refine ⟨a ++ [x], ⟨by rw [List.length_append, List.length_singleton]; omega, fun y hy => q2 y (List.mem_cons_of_mem _ hy)⟩, ?_, ?_⟩
    ·rw [q2r a x (m := 80) (n := 100001) (by decide) (by omega) (by decide), Option.bind_some]
    ·simp only [Option.bind_some]
     cases q1c r with
     | none => rfl
     | some b => simp
end Abs
end Go.Proofs.YtagadjpmkggjdaaGreatDoor
namespace Go.Proofs.YtagadjpmkggjdaaGreatDoor
set_option linter.unusedSimpArgs false
set_option linter.unusedVariables false
namespace Abs
open Go.RowKit
abbrev lV (l : List Val) : Val := Val.mk 4 0 eS l []
theorem q59 (n : Int) : NumPlain.validB n = true ↔ -9007199254740992 ≤ n ∧ n ≤ 9007199254740992 := NumPlain.validB_iff n
theorem q92 (n : Int) : gQ4i n = some (NumPlain.validB n) := by
 unfold gQ4i
 by_cases h : n ≥ -9007199254740992
 ·rw [decide_eq_true h, cond_true]
  congr 1
  rw [Bool.eq_iff_iff, decide_eq_true_iff, q59]
  omega
 ·rw [decide_eq_false h, cond_false]
  congr 1
  rw [Bool.eq_iff_iff, q59]
  simp; omega
theorem qsa (n : Int) : gQ4k n = some (if NumPlain.validB n = true then (n, 0) else (0, 5)) := by
 unfold gQ4k
 rw [q92, Option.bind_some]
 cases NumPlain.validB n <;> rfl
theorem qs4 {a b : Int} (ha : NumPlain.validB a = true) (hb : NumPlain.validB b = true) : gQ4c a b = some (if NumPlain.validB (a + b) = true then (a + b, 0) else (0, 5)) := by
 unfold gQ4c
 have h1 := (q59 a).1 ha
 have h2 := (q59 b).1 hb
 rw [q92, ha, Option.bind_some, q92, hb, Option.bind_some, q28 (by omega) (by omega), qsa]
 rfl
theorem qs8 {a : Int} {n : Nat} (ha : NumPlain.validB a = true) (h0 : 1 ≤ n) (hn : n ≤ 100000) : gQ4g a (n : Int) = some (a % n, 0) := by
 have h1 := (q59 a).1 ha
 have hbn : (0 : Int) < n := by omega
 have e1 := Int.emod_nonneg a (show (n : Int) ≠ 0 by omega)
 have e2 := Int.emod_lt_of_pos a hbn
 have e3 := Int.mul_ediv_add_emod a n
 have q1 : -9007199254740993 ≤ a / n := by
  have := Int.ediv_le_ediv hbn (show (n : Int) * (-9007199254740993) ≤ a by
   have : (n : Int) * (-9007199254740993) ≤ 1 * (-9007199254740993) := Int.mul_le_mul_of_nonpos_right (by omega) (by omega)
   omega)
  rwa [Int.mul_ediv_cancel_left _ (by omega)] at this
 have q2 : a / n ≤ 9007199254740992 := by
  have := Int.ediv_le_ediv hbn (show a ≤ (n : Int) * 9007199254740992 by
   have : 1 * 9007199254740992 ≤ (n : Int) * 9007199254740992 := Int.mul_le_mul_of_nonneg_right (by omega) (by omega)
   omega)
  rwa [Int.mul_ediv_cancel_left _ (by omega)] at this
 have hdiv : gQ4e a (n : Int) = some (a / n, 0) := by
  unfold gQ4e
  rw [q92, ha, Option.bind_some, q92, (q59 (n : Int)).2 (by omega), Option.bind_some]
  simp only [Bool.not_true, cond_false]
  rw [decide_eq_false (show ¬ (n : Int) = 0 by omega), cond_false]
  unfold quo rem
  rw [if_neg (show ¬ (n : Int) = 0 by omega), if_neg (show ¬ (n : Int) = 0 by omega), Option.bind_some, Option.bind_some, Int.tdiv_eq_ediv, Int.tmod_eq_emod]
  rw [Int.sign_eq_one_of_pos hbn, decide_eq_false (show ¬ (n : Int) < 0 by omega)]
  have w1 : IntKind.i64.wrap (a / n) = a / n := q28 (by omega) (by omega)
  have w2 : IntKind.i64.wrap (a / n + 1) = a / n + 1 := q28 (by omega) (by omega)
  have w3 : IntKind.i64.wrap (a / n + 1 - 1) = a / n := by rw [show a / (n : Int) + 1 - 1 = a / n by omega]; exact w1
  by_cases hc : 0 ≤ a ∨ (n : Int) ∣ a
  ·rw [if_pos hc, if_pos hc, Int.add_zero, w1]
   by_cases hz : a % n = 0
   ·rw [decide_eq_true (by omega)]; rfl
   ·rw [decide_eq_false (by omega), Bool.not_false, cond_true]
    have : ¬ a < 0 := by
     rcases hc with h | h
     ·omega
     ·exact absurd (Int.emod_eq_zero_of_dvd h) hz
    rw [decide_eq_false this]; rfl
  ·rw [if_neg hc, if_neg hc, w2]
   have hne : a % n ≠ 0 := fun h => hc (.inr (Int.dvd_of_emod_eq_zero h))
   have hna : (Int.natAbs (n : Int) : Int) = n := by omega
   rw [decide_eq_false (show ¬ (a % (n : Int) - (Int.natAbs (n : Int) : Int) = 0) by omega), Bool.not_false, cond_true, decide_eq_true (show a < 0 by omega)]
   show some (IntKind.i64.wrap (a / n + 1 - 1), (0 : Int)) = _
   rw [w3]
 unfold gQ4g
 rw [hdiv, Option.bind_some]
 show some (IntKind.i64.wrap (a - IntKind.i64.wrap ((n : Int) * (a / n))), (0 : Int)) = _
 have w4 : IntKind.i64.wrap ((n : Int) * (a / n)) = (n : Int) * (a / n) := q28 (by omega) (by omega)
 rw [w4, show a - (n : Int) * (a / n) = a % n by omega, q28 (by omega) (by omega)]
def extS (s : Int) : Val → List Val → Val
 | b, [] => b
 | b, v :: r => extS s (if s * v.num > s * b.num then v else b) r
theorem qx6 {α : Type} (l : List α) (h : 1 ≤ l.length) : slc l 1 (l.length : Int) = some (l.drop 1) := by
 unfold slc
 rw [if_pos (by omega)]
 congr 1
 simp only [Int.toNat_one, Int.toNat_natCast]
 exact List.take_of_length_le (by simp)
theorem qy5 (b : Val) : Val.mk b.kind b.num b.str b.items b.keys = b := by cases b; rfl
theorem qr4 (x : Val) (r : List Val) {s : Int} (hs : s = 1 ∨ s = -1) (hl : r.length ≤ 1000) (hv : ∀ v ∈ x :: r, -9007199254740992 ≤ v.num ∧ v.num ≤ 9007199254740992) : gQ18 (x :: r) s = some (extS s x r) := by
 unfold gQ18
 have e0 : idx (x :: r) 0 = some x := rfl
 rw [e0, Option.bind_some, qx6 (x :: r) (by simp), Option.bind_some]
 refine q1j r (fun i (b : Val) => (b.kind, b.num, b.str, b.items, b.keys, (i : Int))) (fun b r => extS s b r) (fun b q => ∀ v ∈ b :: q, -9007199254740992 ≤ v.num ∧ v.num ≤ 9007199254740992) rfl hv (fun b _ => ?_) (fun i y q b hi hx _ hq => ?_)
 ·simp only [gQ19, List.drop_succ_cons, List.drop_zero, decide_eq_false (show ¬ (r.length : Int) < r.length by omega), cond_false, extS, qy5]
 ·left
  have h1 := hq b List.mem_cons_self
  have h2 := hq y (List.mem_cons_of_mem _ List.mem_cons_self)
  have w1 : IntKind.i64.wrap (s * y.num) = s * y.num := by rcases hs with rfl | rfl <;> exact q28 (by omega) (by omega)
  have w2 : IntKind.i64.wrap (s * b.num) = s * b.num := by rcases hs with rfl | rfl <;> exact q28 (by omega) (by omega)
  refine ⟨if s * y.num > s * b.num then y else b, fun v hv => ?_, ?_, by rw [extS]⟩
  ·rcases List.mem_cons.1 hv with rfl | hv
   ·split <;> assumption
   ·exact hq v (List.mem_cons_of_mem _ (List.mem_cons_of_mem _ hv))
  ·simp only [gQ19, List.drop_succ_cons, List.drop_zero, decide_eq_true (show (i : Int) < r.length by omega), cond_true, qe, hx, Option.bind_some, qq hi (show r.length ≤ 9223372036854775807 by omega), w1, w2]
   by_cases h : s * y.num > s * b.num
   ·rw [decide_eq_true h, if_pos h]; rfl
   ·rw [decide_eq_false h, if_neg h]; rfl
def upTo (a b : Int) : List Val := (List.range (b - a).toNat).map fun i => vNum (a + (i : Nat))
noncomputable def q4c (a b : Int) : Val × Int := if b - a > 4096 then (vZ, 14) else (lV (upTo a b), 0)
theorem quq {body : Int × List Val → Option ((Int × List Val) ⊕ (Val × Int))} (a b : Int) (h1 : -9007199254740992 ≤ a ∧ a ≤ 9007199254740992) (h2 : -9007199254740992 ≤ b ∧ b ≤ 9007199254740992) (hd : b - a ≤ 4096)
  (hbody : ∀ (n : Int) (acc : List Val), acc.length < 5000 → -9007199254740992 ≤ n ∧ n ≤ 9007199254740992 → body (n, acc) = if n < b then some (.inl (n + 1, acc ++ [vNum n])) else some (.inr (lV acc, 0))) : q8 body (a, []) = some (lV (upTo a b), 0) := by
 obtain ⟨q, e1, e2⟩ := q2p (body := body) (fun s => ∃ i : Nat, i ≤ (b - a).toNat ∧ s = (a + (i : Int), (List.range i).map fun j => vNum (a + (j : Nat)))) (fun s => (b - s.1).toNat) (fun q => q = (lV (upTo a b), 0)) (by
  rintro s ⟨i, hi, rfl⟩
  have hb := hbody (a + (i : Int)) ((List.range i).map fun j => vNum (a + (j : Nat))) (by simp; omega) (by omega)
  by_cases h : a + (i : Int) < b
  ·rw [if_pos h] at hb
   refine .inl ⟨_, hb, ⟨i + 1, by omega, ?_⟩, by simp only; omega⟩
   rw [List.range_succ, List.map_append]
   exact Prod.ext (by simp only; omega) rfl
  ·rw [if_neg h] at hb
   refine .inr ⟨_, hb, ?_⟩
   have : i = (b - a).toNat := by omega
   subst this; rfl) (a, []) ⟨0, Nat.zero_le _, by simp⟩
 rw [e1, e2]
theorem ql7 {a b : Int} (ha : NumPlain.validB a = true) (hb : NumPlain.validB b = true) : gQ2g a b = some (q4c a b) := by
 have h1 := (q59 a).1 ha
 have h2 := (q59 b).1 hb
 unfold gQ2g q4c
 rw [q28 (by omega) (by omega)]
 by_cases h : b - a > 4096
 ·rw [decide_eq_true h, if_pos h]; rfl
 rw [decide_eq_false h, if_neg h, cond_false]
 refine quq a b h1 h2 (by omega) fun n acc hl hn => ?_
 unfold gQ2h
 by_cases hlt : n < b
 ·rw [if_pos hlt]
  simp only [decide_eq_true hlt, cond_true, gQ64, Option.bind_some, q2r acc _ (m := 80) (n := 5000) (by decide) hl (by decide), q28 (show -9223372036854775808 ≤ n + 1 by omega) (show n + 1 ≤ 9223372036854775807 by omega)]
 ·rw [if_neg hlt]
  simp only [decide_eq_false hlt, cond_false]; rfl
def sumS : Int → List Val → Val × Int
 | n, [] => (vNum n, 0)
 | n, v :: r => if NumPlain.validB (n + v.num) = true then sumS (n + v.num) r else (vZ, 5)
theorem qxn (x : Val) (hl : x.items.length ≤ 100000) (hv : ∀ v ∈ x.items, NumPlain.validB v.num = true) : q8 (gQ2k x) (0, 0) = some (sumS 0 x.items) := by
 refine q1j x.items (fun i (n : Int) => ((i : Int), n)) (fun n r => sumS n r) (fun n r => NumPlain.validB n = true ∧ ∀ v ∈ r, NumPlain.validB v.num = true) rfl ⟨by decide, hv⟩ (fun n _ => ?_) (fun i y q n hi hx _ hq => ?_)
 ·simp only [gQ2k, decide_eq_false (show ¬ (x.items.length : Int) < x.items.length by omega), cond_false, sumS]; rfl
 ·have hy := hq.2 y List.mem_cons_self
  simp only [gQ2k, decide_eq_true (show (i : Int) < x.items.length by omega), cond_true, qe, hx, Option.bind_some, qs4 hq.1 hy, qq hi (show x.items.length ≤ 9223372036854775807 by omega), sumS]
  by_cases h : NumPlain.validB (n + y.num) = true
  ·left
   rw [if_pos h, if_pos h]
   exact ⟨n + y.num, ⟨h, fun v hv => hq.2 v (List.mem_cons_of_mem _ hv)⟩, rfl, rfl⟩
  ·right
   rw [if_neg h, if_neg h]; rfl
def qe2 (s t : ByteArray) : Bool := decide (t.size ≤ s.size) && decide (s.extract (s.size - t.size) s.size = t)
def begB (s t : ByteArray) : Bool := decide (t.size ≤ s.size) && decide (s.extract 0 t.size = t)
theorem qxm (s t : ByteArray) (hs : s.size ≤ 140737488351232) : gQ58 s t = some (qe2 s t) := by
 unfold gQ58 gQ5c qe2
 by_cases h : t.size ≤ s.size
 ·rw [decide_eq_true (show (s.size : Int) ≥ t.size by omega), cond_true, q28 (by omega) (by omega)]
  have e : sslc s ((s.size : Int) - t.size) (s.size : Int) = some (s.extract (s.size - t.size) s.size) := by
   unfold sslc
   rw [if_pos (by omega)]
   congr 2
   omega
  rw [e, decide_eq_true h]; rfl
 ·rw [decide_eq_false (show ¬ (s.size : Int) ≥ t.size by omega), cond_false, decide_eq_false h]; rfl
theorem qw2 (s t : ByteArray) (hs : s.size ≤ 140737488351232) : gQ56 s t = some (begB s t) := by
 unfold gQ56 gQ5a begB
 by_cases h : t.size ≤ s.size
 ·rw [decide_eq_true (show (s.size : Int) ≥ t.size by omega), cond_true]
  have e : sslc s 0 (t.size : Int) = some (s.extract 0 t.size) := by
   unfold sslc
   rw [if_pos (by omega)]
   rfl
  rw [e, decide_eq_true h]; rfl
 ·rw [decide_eq_false (show ¬ (s.size : Int) ≥ t.size by omega), cond_false, decide_eq_false h]; rfl
theorem qs5 (b : Bool) : gQ5g b = some (bV b) := by cases b <;> rfl
def q30 (l : List Val) : List ByteArray := l.map Val.str
theorem qep : ∀ (l : List (List UInt8)) (s : List UInt8) (m : Nat), (∀ x ∈ l, x.length ≤ m) → (Lib.join l s).length ≤ l.length * (m + s.length)
 | [], s, m, _ => by simp [Lib.join]
 | [x], s, m, h => by
  have := h x (by simp)
  simp [Lib.join]; omega
 | x :: y :: r, s, m, h => by
  have h1 := h x (by simp)
  have h2 := qep (y :: r) s m fun z hz => h z (List.mem_cons_of_mem _ hz)
  have e : Lib.join (x :: y :: r) s = x ++ (s ++ Lib.join (y :: r) s) := by simp [Lib.join, List.intercalate]
  rw [e]
  simp only [List.length_append, List.length_cons, Nat.succ_mul] at h2 ⊢
  omega
theorem qsl (s : ByteArray) (l : List Val) (hs : s.size ≤ 4096) (hl : l.length ≤ 100000) (hv : ∀ v ∈ l, v.str.size ≤ 4096) : gQ1t s l = some (q17 (q30 l) s) := by
 unfold gQ1t
 have := q1j (body := gQ1u s l) l (fun i (a : List ByteArray) => ((i : Int), a)) (fun a r => q17 (a ++ q30 r) s) (fun a r => a.length + r.length ≤ 100000 ∧ ∀ x ∈ a ++ q30 r, x.size ≤ 4096) (s0 := (0, [])) (a := []) rfl ⟨by simpa using hl, fun x hx => by
  obtain ⟨v, hv1, rfl⟩ := List.mem_map.1 (by simpa [q30] using hx)
  exact hv v hv1⟩ (fun a hq => ?_) (fun i x r a hi hx _ hq => ?_)
 ·rw [this]; rfl
 ·have hj : qf0 a s = some (q17 a s) := by
   refine q2c ⟨by have := hq.1; simp at this; omega, ?_⟩
   have h1 := qep (a.map (·.data.toList)) s.data.toList 4096 (fun x hx => by
    obtain ⟨b, hb, rfl⟩ := List.mem_map.1 hx
    have := hq.2 b (by simp [hb])
    simpa using this)
   have hs2 : s.data.toList.length = s.size := by simp
   rw [List.length_map, hs2] at h1
   have h2 : a.length ≤ 100000 := by have := hq.1; simp at this; omega
   have h3 : a.length * (4096 + s.size) ≤ 100000 * 8192 := Nat.mul_le_mul h2 (by omega)
   omega
  simp only [gQ1u, decide_eq_false (show ¬ (l.length : Int) < l.length by omega), cond_false, hj, Option.bind_some, q30, List.map_nil, List.append_nil]
 ·left
  have h1 := hq.1
  rw [List.length_cons] at h1
  refine ⟨a ++ [x.str], ⟨by rw [List.length_append, List.length_singleton]; omega, fun y hy => hq.2 y (by simpa [q30] using hy)⟩, ?_, by simp [q30]⟩
  simp only [gQ1u, decide_eq_true (show (i : Int) < l.length by omega), cond_true, qe, hx, Option.bind_some, q2r a x.str (m := 16) (n := 100001) (by decide) (by omega) (by decide), qq hi (show l.length ≤ 9223372036854775807 by omega)]
def q87 (s a b : ByteArray) : ByteArray := ⟨(Lib.replaceAll s.data.toList a.data.toList b.data.toList).toArray⟩
noncomputable def q56 (s a b : ByteArray) : Val × Int := if a = eS then (vZ, 1) else if 4096 < (q87 s a b).size then (vZ, 3) else (vText (q87 s a b), 0)
theorem qfz {s : ByteArray} (h : s.size = 0) : s = eS := by
 obtain ⟨⟨l⟩⟩ := s
 have : l.length = 0 := h
 rw [List.length_eq_zero_iff.1 this]
theorem qwq (s a b : ByteArray) (hs : s.size ≤ 4096) (hb : b.size ≤ 4096) (hc : a ≠ eS → Lib.countB s a ≤ 4097) : gQ2m s a b = some (q56 s a b) := by
 unfold gQ2m q56
 by_cases h : a = eS
 ·rw [decide_eq_true h, if_pos h]; rfl
 rw [decide_eq_false h, if_neg h, cond_false]
 have ha : 1 ≤ a.size := by
  rcases Nat.eq_zero_or_pos a.size with h0 | h0
  ·exact absurd (qfz h0) h
  ·exact h0
 have hm : qf1 s a b = some (q87 s a b) := by
  refine q2c ⟨by omega, ha, ?_⟩
  have := Nat.mul_le_mul (hc h) hb
  omega
 rw [hm, Option.bind_some]
 by_cases h2 : 4096 < (q87 s a b).size
 ·rw [decide_eq_true (show ((q87 s a b).size : Int) > 4096 by omega), if_pos h2]; rfl
 ·rw [decide_eq_false (show ¬ ((q87 s a b).size : Int) > 4096 by omega), if_neg h2]; rfl
def q6s (s sep : ByteArray) : List ByteArray := Lib.splitB sep 0 (Lib.countB s sep) s
noncomputable def q3z (s t : ByteArray) : Val × Int := if s = eS then (vZ, 1) else (lV ((q6s t s).map vText), 0)
theorem qxi (s t : ByteArray) (ht : t.size ≤ 4096) (hl : s ≠ eS → (q6s t s).length ≤ 100000) : gQ2v s t = some (q3z s t) := by
 unfold gQ2v q3z
 by_cases h : s = eS
 ·rw [decide_eq_true h, if_pos h]; rfl
 rw [decide_eq_false h, if_neg h, cond_false]
 have hs : 1 ≤ s.size := by
  rcases Nat.eq_zero_or_pos s.size with h0 | h0
  ·exact absurd (qfz h0) h
  ·exact h0
 have hm : qf3 t s = some (q6s t s) := q2c ⟨by omega, hs⟩
 have hll := hl h
 rw [hm, Option.bind_some]
 generalize q6s t s = l at hll
 have := q1j (body := gQ2w l) l (fun i (a : List Val) => ((i : Int), a)) (fun a r => (lV (a ++ r.map vText), (0 : Int))) (fun a r => a.length + r.length ≤ 100000) (s0 := (0, [])) (a := []) rfl (by simpa using hll) (fun a hq => ?_) (fun i x r a hi hx _ hq => ?_)
 ·exact this
 ·simp only [gQ2w, decide_eq_false (show ¬ (l.length : Int) < l.length by omega), cond_false, List.map_nil, List.append_nil]; rfl
 ·left
  rw [List.length_cons] at hq
  refine ⟨a ++ [vText x], by rw [List.length_append, List.length_singleton]; omega, ?_, by simp⟩
  simp only [gQ2w, gQ6b, decide_eq_true (show (i : Int) < l.length by omega), cond_true, qe, hx, Option.bind_some, q2r a _ (m := 80) (n := 100001) (by decide) (by omega) (by decide), qq hi (show l.length ≤ 9223372036854775807 by omega)]
def q7a (lo hi d : Int) (s : ByteArray) : ByteArray := ⟨(q5y lo hi d s).toArray⟩
def qa2 (s : ByteArray) : ByteArray := ⟨(Lib.trimS s.data.toList [32, 9, 10, 13]).toArray⟩
theorem qxy (s : ByteArray) (hs : s.size ≤ 4096) : qbz s ⟨#[32, 9, 10, 13]⟩ = some (qa2 s) := q2c ⟨by omega, by decide, by decide⟩
end Abs
end Go.Proofs.YtagadjpmkggjdaaGreatDoor
namespace Go.Proofs.YtagadjpmkggjdaaGreatDoor
set_option linter.unusedSimpArgs false
set_option linter.unusedVariables false
namespace Abs
open Go.RowKit
theorem qdh {a b : ByteArray} (h : a.toList = b.toList) : a = b := by
 rw [ByteArray.toList_eq, ByteArray.toList_eq] at h
 obtain ⟨⟨x⟩⟩ := a
 obtain ⟨⟨y⟩⟩ := b
 simp at h
 subst h; rfl
theorem qes (a b : List UInt8) : Op.bytesLess a b = true ∨ a = b ∨ Op.bytesLess b a = true := by
 cases h : Op.bytesLess a b with
 | true => exact .inl rfl
 | false =>
  cases k : Op.bytesLess b a with
  | true => exact .inr (.inr rfl)
  | false => exact .inr (.inl (qal h k))
theorem qtc {a b : List UInt8} (h : Op.bytesLess a b = true) : Op.bytesLess b a = false := by
 cases k : Op.bytesLess b a with
 | false => rfl
 | true => have := q7y h k; rw [q7x] at this; cases this
section
variable {α : Type}
def SP (l : List (ByteArray × α)) : Prop := l.Pairwise fun p q => Op.bytesLess p.1.toList q.1.toList = true
theorem qg4 : ∀ {l m : List (ByteArray × α)}, SP l → SP m → (∀ p, p ∈ l ↔ p ∈ m) → l = m
 | [], [], _, _, _ => rfl
 | [], q :: m, _, _, h => absurd ((h q).2 List.mem_cons_self) List.not_mem_nil
 | p :: l, [], _, _, h => absurd ((h p).1 List.mem_cons_self) List.not_mem_nil
 | p :: l, q :: m, hl, hm, h => by
  obtain ⟨l1, l2⟩ := List.pairwise_cons.1 hl
  obtain ⟨m1, m2⟩ := List.pairwise_cons.1 hm
  have e : p = q := by
   rcases List.mem_cons.1 ((h p).1 List.mem_cons_self) with e | e
   ·exact e
   rcases List.mem_cons.1 ((h q).2 List.mem_cons_self) with k | k
   ·exact k.symm
   ·have := qtc (m1 p e); rw [l1 q k] at this; cases this
  subst e
  have np : ∀ {l : List (ByteArray × α)}, (∀ q ∈ l, Op.bytesLess p.1.toList q.1.toList = true) → p ∉ l := fun h k => by
   have := h p k; rw [q7x] at this; cases this
  rw [qg4 l2 m2 fun x => ⟨fun hx => ?_, fun hx => ?_⟩]
  ·rcases List.mem_cons.1 ((h x).1 (List.mem_cons_of_mem _ hx)) with rfl | k
   ·exact absurd hx (np l1)
   ·exact k
  ·rcases List.mem_cons.1 ((h x).2 (List.mem_cons_of_mem _ hx)) with rfl | k
   ·exact absurd hx (np m1)
   ·exact k
def insP (p : ByteArray × α) : List (ByteArray × α) → List (ByteArray × α)
 | [] => [p]
 | q :: r => if Op.bytesLess q.1.toList p.1.toList = true then q :: insP p r else p :: q :: r
theorem qc2 {p x : ByteArray × α} : ∀ {l : List (ByteArray × α)}, x ∈ insP p l ↔ x = p ∨ x ∈ l
 | [] => by simp [insP]
 | q :: r => by
  unfold insP
  split
  ·rw [List.mem_cons, qc2 (l := r), List.mem_cons]
   exact ⟨fun h => h.elim (fun h => .inr (.inl h)) fun h => h.elim .inl fun h => .inr (.inr h), fun h => h.elim (fun h => .inr (.inl h)) fun h => h.elim .inl fun h => .inr (.inr h)⟩
  ·rw [List.mem_cons]
theorem qmn {p : ByteArray × α} : ∀ {l : List (ByteArray × α)}, SP l → (∀ q ∈ l, q.1 ≠ p.1) → SP (insP p l)
 | [], _, _ => List.pairwise_singleton _ _
 | q :: r, h, hn => by
  obtain ⟨h1, h2⟩ := List.pairwise_cons.1 h
  unfold insP
  split
  ·rename_i hc
   refine List.pairwise_cons.2 ⟨fun x hx => ?_, qmn h2 fun q hq => hn q (List.mem_cons_of_mem _ hq)⟩
   rcases qc2.1 hx with rfl | k
   ·exact hc
   ·exact h1 x k
  ·rename_i hc
   have hpq : Op.bytesLess p.1.toList q.1.toList = true := by
    rcases qes q.1.toList p.1.toList with k | k | k
    ·exact absurd k hc
    ·exact absurd (qdh k) (hn q List.mem_cons_self)
    ·exact k
   refine List.pairwise_cons.2 ⟨fun x hx => ?_, h⟩
   rcases List.mem_cons.1 hx with rfl | k
   ·exact hpq
   ·exact q7y hpq (h1 x k)
theorem qjq {p : ByteArray × α} : ∀ {l : List (ByteArray × α)}, (insP p l).length = l.length + 1
 | [] => rfl
 | q :: r => by unfold insP; split <;> simp [qjq (l := r)]
end
def iota (n : Nat) : List Int := (List.range n).map fun (i : Nat) => (i : Int)
theorem qbh (n : Nat) : (iota n).length = n := by simp [iota]
theorem qvl (keys : List ByteArray) (hl : keys.length ≤ 140737488351232) :
  ∃ o, q66 keys (iota keys.length) = some o ∧ o.Perm (iota keys.length) ∧ ∀ (i j : Nat) (x y : Int) (a b : ByteArray), i < j → o[i]? = some x → o[j]? = some y → keys[x.toNat]? = some a → keys[y.toNat]? = some b → Op.bytesLess b.toList a.toList = false := by
 have hr : ∀ x ∈ iota keys.length, 0 ≤ x ∧ x < keys.length := fun x hx => by
  simp only [iota, List.mem_map, List.mem_range] at hx
  obtain ⟨i, hi, rfl⟩ := hx
  omega
 unfold q66
 by_cases h0 : iota keys.length = []
 ·rw [if_pos h0]
  exact ⟨[], rfl, by rw [h0], fun i j x y a b _ e => by simp at e⟩
 ·rw [if_neg h0]
  have hpos : 0 < keys.length := Nat.pos_of_ne_zero fun e => h0 (by rw [e]; rfl)
  have hc : 0 < keys.length ∧ (iota keys.length).length < 4611686018427387904 ∧ ∀ x ∈ iota keys.length, 0 ≤ x ∧ x < keys.length := ⟨hpos, by rw [qbh]; omega, hr⟩
  rw [dif_pos hc]
  letI : Inhabited (Plc keys) := ⟨⟨0, hpos⟩⟩
  obtain ⟨q1, q2⟩ := q3c (swoP keys) (plcs keys (iota keys.length) hc.2.2)
  refine ⟨_, rfl, ?_, fun i j x y a b hij e1 e2 k1 k2 => ?_⟩
  ·have := q1.map (fun a : Plc keys => (a.1 : Int))
   rwa [qln] at this
  ·simp only [List.getElem?_map, Option.map_eq_some_iff] at e1 e2
   obtain ⟨p, e1, rfl⟩ := e1
   obtain ⟨q, e2, rfl⟩ := e2
   obtain ⟨hi, e1⟩ := List.getElem?_eq_some_iff.1 e1
   obtain ⟨hj, e2⟩ := List.getElem?_eq_some_iff.1 e2
   have h := List.pairwise_iff_getElem.1 q2 i j hi hj hij
   rw [e1, e2] at h
   have h' : ltOf cmpS (keys[q.1]'q.2) (keys[p.1]'p.2) = false := h
   rw [ltS] at h'
   rw [Int.toNat_natCast, List.getElem?_eq_getElem p.2] at k1
   rw [Int.toNat_natCast, List.getElem?_eq_getElem q.2] at k2
   obtain rfl := Option.some.inj k1
   obtain rfl := Option.some.inj k2
   exact h'
theorem qtv (keys : List ByteArray) (items : List Val) (hk : keys.length = items.length) (hl : keys.length * 8 ≤ 140737488351232) {o : List Int} (ho : q66 keys (iota keys.length) = some o) (r : Val × Int)
  (h : q8 (gQ60 keys items o) (0, [], []) = some (.inr r)) : gQ5y keys items = some r := by
 unfold gQ5y
 have hm : mkl 8 (keys.length : Int) (0 : Int) = some (List.replicate keys.length 0) := by
  unfold mkl
  rw [if_pos (by omega)]
  simp
 rw [decide_eq_true (show (keys.length : Int) = items.length by omega), Bool.not_true, cond_false, hm, Option.bind_some]
 have := q2p (body := gQ5z keys items (List.replicate keys.length 0)) (fun s => ∃ i : Nat, i ≤ keys.length ∧ s.1 = (i : Int) ∧ s.2.length = keys.length ∧ ∀ j : Nat, j < i → s.2[j]? = some (j : Int)) (fun s => keys.length - s.1.toNat) (fun q => q = r) ?_ (0, List.replicate keys.length 0) ⟨0, Nat.zero_le _, rfl, by simp, fun j hj => by omega⟩
 ·obtain ⟨q, h', e⟩ := this
  rw [e] at h'; exact h'
 rintro ⟨s, l⟩ ⟨i, hi, rfl, hlen, hv⟩
 simp only at hlen hv ⊢
 unfold gQ5z
 simp only [List.length_replicate]
 by_cases hlt : i < keys.length
 ·left
  refine ⟨(((i + 1 : Nat) : Int), upd l (i : Int) (i : Int)), ?_, ⟨i + 1, hlt, rfl, by simp only [qa3]; exact hlen, fun j hj => ?_⟩, by simp only [Int.toNat_natCast]; omega⟩
  ·rw [decide_eq_true (show (i : Int) < (keys.length : Int) by omega), cond_true, qe, List.getElem?_eq_getElem (show i < l.length by omega), Option.bind_some, qq hlt (by omega)]
  ·unfold upd
   simp only [Int.toNat_natCast]
   rcases Nat.eq_or_lt_of_le (Nat.le_of_lt_succ hj) with rfl | hj'
   ·rw [List.getElem?_set_self (by omega)]
   ·rw [List.getElem?_set_ne (by omega)]; exact hv j hj'
 ·right
  obtain rfl : i = keys.length := by omega
  have hlo : l = iota keys.length := by
   apply List.ext_getElem?
   intro j
   rcases Nat.lt_or_ge j keys.length with hj | hj
   ·rw [hv j hj]; simp [iota, hj]
   ·rw [List.getElem?_eq_none (by omega), List.getElem?_eq_none (by rw [qbh]; exact hj)]
  refine ⟨r, ?_, rfl⟩
  rw [decide_eq_false (show ¬ (keys.length : Int) < (keys.length : Int) by omega), cond_false, hlo, ho, Option.bind_some, h]
theorem qek {n i : Nat} {x : Int} (h : (iota n)[i]? = some x) : x = (i : Int) ∧ i < n := by
 have hi : i < n := by have := (List.getElem?_eq_some_iff.1 h).1; rwa [qbh] at this
 simp [iota, hi] at h
 exact ⟨h.symm, hi⟩
def mapOf (L : List (ByteArray × Val)) : Val := Val.mk 5 0 eS (L.map (·.2)) (L.map (·.1))
def qv {α : Type} (L : List (ByteArray × α)) (ps : List (ByteArray × α)) : List (ByteArray × α) := ps.foldl (fun L p => insP p L) L
theorem q90 {α : Type} : ∀ (ps L : List (ByteArray × α)), SP L → (ps.map (·.1)).Nodup → (∀ p ∈ ps, ∀ q ∈ L, q.1 ≠ p.1) →
  SP (qv L ps) ∧ (∀ p, p ∈ qv L ps ↔ p ∈ L ∨ p ∈ ps) ∧ (qv L ps).length = L.length + ps.length
 | [], L, h, _, _ => ⟨h, fun p => by simp [qv], rfl⟩
 | p :: r, L, h, hn, hd => by
  rw [List.map_cons, List.nodup_cons] at hn
  obtain ⟨a, b, c⟩ := q90 r (insP p L) (qmn h fun q hq => hd p List.mem_cons_self q hq) hn.2 (fun m hm q hq e => by
   rcases qc2.1 hq with rfl | k
   ·exact hn.1 (e ▸ List.mem_map.2 ⟨m, hm, rfl⟩)
   ·exact hd m (List.mem_cons_of_mem _ hm) q k e)
  refine ⟨a, fun q => (b q).trans ?_, by show (qv (insP p L) r).length = _; rw [c, qjq, List.length_cons]; omega⟩
  rw [qc2, List.mem_cons]
  constructor
  ·rintro ((k | k) | k)
   ·exact .inr (.inl k)
   ·exact .inl k
   ·exact .inr (.inr k)
  ·rintro (k | k | k)
   ·exact .inl (.inr k)
   ·exact .inl (.inl k)
   ·exact .inr k
def kvAt (keys : List ByteArray) (items : List Val) (x : Int) : ByteArray × Val := (keys.getD x.toNat eS, items.getD x.toNat vZ)
theorem qks (keys : List ByteArray) (items : List Val) (hk : keys.length = items.length) (hl : keys.length ≤ 100000) (hn : keys.Nodup) (hf : ∀ x ∈ items, x.Fits) :
  gQ5y keys items = some (mapOf (qv [] (keys.zip items)), 0) := by
 obtain ⟨o, o1, o2, o3⟩ := qvl keys (by omega)
 have olen : o.length = keys.length := by rw [o2.length_eq, qbh]
 have orng : ∀ (i : Nat) x, o[i]? = some x → ∃ j : Nat, x = (j : Int) ∧ j < keys.length := fun i x h => by
  obtain ⟨j, hj⟩ := List.getElem?_of_mem (o2.mem_iff.1 (List.mem_of_getElem? h))
  exact ⟨j, qek hj⟩
 have onod : o.Nodup := o2.nodup_iff.2 (by
  rw [List.nodup_iff_pairwise_ne, List.pairwise_iff_getElem]
  intro i j hi hj hij e
  have h1 := (qek (List.getElem?_eq_getElem hi)).1
  have h2 := (qek (List.getElem?_eq_getElem hj)).1
  omega)
 have kat : ∀ j : Nat, (hj : j < keys.length) → kvAt keys items (j : Int) = (keys[j], items[j]'(hk ▸ hj)) := fun j hj => by
  unfold kvAt
  rw [Int.toNat_natCast, List.getD_eq_getElem?_getD, List.getD_eq_getElem?_getD, List.getElem?_eq_getElem hj, List.getElem?_eq_getElem (hk ▸ hj)]; rfl
 have hsp : SP (o.map (kvAt keys items)) := by
  refine List.pairwise_map.2 (List.pairwise_iff_getElem.2 fun i j hi hj hij => ?_)
  obtain ⟨p, e1, hp⟩ := orng i _ (List.getElem?_eq_getElem hi)
  obtain ⟨q, e2, hq⟩ := orng j _ (List.getElem?_eq_getElem hj)
  have := o3 i j _ _ keys[p] keys[q] hij (List.getElem?_eq_getElem hi) (List.getElem?_eq_getElem hj) (by rw [e1, Int.toNat_natCast]; exact List.getElem?_eq_getElem hp) (by rw [e2, Int.toNat_natCast]; exact List.getElem?_eq_getElem hq)
  rw [e1, e2, kat p hp, kat q hq]
  rcases qes keys[p].toList keys[q].toList with k | k | k
  ·exact k
  ·exfalso
   have hpq : p = q := (List.getElem_inj hn).1 (qdh k)
   have := (List.getElem_inj onod).1 (show o[i] = o[j] by rw [e1, e2, hpq])
   omega
  ·rw [this] at k; cases k
 have hz := q90 (keys.zip items) ([] : List (ByteArray × Val)) List.Pairwise.nil (by rw [List.map_fst_zip (by omega)]; exact hn) (fun _ _ q hq => absurd hq List.not_mem_nil)
 have hM : o.map (kvAt keys items) = qv [] (keys.zip items) := qg4 hsp hz.1 fun p => by
  rw [hz.2.1, List.mem_map]
  constructor
  ·rintro ⟨x, hx, rfl⟩
   obtain ⟨i, hi⟩ := List.getElem?_of_mem hx
   obtain ⟨j, rfl, hj⟩ := orng i x hi
   right
   rw [kat j hj]
   exact List.mem_of_getElem? (i := j) (by rw [List.getElem?_zip_eq_some]; exact ⟨List.getElem?_eq_getElem hj, List.getElem?_eq_getElem (hk ▸ hj)⟩)
  ·rintro (h | h)
   ·exact absurd h List.not_mem_nil
   ·obtain ⟨j, hj⟩ := List.getElem?_of_mem h
    obtain ⟨h1, h2⟩ := qgm hj
    have hjk := (List.getElem?_eq_some_iff.1 h1).1
    refine ⟨(j : Int), o2.mem_iff.2 ?_, ?_⟩
    ·exact List.mem_map.2 ⟨j, List.mem_range.2 hjk, rfl⟩
    ·rw [kat j hjk]
     rw [List.getElem?_eq_getElem hjk] at h1
     rw [List.getElem?_eq_getElem (hk ▸ hjk)] at h2
     exact Prod.ext (Option.some.inj h1) (Option.some.inj h2)
 rw [← hM]
 refine qtv keys items hk (by omega) o1 _ ?_
 have := q2p (body := gQ60 keys items o) (fun s => ∃ i : Nat, i ≤ o.length ∧ s = ((i : Int), ((o.map (kvAt keys items)).take i).map (·.2), ((o.map (kvAt keys items)).take i).map (·.1))) (fun s => o.length - s.1.toNat) (fun q => q = .inr (mapOf (o.map (kvAt keys items)), 0)) ?_ (0, [], []) ⟨0, Nat.zero_le _, rfl⟩
 ·obtain ⟨q, h', e⟩ := this
  rw [e] at h'; exact h'
 rintro s ⟨i, hi, rfl⟩
 unfold gQ60
 by_cases hlt : i < o.length
 ·left
  have hx := List.getElem?_eq_getElem hlt
  obtain ⟨p, e1, hp⟩ := orng i _ hx
  have hp2 : p < items.length := hk ▸ hp
  have e0 : idx o (i : Int) = some (p : Int) := by rw [qe, hx, e1]
  have e2 : idx keys (p : Int) = some keys[p] := by rw [qe, List.getElem?_eq_getElem hp]
  have e3 : idx items (p : Int) = some items[p] := by rw [qe, List.getElem?_eq_getElem hp2]
  have e4 : tQ7e items[p] = some items[p] := qdy _ (hf _ (List.getElem_mem hp2))
  have tk : (o.map (kvAt keys items)).take (i + 1) = (o.map (kvAt keys items)).take i ++ [(keys[p], items[p])] := by
   rw [List.take_add_one, List.getElem?_map, hx, e1]
   show _ ++ [kvAt keys items (p : Int)] = _
   rw [kat p hp]
  have n1 : (((o.map (kvAt keys items)).take i).map (·.1)).length = i := by simp; omega
  have n2 : (((o.map (kvAt keys items)).take i).map (·.2)).length = i := by simp; omega
  have a1 := q2r (((o.map (kvAt keys items)).take i).map (·.1)) keys[p] (m := 16) (n := 100001) (by decide) (by omega) (by decide)
  have a2 := q2r (((o.map (kvAt keys items)).take i).map (·.2)) items[p] (m := 80) (n := 100001) (by decide) (by omega) (by decide)
  refine ⟨_, ?_, ⟨i + 1, hlt, rfl⟩, by simp only [Int.toNat_natCast]; omega⟩
  rw [tk]
  simp only [decide_eq_true (show (i : Int) < (o.length : Int) by omega), cond_true, e0, Option.bind_some, e2, e3, e4, a1, a2, qq hlt (show o.length ≤ 9223372036854775807 by omega), List.map_append, List.map_cons, List.map_nil]
  cases i with
  | zero => rw [decide_eq_false (show ¬ (((0 : Nat) : Int) > 0) by omega), cond_false]
  | succ j =>
   have hj : j < o.length := by omega
   have w : IntKind.i64.wrap (((j + 1 : Nat) : Int) - 1) = (j : Int) := by
    rw [show (((j + 1 : Nat) : Int) - 1) = (j : Int) by omega]; exact q28 (by omega) (by omega)
   obtain ⟨q, e5, hq⟩ := orng j _ (List.getElem?_eq_getElem hj)
   have e6 : idx (((o.map (kvAt keys items)).take (j + 1)).map (·.1)) (j : Int) = some keys[q] := by
    rw [qe, List.getElem?_map, List.getElem?_take, if_pos (by omega), List.getElem?_map, List.getElem?_eq_getElem hj, e5]
    show some (kvAt keys items (q : Int)).1 = _
    rw [kat q hq]
   rw [decide_eq_true (show (((j + 1 : Nat) : Int) > 0) by omega), cond_true, w, e6, Option.bind_some]
   rw [decide_eq_false (fun e => ?_), cond_false]
   have hpq : p = q := (List.getElem_inj hn).1 e
   have := (List.getElem_inj onod).1 (show o[j + 1] = o[j] by rw [e1, e5, hpq])
   omega
 ·right
  obtain rfl : i = o.length := by omega
  refine ⟨_, ?_, rfl⟩
  rw [decide_eq_false (show ¬ (o.length : Int) < (o.length : Int) by omega), cond_false]
  rw [show (o.map (kvAt keys items)).take o.length = o.map (kvAt keys items) from List.take_of_length_le (by simp)]; rfl
theorem qjg {ks : List ByteArray} {vs : List Val} (h : ks.length = vs.length) (hn : ks.Nodup) : SP (qv [] (ks.zip vs)) ∧ (∀ p, p ∈ qv [] (ks.zip vs) ↔ p ∈ ks.zip vs) ∧ (qv [] (ks.zip vs)).length = ks.length := by
 obtain ⟨a, b, c⟩ := q90 (ks.zip vs) ([] : List (ByteArray × Val)) List.Pairwise.nil (by rw [List.map_fst_zip (by omega)]; exact hn) (fun _ _ q hq => absurd hq List.not_mem_nil)
 refine ⟨a, fun p => (b p).trans ⟨fun k => k.elim (fun k => absurd k List.not_mem_nil) id, .inr⟩, ?_⟩
 rw [c, List.length_zip]; simp; omega
end Abs
end Go.Proofs.YtagadjpmkggjdaaGreatDoor
namespace Go.Proofs.YtagadjpmkggjdaaGreatDoor
set_option linter.unusedSimpArgs false
set_option linter.unusedVariables false
namespace Abs
open Go.RowKit
theorem q5e {α β : Type} (o : Option (α × β)) : (o.bind fun y => some (y.1, y.2)) = o := by cases o <;> rfl
theorem qqc (l : List Val) (m : Nat) (hm : ∀ v ∈ l, v.items.length ≤ m) (hl : l.length * m ≤ 100000) (hl2 : l.length ≤ 100000) : q8 (gQ21 l) (0, []) = some (lV (l.flatMap Val.items), 0) := by
 have := q1j (body := gQ21 l) l (fun i (a : List Val) => ((i : Int), a)) (fun a r => (lV (a ++ r.flatMap Val.items), (0 : Int))) (fun a r => a.length + r.length * m ≤ 100000 ∧ ∀ v ∈ r, v.items.length ≤ m) (s0 := (0, [])) (a := []) rfl ⟨by simpa using hl, hm⟩ (fun a _ => ?_) (fun i x r a hi hx _ hq => ?_)
 ·exact this
 ·simp only [gQ21, decide_eq_false (show ¬ (l.length : Int) < l.length by omega), cond_false, List.flatMap_nil, List.append_nil]; rfl
 ·left
  obtain ⟨h1, h2⟩ := hq
  rw [List.length_cons, Nat.add_mul] at h1
  have hx2 := h2 x List.mem_cons_self
  refine ⟨a ++ x.items, ⟨by rw [List.length_append]; omega, fun v hv => h2 v (List.mem_cons_of_mem _ hv)⟩, ?_, by simp⟩
  simp only [gQ21, decide_eq_true (show (i : Int) < l.length by omega), cond_true, qe, hx, Option.bind_some, qd9 (xs := a) (ys := x.items) (by_ := 80) (by decide) (by omega), qq hi (show l.length ≤ 9223372036854775807 by omega)]
noncomputable def q2s (l n : Val) : Val × Int :=
 if l.kind = 4 ∧ l.items.length = 0 then (vZ, 16) else if l.kind = 6 ∨ n.kind = 6 then (vU, 0) else (l.items.getD (n.num % (l.items.length : Int)).toNat vZ, 0)
theorem qqw (l n : Val) (hk : l.kind = 4 ∨ l.kind = 6) (hl : l.items.length ≤ 100000) (hn : n.kind ≠ 6 → NumPlain.validB n.num = true) : gQ16 l n = some (q2s l n) := by
 unfold gQ16 q2s
 rcases hk with hk | hk
 ·rw [decide_eq_true hk, cond_true]
  by_cases h0 : l.items.length = 0
  ·rw [decide_eq_true (show (l.items.length : Int) = 0 by omega), cond_true, if_pos ⟨hk, h0⟩]
  rw [decide_eq_false (show ¬ (l.items.length : Int) = 0 by omega), cond_false, if_neg (fun h => h0 h.2), decide_eq_false (show ¬ l.kind = 6 by omega), cond_false]
  by_cases h6 : n.kind = 6
  ·rw [decide_eq_true h6, cond_true, if_pos (.inr h6)]; rfl
  rw [decide_eq_false h6, cond_false, if_neg (by omega), qs8 (hn h6) (by omega) hl, Option.bind_some]
  have e1 := Int.emod_nonneg n.num (show (l.items.length : Int) ≠ 0 by omega)
  have e2 := Int.emod_lt_of_pos n.num (show (0 : Int) < l.items.length by omega)
  have hlt : (n.num % (l.items.length : Int)).toNat < l.items.length := by omega
  have := qe l.items (n.num % (l.items.length : Int)).toNat
  rw [show (((n.num % (l.items.length : Int)).toNat : Nat) : Int) = n.num % (l.items.length : Int) by omega] at this
  show (idx l.items (n.num % (l.items.length : Int))).bind _ = _
  rw [this, List.getD_eq_getElem?_getD, List.getElem?_eq_getElem hlt]; rfl
 ·rw [decide_eq_false (show ¬ l.kind = 4 by omega), cond_false, decide_eq_true hk, cond_true, if_neg (by omega), if_pos (.inl hk)]; rfl
noncomputable def lenS (v : Val) : Val := vNum (if v.kind = 3 then (Lib.runeCount v.str : Int) else v.items.length)
theorem qtb (v : Val) (hs : v.str.size ≤ 4096) : gQ1w v = some (lenS v) := by
 unfold gQ1w lenS
 by_cases h : v.kind = 3
 ·rw [decide_eq_true h, if_pos h, cond_true]
  unfold gQ5e
  rw [show qf2 v.str = some (Lib.runeCount v.str : Int) from q2c (by omega)]; rfl
 ·rw [decide_eq_false h, if_neg h, cond_false]; rfl
theorem qwu (l : List Val) (hl : l.length ≤ 100000) (h0 : 1 ≤ l.length) (x : Val) : gQ24 x l = some l.reverse := by
 unfold gQ24
 rw [q28 (by omega) (by omega)]
 have key : ∀ (n : Nat) (pre mid post : List Val), mid.length ≤ n → pre.length = post.length → pre.length + mid.length + post.length ≤ 100000 → q8 gQ25 ((pre.length : Int), ((pre.length + mid.length : Nat) : Int) - 1, pre ++ mid ++ post) = some (pre ++ mid.reverse ++ post) := by
  intro n
  induction n with
  | zero =>
   intro pre mid post h1 h2 h3
   have : mid = [] := List.length_eq_zero_iff.1 (by omega)
   subst this
   refine q2o ?_
   simp only [gQ25]
   rw [decide_eq_false (by simp only [List.length_nil]; omega), cond_false]; rfl
  | succ n ih =>
   intro pre mid post h1 h2 h3
   cases mid with
   | nil =>
    refine q2o ?_
    simp only [gQ25]
    rw [decide_eq_false (by simp only [List.length_nil]; omega), cond_false]; rfl
   | cons a t =>
    rcases List.eq_nil_or_concat t with rfl | ⟨t, b, rfl⟩
    ·refine q2o ?_
     simp only [gQ25]
     rw [decide_eq_false (by simp only [List.length_singleton]; omega), cond_false]; rfl
    ·rw [List.concat_eq_append] at h1 h3 ⊢
     simp only [List.length_cons, List.length_append, List.length_nil] at h1 h3
     have e0 : pre ++ (a :: (t ++ [b])) ++ post = (pre ++ a :: t) ++ b :: post := by simp
     have i1 : idx (pre ++ (a :: (t ++ [b])) ++ post) (((pre.length + (a :: (t ++ [b])).length : Nat) : Int) - 1) = some b := by
      rw [show ((pre.length + (a :: (t ++ [b])).length : Nat) : Int) - 1 = (((pre ++ a :: t).length : Nat) : Int) by simp; omega, qe, e0]; simp
     have i2 : idx (pre ++ (a :: (t ++ [b])) ++ post) (pre.length : Int) = some a := by rw [qe]; simp
     have u1 : upd (pre ++ (a :: (t ++ [b])) ++ post) (pre.length : Int) b = pre ++ (b :: (t ++ [b])) ++ post := by
      unfold upd; rw [Int.toNat_natCast]; simp
     have u2 : upd (pre ++ (b :: (t ++ [b])) ++ post) (((pre.length + (a :: (t ++ [b])).length : Nat) : Int) - 1) a = (pre ++ [b]) ++ t ++ (a :: post) := by
      unfold upd
      rw [show ((pre.length + (a :: (t ++ [b])).length : Nat) : Int) - 1 = (((pre ++ b :: t).length : Nat) : Int) by simp; omega, Int.toNat_natCast, show pre ++ (b :: (t ++ [b])) ++ post = (pre ++ b :: t) ++ b :: post by simp, List.set_append_right _ _ (Nat.le_refl _)]
      simp
     have i3 : idx (pre ++ (b :: (t ++ [b])) ++ post) (((pre.length + (a :: (t ++ [b])).length : Nat) : Int) - 1) = some b := by
      rw [show ((pre.length + (a :: (t ++ [b])).length : Nat) : Int) - 1 = (((pre ++ b :: t).length : Nat) : Int) by simp; omega, qe, show pre ++ (b :: (t ++ [b])) ++ post = (pre ++ b :: t) ++ b :: post by simp]; simp
     rw [q51 (s' := (((pre ++ [b]).length : Int), (((pre ++ [b]).length + t.length : Nat) : Int) - 1, (pre ++ [b]) ++ t ++ (a :: post))) (by
      simp only [gQ25]
      rw [decide_eq_true (by simp only [List.length_cons, List.length_append, List.length_nil]; omega), cond_true, i1, Option.bind_some, i2, Option.bind_some, Option.bind_some, u1, i3, Option.bind_some, u2]
      rw [q28 (by omega) (by omega), q28 (by simp only [List.length_cons, List.length_append, List.length_nil]; omega) (by simp only [List.length_cons, List.length_append, List.length_nil]; omega)]
      congr 2
      refine Prod.ext ?_ (Prod.ext ?_ rfl)
      ·simp
      ·simp; omega)]
     rw [ih (pre ++ [b]) t (a :: post) (by omega) (by simp; omega) (by simp; omega)]
     simp
 have := key l.length [] l [] (Nat.le_refl _) rfl (by simp; omega)
 simpa using this
noncomputable def q57 (v a b : Val) : Val × Int := if a.num < 0 ∨ b.num < a.num ∨ b.num > (v.items.length : Int) then (vZ, 16) else (lV ((v.items.drop a.num.toNat).take (b.num.toNat - a.num.toNat)), 0)
noncomputable def q9y (v : Val) : Val := lV ((q2f cmpS (v.items.map Val.str)).map strV)
theorem qsp (v : Val) (hl : v.keys.length ≤ 100000) : q8 (gQ2b v) (0, []) = some (lV (v.keys.map vText), 0) := by
 have := q1j (body := gQ2b v) v.keys (fun i (a : List Val) => ((i : Int), a)) (fun a r => (lV (a ++ r.map vText), (0 : Int))) (fun a r => a.length + r.length ≤ 100000) (s0 := (0, [])) (a := []) rfl (by simpa using hl) (fun a _ => ?_) (fun i x r a hi hx _ hq => ?_)
 ·exact this
 ·simp only [gQ2b, decide_eq_false (show ¬ (v.keys.length : Int) < v.keys.length by omega), cond_false, List.map_nil, List.append_nil]; rfl
 ·left
  rw [List.length_cons] at hq
  refine ⟨a ++ [vText x], by rw [List.length_append, List.length_singleton]; omega, ?_, by simp⟩
  simp only [gQ2b, gQ6b, decide_eq_true (show (i : Int) < v.keys.length by omega), cond_true, qe, hx, Option.bind_some, q2r a _ (m := 80) (n := 100001) (by decide) (by omega) (by decide), qq hi (show v.keys.length ≤ 9223372036854775807 by omega)]
noncomputable def q3w (m k : Val) (d : Option Val) : Val × Int :=
 if m.kind = 6 ∨ k.kind = 6 then (vU, 0) else bif hasB m.keys k.str then (look m.keys m.items k.str, 0) else match d with
  | some x => (x, 0)
  | none => (vZ, 16)
theorem qtl (m k : Val) (t : List Val) (ht : t.length ≤ 1) (hm : Vok m) (h5 : m.kind ≠ 6 → m.kind = 5) : gQ28 (m :: k :: t) = some (q3w m k t[0]?) := by
 unfold gQ28 q3w
 have i0 : idx (m :: k :: t) 0 = some m := rfl
 have i1 : idx (m :: k :: t) 1 = some k := rfl
 have i2 : idx (m :: k :: t) 2 = t[0]? := by cases t <;> rfl
 simp only [i0, i1, i2, Option.bind_some]
 by_cases h6 : m.kind = 6
 ·rw [decide_eq_true h6, if_pos (.inl h6)]; rfl
 rw [decide_eq_false h6, cond_false]
 by_cases k6 : k.kind = 6
 ·rw [decide_eq_true k6, if_pos (.inr k6)]; rfl
 rw [decide_eq_false k6, cond_false, if_neg (fun h => h.elim h6 k6)]
 have h := h5 h6
 rw [qs6 m k.str hm.1 h (hm.shape.2.2.2.2.2.2.1 h) hm.rising, Option.bind_some]
 cases hasB m.keys k.str with
 | true => rfl
 | false =>
  rw [cond_false, cond_false]
  cases t with
  | nil => rw [decide_eq_false (show ¬ (([m, k] : List Val).length : Int) = 3 by simp)]; rfl
  | cons x r =>
   have : r = [] := by simpa using ht
   subst this; rfl
noncomputable def zipE : List ByteArray → List Val → Option (List ByteArray)
 | acc, [] => some acc
 | acc, x :: r => if x.kind = 6 then zipE acc r else bif hasB acc x.str then none else zipE (acc ++ [x.str]) r
noncomputable def zipS (k v : Val) : Val × Int :=
 if k.kind = 4 ∧ v.kind = 4 ∧ k.items.length ≠ v.items.length then (vZ, 1) else match zipE [] k.items with
  | none => (vZ, 8)
  | some ks => if q7 k = false ∨ v.kind = 6 then (vU, 0) else (mapOf (qv [] (ks.zip v.items)), 0)
theorem qyn (k v : Val) (hk : k.Fits) (hl : k.items.length ≤ 100000) (hv : ∀ x ∈ v.items, x.Fits) (hkv : q7 k = true → v.kind ≠ 6 → k.items.length = v.items.length) :
  q8 (gQ34 k v) (0, []) = some (match zipE [] k.items with
  | none => (vZ, 8)
  | some ks => if q7 k = false ∨ v.kind = 6 then (vU, 0) else (mapOf (qv [] (ks.zip v.items)), 0)) := by
 refine q1j (body := gQ34 k v) k.items (fun i (a : List ByteArray) => ((i : Int), a)) (fun a r => match zipE a r with
  | none => (vZ, 8)
  | some ks => if q7 k = false ∨ v.kind = 6 then (vU, 0) else (mapOf (qv [] (ks.zip v.items)), 0)) (fun a r => a.length + r.length ≤ k.items.length ∧ a.Nodup ∧ (q7 k = true → a.length + r.length = k.items.length ∧ ∀ x ∈ r, x.kind ≠ 6)) (s0 := (0, [])) (a := []) rfl ⟨by simp, List.nodup_nil, fun h => ⟨by simp, fun x hx => q2e (q39 h x hx)⟩⟩ (fun a hq => ?_) (fun i x r a hi hx _ hq => ?_)
 ·simp only [gQ34, decide_eq_false (show ¬ (k.items.length : Int) < k.items.length by omega), cond_false, q99 k hk, Option.bind_some, zipE]
  obtain ⟨h1, h2, h3⟩ := hq
  cases hn : q7 k with
  | false => rw [if_pos (.inl rfl)]; rfl
  | true =>
   rw [Bool.not_true, cond_false]
   by_cases h6 : v.kind = 6
   ·rw [decide_eq_true h6, if_pos (.inr h6)]; rfl
   rw [decide_eq_false h6, cond_false, if_neg (fun h => h.elim (fun h => absurd h (by decide)) h6)]
   have e := (h3 hn).1
   rw [List.length_nil, Nat.add_zero] at e
   have e2 := hkv hn h6
   rw [qks a v.items (by omega) (by omega) h2 hv]; rfl
 ·obtain ⟨h1, h2, h3⟩ := hq
  rw [List.length_cons] at h1
  simp only [gQ34, decide_eq_true (show (i : Int) < k.items.length by omega), cond_true, qe, hx, Option.bind_some, zipE, qq hi (show k.items.length ≤ 9223372036854775807 by omega), qdw a x.str (by omega), q2r a x.str (m := 16) (n := 100001) (by decide) (by omega) (by decide)]
  by_cases h6 : x.kind = 6
  ·left
   rw [decide_eq_true h6, cond_true, if_pos h6]
   exact ⟨a, ⟨by omega, h2, fun hn => absurd h6 ((h3 hn).2 x List.mem_cons_self)⟩, rfl, rfl⟩
  rw [decide_eq_false h6, cond_false, if_neg h6]
  cases hb : hasB a x.str with
  | true => right; rfl
  | false =>
   left
   rw [cond_false, cond_false]
   refine ⟨a ++ [x.str], ⟨by rw [List.length_append, List.length_singleton]; omega, ?_, fun hn => ⟨by have := (h3 hn).1; rw [List.length_cons] at this; rw [List.length_append, List.length_singleton]; omega, fun y hy => (h3 hn).2 y (List.mem_cons_of_mem _ hy)⟩⟩, rfl, rfl⟩
   rw [List.nodup_append]
   refine ⟨h2, by simp, fun y hy z hz e => ?_⟩
   have : z = x.str := by simpa using hz
   subst this; subst e
   rw [q4k.2 hy] at hb; cases hb
theorem qyq (k v : Val) (hk : Vok k) (hv : Vok v) (k4 : k.kind = 4 ∨ k.kind = 6) (v4 : v.kind = 4 ∨ v.kind = 6) (hl : k.items.length ≤ 100000) : gQ33 k v = some (zipS k v) := by
 have h1 : ∀ s, gQ35 k v s = gQ34 k v s := fun _ => rfl
 have h2 : ∀ s, gQ36 k v s = gQ34 k v s := fun _ => rfl
 have hvi := hv.1.parts.2.2.2.2.2.2
 unfold gQ33 zipS
 rw [show gQ35 k v = gQ34 k v from funext h1, show gQ36 k v = gQ34 k v from funext h2]
 by_cases hd : k.kind = 4 ∧ v.kind = 4 ∧ k.items.length ≠ v.items.length
 ·rw [if_pos hd, decide_eq_true hd.1, decide_eq_true hd.2.1, decide_eq_false (show ¬ (k.items.length : Int) = v.items.length by have := hd.2.2; omega)]; rfl
 rw [if_neg hd]
 have hz := qyn k v hk.1 hl hvi (fun hn h6 => by
  have := q2e hn
  by_cases e : k.items.length = v.items.length
  ·exact e
  ·exact absurd ⟨by omega, by omega, e⟩ hd)
 by_cases hk4 : k.kind = 4
 ·rw [decide_eq_true hk4, cond_true]
  by_cases hv4 : v.kind = 4
  ·rw [decide_eq_true hv4, cond_true, decide_eq_true (show (k.items.length : Int) = v.items.length by
    by_cases e : k.items.length = v.items.length
    ·omega
    ·exact absurd ⟨hk4, hv4, e⟩ hd), Bool.not_true, cond_false, hz]
  ·rw [decide_eq_false hv4, cond_false, hz]
 ·rw [decide_eq_false hk4, cond_false, hz]
def putAll (m ps : List (ByteArray × Val)) : List (ByteArray × Val) := ps.foldl (fun m p => mput m p.1 p.2) m
def q4o (m : List (ByteArray × Val)) (l : List Val) : List (ByteArray × Val) := l.foldl (fun m v => putAll m (v.keys.zip v.items)) m
theorem qkx {m : List (ByteArray × Val)} {k : ByteArray} : mhas m k = true ↔ k ∈ m.map (·.1) := by
 induction m with
 | nil => simp [mhas, mget]
 | cons p r ih =>
  unfold mhas at ih ⊢
  obtain ⟨a, b⟩ := p
  rw [mget]
  by_cases h : k = a
  ·rw [if_pos h]; simp [h]
  ·rw [if_neg h, ih]; simp [h]
theorem qfb {m : List (ByteArray × Val)} {k : ByteArray} {v : Val} : (mput m k v).map (·.1) = if mhas m k = true then m.map (·.1) else m.map (·.1) ++ [k] := by
 induction m with
 | nil => simp [mhas, mget, mput]
 | cons p r ih =>
  obtain ⟨a, b⟩ := p
  rw [mput]
  by_cases h : k = a
  ·rw [if_pos h, if_pos (by simp [mhas, mget, h])]; rfl
  ·rw [if_neg h]
   have : mhas ((a, b) :: r) k = mhas r k := by simp [mhas, mget, h]
   rw [this, List.map_cons, ih]
   split <;> rfl
theorem qfc {m : List (ByteArray × Val)} {k : ByteArray} {v : Val} : ∀ p ∈ mput m k v, p = (k, v) ∨ p ∈ m := by
 induction m with
 | nil => intro p h; simp [mput] at h; exact .inl h
 | cons q r ih =>
  obtain ⟨a, b⟩ := q
  intro p h
  rw [mput] at h
  by_cases e : k = a
  ·rw [if_pos e] at h
   rcases List.mem_cons.1 h with rfl | h
   ·exact .inl (by rw [e])
   ·exact .inr (List.mem_cons_of_mem _ h)
  ·rw [if_neg e] at h
   rcases List.mem_cons.1 h with rfl | h
   ·exact .inr List.mem_cons_self
   ·exact (ih p h).imp id (List.mem_cons_of_mem _)
structure MapG (n : Nat) (m : List (ByteArray × Val)) : Prop where
 len : m.length ≤ n
 nd : (m.map (·.1)).Nodup
 fits : ∀ p ∈ m, p.2.Fits
theorem MapG.put {n : Nat} {m : List (ByteArray × Val)} (h : MapG n m) {k : ByteArray} {v : Val} (hv : v.Fits) : MapG (n + 1) (mput m k v) := by
 have hk := qfb (m := m) (k := k) (v := v)
 refine ⟨?_, ?_, fun p hp => ?_⟩
 ·have e : (mput m k v).length = ((mput m k v).map (·.1)).length := by simp
  have := h.len
  rw [e, hk]; split <;> simp <;> omega
 ·rw [hk]
  split
  ·exact h.nd
  ·rename_i hn
   rw [List.nodup_append]
   refine ⟨h.nd, by simp, fun y hy z hz e => hn (qkx.2 ?_)⟩
   have : z = k := by simpa using hz
   subst this; subst e; exact hy
 ·rcases qfc p hp with rfl | hp
  ·exact hv
  ·exact h.fits p hp
theorem qlw (x : Val) (s : Int × List (ByteArray × Val) × List ByteArray) (hk : x.keys.length = x.items.length) (hl : x.keys.length ≤ 100000) (hf : ∀ y ∈ x.items, y.Fits) (m : List (ByteArray × Val)) {n : Nat} (hm : MapG n m) (hn : n + x.keys.length ≤ 100000) :
  q8 (gQ2d x s) (0, m, m.map (·.1)) = some (.inl (IntKind.i64.wrap (s.1 + 1), putAll m (x.keys.zip x.items), (putAll m (x.keys.zip x.items)).map (·.1))) ∧ MapG (n + x.keys.length) (putAll m (x.keys.zip x.items)) := by
 have zl : (x.keys.zip x.items).length = x.keys.length := by rw [List.length_zip]; omega
 constructor
 ·refine q1j (body := gQ2d x s) (x.keys.zip x.items) (fun i (a : List (ByteArray × Val)) => ((i : Int), a, a.map (·.1))) (fun a r => .inl (IntKind.i64.wrap (s.1 + 1), putAll a r, (putAll a r).map (·.1))) (fun a r => MapG (100000 - r.length) a ∧ r.length ≤ 100000 ∧ ∀ p ∈ r, p.2.Fits) rfl ⟨⟨by have := hm.len; rw [zl]; omega, hm.nd, hm.fits⟩, by omega, fun p hp => hf p.2 (List.of_mem_zip hp).2⟩ (fun a hq => ?_) (fun i p r a hi hx _ hq => ?_)
  ·simp only [gQ2d, zl, decide_eq_false (show ¬ (x.keys.length : Int) < x.keys.length by omega), cond_false]; rfl
  ·left
   obtain ⟨g, h1, h2⟩ := hq
   rw [List.length_cons] at g h1
   obtain ⟨e1, e2⟩ := qgm hx
   rw [zl] at hi
   have hp : p.2.Fits := h2 p List.mem_cons_self
   have g2 := g.put (k := p.1) hp
   refine ⟨mput a p.1 p.2, ⟨⟨by have := g2.len; omega, g2.nd, g2.fits⟩, by omega, fun q hq => h2 q (List.mem_cons_of_mem _ hq)⟩, ?_, rfl⟩
   have ha := q2r (a.map (·.1)) p.1 (m := 16) (n := 100001) (by decide) (by have := g.len; simp; omega) (by decide)
   simp only [gQ2d, decide_eq_true (show (i : Int) < x.keys.length by omega), cond_true, qe, e1, e2, Option.bind_some, qq hi (show x.keys.length ≤ 9223372036854775807 by omega), ha, qfb]
   cases mhas a p.1 <;> rfl
 ·have : ∀ (ps : List (ByteArray × Val)) (m : List (ByteArray × Val)) (n : Nat), MapG n m → (∀ p ∈ ps, p.2.Fits) → MapG (n + ps.length) (putAll m ps) := by
   intro ps
   induction ps with
   | nil => intro m n h _; exact h
   | cons p r ih =>
    intro m n h hp
    have := ih (mput m p.1 p.2) (n + 1) (h.put (hp p List.mem_cons_self)) (fun q hq => hp q (List.mem_cons_of_mem _ hq))
    rw [List.length_cons, show n + (r.length + 1) = n + 1 + r.length by omega]
    exact this
  have := this (x.keys.zip x.items) m n hm (fun p hp => hf p.2 (List.of_mem_zip hp).2)
  rw [zl] at this; exact this
theorem qu0 {m : List (ByteArray × Val)} (hn : (m.map (·.1)).Nodup) {p : ByteArray × Val} (hp : p ∈ m) (z : Val) : q3b m p.1 z = p.2 := by
 unfold q3b
 induction m with
 | nil => exact absurd hp List.not_mem_nil
 | cons q r ih =>
  obtain ⟨a, b⟩ := q
  rw [List.map_cons, List.nodup_cons] at hn
  rw [mget]
  rcases List.mem_cons.1 hp with rfl | hp
  ·rw [if_pos rfl]; rfl
  ·rw [if_neg (fun e => hn.1 (by rw [← e]; exact List.mem_map.2 ⟨p, hp, rfl⟩)), ih hn.2 hp]
theorem qyp {α β : Type} (m : List (α × β)) : (m.map (·.1)).zip (m.map (·.2)) = m := by
 induction m with
 | nil => rfl
 | cons p r ih => rw [List.map_cons, List.map_cons, List.zip_cons_cons, ih]
theorem qvm (i : Int) (m : List (ByteArray × Val)) (hm : MapG 100000 m) : q8 (gQ2e (i, m, m.map (·.1))) (0, []) = some (.inr (mapOf (qv [] m), 0)) := by
 have := q1j (body := gQ2e (i, m, m.map (·.1))) m (fun j (a : List Val) => ((j : Int), a)) (fun a r => (.inr (mapOf (qv [] m), 0) : (Int × List (ByteArray × Val) × List ByteArray) ⊕ (Val × Int))) (fun a r => a ++ r.map (·.2) = m.map (·.2) ∧ ∀ p ∈ r, p ∈ m) (s0 := (0, [])) (a := []) rfl ⟨rfl, fun _ h => h⟩ (fun a hq => ?_) (fun j p r a hi hx _ hq => ?_)
 ·exact this
 ·obtain ⟨h1, _⟩ := hq
  rw [List.map_nil, List.append_nil] at h1
  subst h1
  simp only [gQ2e, List.length_map, decide_eq_false (show ¬ (m.length : Int) < m.length by omega), cond_false]
  rw [qks (m.map (·.1)) (m.map (·.2)) (by simp) (by have := hm.len; simpa using this) hm.nd (fun x hx => by
   obtain ⟨p, hp, rfl⟩ := List.mem_map.1 hx
   exact hm.fits p hp), qyp]; rfl
 ·left
  obtain ⟨h1, h2⟩ := hq
  have hp := h2 p List.mem_cons_self
  have hlen : a.length < 100001 := by
   have := congrArg List.length h1
   simp at this
   have := hm.len; omega
  refine ⟨a ++ [p.2], ⟨by rw [← h1]; simp, fun q hq => h2 q (List.mem_cons_of_mem _ hq)⟩, ?_, rfl⟩
  have e : (m.map (·.1))[j]? = some p.1 := by rw [List.getElem?_map, hx]; rfl
  simp only [gQ2e, List.length_map, decide_eq_true (show (j : Int) < m.length by omega), cond_true, qe, e, Option.bind_some, qu0 hm.nd hp, q2r a p.2 (m := 80) (n := 100001) (by decide) hlen (by decide), qq hi (show m.length ≤ 9223372036854775807 by have := hm.len; omega)]
theorem qtz (l : List Val) (m : Nat) (hl : l.length * m ≤ 100000) (hl2 : l.length ≤ 100000) (h : ∀ v ∈ l, v.keys.length = v.items.length ∧ v.keys.length ≤ m ∧ ∀ y ∈ v.items, y.Fits) : q8 (gQ2c l) (0, [], []) = some (mapOf (qv [] (q4o [] l)), 0) ∧ MapG (l.length * m) (q4o [] l) := by
 have hG : ∀ (r : List Val) (a : List (ByteArray × Val)) (n : Nat), MapG n a → n + r.length * m ≤ 100000 → (∀ v ∈ r, v.keys.length = v.items.length ∧ v.keys.length ≤ m ∧ ∀ y ∈ v.items, y.Fits) → MapG (n + r.length * m) (q4o a r) := by
  intro r
  induction r with
  | nil => intro a n h _ _; simpa [q4o] using h
  | cons x r ih =>
   intro a n hg hn hv
   rw [List.length_cons, Nat.add_mul] at hn ⊢
   obtain ⟨v1, v2, v3⟩ := hv x List.mem_cons_self
   have g1 := (qlw x (0, [], []) v1 (by omega) v3 a hg (by omega)).2
   have := ih (putAll a (x.keys.zip x.items)) (n + m) ⟨by have := g1.len; omega, g1.nd, g1.fits⟩ (by omega) (fun v hv2 => hv v (List.mem_cons_of_mem _ hv2))
   rw [show n + (r.length * m + 1 * m) = n + m + r.length * m by omega]
   exact this
 have h0 : MapG 0 ([] : List (ByteArray × Val)) := ⟨Nat.le_refl _, List.nodup_nil, fun _ h => absurd h List.not_mem_nil⟩
 have hg := hG l [] 0 h0 (by omega) h
 refine ⟨?_, by simpa using hg⟩
 refine q1j (body := gQ2c l) l (fun i (a : List (ByteArray × Val)) => ((i : Int), a, a.map (·.1))) (fun a r => (mapOf (qv [] (q4o a r)), (0 : Int))) (fun a r => MapG (100000 - r.length * m) a ∧ r.length * m ≤ 100000 ∧ ∀ v ∈ r, v.keys.length = v.items.length ∧ v.keys.length ≤ m ∧ ∀ y ∈ v.items, y.Fits) rfl ⟨⟨by simp, h0.nd, h0.fits⟩, hl, h⟩ (fun a hq => ?_) (fun i x r a hi hx _ hq => ?_)
 ·simp only [gQ2c, decide_eq_false (show ¬ (l.length : Int) < l.length by omega), cond_false]
  exact qvm _ a ⟨by have := hq.1.len; simpa using this, hq.1.nd, hq.1.fits⟩
 ·left
  obtain ⟨g, g1, g2⟩ := hq
  rw [List.length_cons, Nat.add_mul] at g g1
  obtain ⟨v1, v2, v3⟩ := g2 x List.mem_cons_self
  obtain ⟨p1, p2⟩ := qlw x ((i : Int), a, a.map (·.1)) v1 (by omega) v3 a g (by omega)
  refine ⟨putAll a (x.keys.zip x.items), ⟨⟨by have := p2.len; omega, p2.nd, p2.fits⟩, by omega, fun v hv => g2 v (List.mem_cons_of_mem _ hv)⟩, ?_, rfl⟩
  simp only [gQ2c, decide_eq_true (show (i : Int) < l.length by omega), cond_true, qe, hx, Option.bind_some]
  rw [p1]
  simp only [qq hi (show l.length ≤ 9223372036854775807 by omega)]
def q3f : List Val → Val
 | [] => vZ
 | x :: r => if x.kind = 0 then q3f r else x
theorem qq9 (l : List Val) (hl : l.length ≤ 100000) : q8 (gQ1o l) 0 = some (q3f l, 0) := by
 refine q1j (body := gQ1o l) l (fun i (_ : Unit) => (i : Int)) (fun _ r => (q3f r, (0 : Int))) (fun _ _ => True) (a := ()) rfl trivial (fun _ _ => ?_) (fun i x r _ hi hx _ _ => ?_)
 ·simp only [gQ1o, decide_eq_false (show ¬ (l.length : Int) < l.length by omega), cond_false]; rfl
 ·simp only [gQ1o, decide_eq_true (show (i : Int) < l.length by omega), cond_true, qe, hx, Option.bind_some, q3f, qq hi (show l.length ≤ 9223372036854775807 by omega)]
  by_cases h : x.kind = 0
  ·left; rw [decide_eq_true h, if_pos h]; exact ⟨(), trivial, rfl, rfl⟩
  ·right; rw [decide_eq_false h, if_neg h]; rfl
end Abs
end Go.Proofs.YtagadjpmkggjdaaGreatDoor
namespace Go.Proofs.YtagadjpmkggjdaaGreatDoor
set_option linter.unusedSimpArgs false
set_option linter.unusedVariables false
namespace Abs
open Go.RowKit
noncomputable def tocS (k : Int) (v : Val) : Val × Int := if v.kind = 0 then (v, 0) else cvS k v
theorem toc_eq {k : Int} (hk : k = 1 ∨ k = 2 ∨ k = 3) {v : Val} (h : Ck v) : toE v (Ty.mk k [] []) = tocS k v := by
 unfold tocS
 by_cases h0 : v.kind = 0
 ·rw [if_pos h0]
  have e : toS (Ty.mk k [] []) v = (v, 0) := by rw [q6b, if_pos (.inr (.inl h0))]
  rw [qgc (by rw [e]) (by rw [e]; exact h.ck), e]
 ·rw [if_neg h0, toE_sc hk h h0]
theorem qxw {k : Int} (hk : k = 1 ∨ k = 2 ∨ k = 3) {v : Val} (h : Ck v) : gQ04 v (Ty.mk k [] []) = some (tocS k v) := by
 rw [qnp v _ (qxx (by omega)) h.ok, toc_eq hk h]
noncomputable def a0 (l : List Val) : Val := l.getD 0 vZ
noncomputable def a1 (l : List Val) : Val := l.getD 1 vZ
noncomputable def a2 (l : List Val) : Val := l.getD 2 vZ
noncomputable def apS (k : Nm) (l : List Val) : Val × Int :=
 match k with
 | .nAbs => (vNum (a0 l).num.natAbs, 0)
 | .nMax => (extS 1 (a0 l) (l.drop 1), 0)
 | .nMin => (extS (-1) (a0 l) (l.drop 1), 0)
 | .nRange => if l.length = 1 then q4c 0 (a0 l).num else q4c (a0 l).num (a1 l).num
 | .nSum => sumS 0 (a0 l).items
 | .nEndswith => (bV (qe2 (a0 l).str (a1 l).str), 0)
 | .nStartswith => (bV (begB (a0 l).str (a1 l).str), 0)
 | .nJoin => (vText (q17 (q30 (a1 l).items) (a0 l).str), 0)
 | .nLower => (vText (q7a 65 90 32 (a0 l).str), 0)
 | .nUpper => (vText (q7a 97 122 (-32) (a0 l).str), 0)
 | .nReplace => q56 (a0 l).str (a1 l).str (a2 l).str
 | .nSplit => q3z (a0 l).str (a1 l).str
 | .nTrim => (vText (qa2 (a0 l).str), 0)
 | .nContains => if (a0 l).kind = 6 then (vU, 0) else (q3g (a0 l).items (a1 l), 0)
 | .nDistinct => if (a0 l).kind = 6 then (vU, 0) else (q29 [] [] (a0 l).items, 0)
 | .nFlatten => if (a0 l).kind = 6 then (vU, 0) else match q1c (a0 l).items with
  | some z => (lV z, 0)
  | none => (vU, 0)
 | .nIndex => if (a0 l).kind = 6 then (vU, 0) else q24 (a1 l) 0 (a0 l).items
 | .nKeys => (lV ((a0 l).keys.map vText), 0)
 | .nValues => (lV (a0 l).items, 0)
 | .nLookup => q3w (a0 l) (a1 l) l[2]?
 | .nZipmap => zipS (a0 l) (a1 l)
 | .nMerge => (mapOf (qv [] (q4o [] l)), 0)
 | .nCoalesce => (q3f l, 0)
 | .nTobool => tocS 1 (a0 l)
 | .nTonumber => tocS 2 (a0 l)
 | .nTostring => tocS 3 (a0 l)
 | .nConcat => (lV (l.flatMap Val.items), 0)
 | .nElement => q2s (a0 l) (a1 l)
 | .nLength => (lenS (a0 l), 0)
 | .nReverse => (lV (a0 l).items.reverse, 0)
 | .nSlice => q57 (a0 l) (a1 l) (a2 l)
 | .nSort => (q9y (a0 l), 0)
theorem Ck.str_le {v : Val} (h : Ck v) : v.str.size ≤ 4096 := by
 have := (q80 h.ok.2.choose_spec.node).2.2.1
 unfold vtext at this
 by_cases c : 4096 < v.str.size
 ·rw [if_pos c] at this; cases this
 ·omega
theorem Ck.num_ok {v : Val} (h : Ck v) (h2 : v.kind = 2) : NumPlain.validB v.num = true := (q80 h.ok.2.choose_spec.node).2.1 h2
theorem Ck.fits {v : Val} (h : Ck v) : v.Fits := h.ok.1
theorem q34 (v : Val) : v.items.length ≤ q1z v := by have := qc5 v.items; rw [q52]; omega
theorem q4m {l : List Val} (hl : l.length ≤ 100000) (h : ∀ x ∈ l, x.Fits) : (lV l).Fits :=
 .mk (by decide) (by decide) q3q (by omega) (by simp) (fun _ h => absurd h List.not_mem_nil) h
theorem q40 {s : ByteArray} (h : s.size ≤ 140737488351232) : (vText s).Fits := q3r (by decide) (by decide) h
theorem qa4 {n : Int} (h : -9223372036854775808 ≤ n ∧ n ≤ 9223372036854775807) : (vNum n).Fits := q3r (by decide) h q3q
theorem qdf (b : Bool) : (bV b).Fits := (qde b).ok.1
theorem q5n {v : Val} {k : Int} : isK v [k] = true ↔ v.kind = k ∨ v.kind = 6 := by simp [isK]
theorem q2g {k : Nm} {l : List Val} (h : arOk k l = true) (h1 : (spB k).least = 1) (h2 : (spB k).most = 1) : ∃ a, l = [a] := by
 unfold arOk at h; rw [h1, h2] at h
 simp only [Bool.and_eq_true, decide_eq_true_eq] at h
 exact List.length_eq_one_iff.1 (by omega)
theorem q43 {k : Nm} {l : List Val} (h : arOk k l = true) (h1 : (spB k).least = 2) (h2 : (spB k).most = 2) : ∃ a b, l = [a, b] := by
 unfold arOk at h; rw [h1, h2] at h
 simp only [Bool.and_eq_true, decide_eq_true_eq] at h
 match l, h with
 | [a, b], _ => exact ⟨a, b, rfl⟩
 | [], h => simp at h
 | [a], h => simp at h
 | a :: b :: c :: r, h => simp at h; omega
theorem qdb {k : Nm} {l : List Val} (h : arOk k l = true) (h1 : (spB k).least = 3) (h2 : (spB k).most = 3) : ∃ a b c, l = [a, b, c] := by
 unfold arOk at h; rw [h1, h2] at h
 simp only [Bool.and_eq_true, decide_eq_true_eq] at h
 match l, h with
 | [a, b, c], _ => exact ⟨a, b, c, rfl⟩
 | [], h => simp at h
 | [a], h => simp at h
 | [a, b], h => simp at h
 | a :: b :: c :: d :: r, h => simp at h; omega
theorem q5x {k : Nm} {l : List Val} (h : arOk k l = true) (h1 : (spB k).least = 1) : ∃ a r, l = a :: r := by
 unfold arOk at h; rw [h1] at h
 simp only [Bool.and_eq_true, decide_eq_true_eq] at h
 cases l with
 | nil => simp at h
 | cons a r => exact ⟨a, r, rfl⟩
theorem q2a {k : Nm} {l : List Val} (h : q2i k l = true) {i : Nat} {x : Val} (hx : l[i]? = some x) : fitK x (lett k i) = true := by
 unfold q2i at h
 rw [List.all_eq_true] at h
 refine h (x, i) ?_
 rw [List.mem_zipIdx_iff_getElem?]; exact hx
theorem q54 {k : Nm} {l : List Val} (h : q1t k l = false) {i : Nat} {x : Val} (hx : l[i]? = some x) : x.kind ≠ 6 ∧ (lett k i = 78 ∨ lett k i = 83 → q7 x = true) := by
 unfold q1t at h
 rw [List.any_eq_false] at h
 have := h (x, i) (by rw [List.mem_zipIdx_iff_getElem?]; exact hx)
 simp only [Bool.or_eq_true, decide_eq_true_eq, Bool.and_eq_true, not_or, not_and] at this
 refine ⟨this.1, fun hl => ?_⟩
 have := this.2 hl
 simpa using this
theorem q5j {v : Val} (h : fitK v 110 = true) : v.kind = 2 ∨ v.kind = 6 := q5n.1 h
theorem fit_s {v : Val} (h : fitK v 115 = true) : v.kind = 3 ∨ v.kind = 6 := q5n.1 h
theorem q8y {v : Val} (h : fitK v 108 = true) : v.kind = 4 ∨ v.kind = 6 := q5n.1 h
theorem fit_m {v : Val} (h : fitK v 109 = true) : v.kind = 5 ∨ v.kind = 6 := q5n.1 h
theorem fit_N {v : Val} (h : fitK v 78 = true) : (v.kind = 4 ∨ v.kind = 6) ∧ ∀ x ∈ v.items, x.kind = 2 ∨ x.kind = 6 := by
 have h : allK v 2 = true := h
 unfold allK at h
 rw [Bool.and_eq_true, List.all_eq_true] at h
 exact ⟨q5n.1 h.1, fun x hx => q5n.1 (h.2 x hx)⟩
theorem qb5 {v : Val} (h : fitK v 83 = true) : (v.kind = 4 ∨ v.kind = 6) ∧ ∀ x ∈ v.items, x.kind = 3 ∨ x.kind = 6 := by
 have h : allK v 3 = true := h
 unfold allK at h
 rw [Bool.and_eq_true, List.all_eq_true] at h
 exact ⟨q5n.1 h.1, fun x hx => q5n.1 (h.2 x hx)⟩
theorem qkh {k : Nm} (h : (spB k).kinds.size = 1) (i : Nat) : lett k i = lett k 0 := by
 unfold lett; rw [h]; simp
noncomputable def brS (k : Nm) (l : List Val) : Option (Val × Int) :=
 match k with
 | .nAbs | .nMax | .nMin | .nRange | .nSum => gQ2j (nmB k) l
 | .nEndswith | .nJoin | .nLower | .nReplace | .nSplit | .nStartswith | .nTrim | .nUpper => gQ2y (nmB k) l
 | .nContains | .nDistinct | .nFlatten | .nIndex => gQ2o (nmB k) l
 | .nKeys | .nLookup | .nMerge | .nValues | .nZipmap => gQ2a (nmB k) l
 | .nCoalesce | .nTobool | .nTonumber | .nTostring => gQ1n (nmB k) l
 | _ => gQ20 (nmB k) l
theorem qh9 (k : Nm) (l : List Val) : gQ0x (nmB k) l = brS k l := by
 rw [← q5e (brS k l)]
 cases k <;> rfl
def Ap (k : Nm) : Prop := ∀ l : List Val, Args l → arOk k l = true → q2i k l = true → ((spB k).strict && q1t k l) = false → brS k l = some (apS k l) ∧ (apS k l).1.Fits
theorem Args.at {l : List Val} (h : Args l) {i : Nat} {x : Val} (hx : l[i]? = some x) : Ck x ∧ q1z x ≤ 400 := ⟨h.ck x (List.mem_of_getElem? hx), h.nodes x (List.mem_of_getElem? hx)⟩
theorem q9j {v : Val} (h : Ck v) (h2 : v.kind = 2) : -9007199254740992 ≤ v.num ∧ v.num ≤ 9007199254740992 := (q59 v.num).1 (h.num_ok h2)
theorem ap_abs : Ap .nAbs := by
 intro l ha hb hf ho
 obtain ⟨a, rfl⟩ := q2g hb rfl rfl
 have c := (ha.at (i := 0) rfl).1
 have o := q54 (show q1t .nAbs [a] = false from ho) (i := 0) rfl
 have f := q5j (q2a hf (i := 0) rfl)
 have b := q9j c (by omega)
 refine ⟨?_, qa4 (by show _ ∧ _; simp only [a0, List.getD_cons_zero]; omega)⟩
 show (some (vNum (if IntKind.i64.wrap (0 - a.num) > a.num then IntKind.i64.wrap (0 - a.num) else a.num), (0 : Int))) = some (vNum a.num.natAbs, 0)
 rw [q28 (by omega) (by omega)]
 congr 3
 split <;> omega
theorem qb0 (s : Int) : ∀ (r : List Val) (x : Val), extS s x r = x ∨ extS s x r ∈ r
 | [], x => .inl rfl
 | v :: r, x => by
  rw [extS]
  rcases qb0 s r (if s * v.num > s * x.num then v else x) with h | h
  ·rw [h]; split
   ·exact .inr List.mem_cons_self
   ·exact .inl rfl
  ·exact .inr (List.mem_cons_of_mem _ h)
theorem qh4 {k : Nm} {s : Int} (hk : (k = .nMax ∧ s = 1) ∨ (k = .nMin ∧ s = -1)) : Ap k := by
 intro l ha hb hf ho
 have h1 : (spB k).least = 1 := by rcases hk with ⟨rfl, _⟩ | ⟨rfl, _⟩ <;> rfl
 have h2 : (spB k).strict = true := by rcases hk with ⟨rfl, _⟩ | ⟨rfl, _⟩ <;> rfl
 have h3 : ∀ i, lett k i = 110 := fun i => by rw [qkh (by rcases hk with ⟨rfl, _⟩ | ⟨rfl, _⟩ <;> rfl)]; rcases hk with ⟨rfl, _⟩ | ⟨rfl, _⟩ <;> rfl
 obtain ⟨a, r, rfl⟩ := q5x hb h1
 rw [h2, Bool.true_and] at ho
 have hv : ∀ v ∈ a :: r, -9007199254740992 ≤ v.num ∧ v.num ≤ 9007199254740992 := fun v hv => by
  obtain ⟨i, hi⟩ := List.getElem?_of_mem hv
  have o := q54 ho hi
  have f := q2a hf hi
  rw [h3] at f
  have f := q5j f
  exact q9j (ha.ck v hv) (by omega)
 have hl := ha.len
 rw [List.length_cons] at hl
 have e := qr4 a r (s := s) (by rcases hk with ⟨_, rfl⟩ | ⟨_, rfl⟩ <;> decide) (by omega) hv
 have e2 : apS k (a :: r) = (extS s a r, 0) := by rcases hk with ⟨rfl, rfl⟩ | ⟨rfl, rfl⟩ <;> rfl
 rw [e2]
 constructor
 ·have : brS k (a :: r) = (gQ18 (a :: r) s).bind fun y => some (y, 0) := by rcases hk with ⟨rfl, rfl⟩ | ⟨rfl, rfl⟩ <;> rfl
  rw [this, e]; rfl
 ·rcases qb0 s r a with h | h
  ·show (extS s a r).Fits; rw [h]; exact (ha.ck a List.mem_cons_self).fits
  ·exact (ha.ck _ (List.mem_cons_of_mem _ h)).fits
theorem ql6 {a b : Int} (ha : -9007199254740992 ≤ a ∧ a ≤ 9007199254740992) (hb : -9007199254740992 ≤ b ∧ b ≤ 9007199254740992) : (q4c a b).1.Fits := by
 unfold q4c
 split
 ·exact q1v
 ·refine q4m (by simp [upTo]; omega) fun x hx => ?_
  obtain ⟨i, hi, rfl⟩ := List.mem_map.1 hx
  have := List.mem_range.1 hi
  exact qa4 (by omega)
theorem qog : Ap .nRange := by
 intro l ha hb hf ho
 obtain ⟨a, r, rfl⟩ := q5x hb rfl
 have ho : q1t .nRange (a :: r) = false := ho
 have c := (ha.at (i := 0) rfl).1
 have o := q54 ho (i := 0) rfl
 have f := q5j (q2a hf (i := 0) rfl)
 have b := c.num_ok (by omega)
 cases r with
 | nil =>
  refine ⟨?_, ql6 (by decide) (q9j c (show a.kind = 2 by omega))⟩
  show ((gQ2g 0 a.num).bind fun y12 => some (y12.1, y12.2)) = some (q4c 0 a.num)
  rw [q5e, ql7 (by decide) b]
 | cons x t =>
  have ht : t = [] := by
   unfold arOk at hb
   have : (spB .nRange).most = 2 := rfl
   rw [this] at hb
   simp only [Bool.and_eq_true, decide_eq_true_eq, List.length_cons] at hb
   exact List.length_eq_zero_iff.1 (by omega)
  subst ht
  have c2 := (ha.at (i := 1) rfl).1
  have o2 := q54 ho (i := 1) rfl
  have f2 := q5j (q2a hf (i := 1) rfl)
  refine ⟨?_, ql6 (q9j c (show a.kind = 2 by omega)) (q9j c2 (show x.kind = 2 by omega))⟩
  show ((gQ2g a.num x.num).bind fun y12 => some (y12.1, y12.2)) = some (q4c a.num x.num)
  rw [q5e, ql7 b (c2.num_ok (by omega))]
theorem qmv : ∀ (l : List Val) (n : Int), NumPlain.validB n = true → (sumS n l).1.Fits
 | [], n, h => qa4 (by have := (q59 n).1 h; omega)
 | v :: r, n, h => by
  rw [sumS]; split
  ·rename_i h2; exact qmv r _ h2
  ·exact q1v
theorem ap_sum : Ap .nSum := by
 intro l ha hb hf ho
 obtain ⟨a, rfl⟩ := q2g hb rfl rfl
 have ho : q1t .nSum [a] = false := ho
 obtain ⟨c, n⟩ := ha.at (i := 0) rfl
 have o := q54 ho (i := 0) rfl
 have f := fit_N (q2a hf (i := 0) rfl)
 have hn := q34 a
 have hk := o.2 (.inl rfl)
 refine ⟨?_, qmv _ _ (by decide)⟩
 show q8 (gQ2k a) (0, 0) = some (sumS 0 a.items)
 exact qxn a (by omega) fun v hv => (c.item v hv).num_ok (by
  have := f.2 v hv
  have := q2e (q39 hk v hv)
  omega)
theorem qjv (s : ByteArray) (l : List Val) (hs : s.size ≤ 4096) (hl : l.length ≤ 100000) (hv : ∀ v ∈ l, v.str.size ≤ 4096) : (q17 (q30 l) s).size ≤ 140737488351232 := by
 have h1 := qep ((q30 l).map (·.data.toList)) s.data.toList 4096 (fun x hx => by
  obtain ⟨b, hb, rfl⟩ := List.mem_map.1 hx
  obtain ⟨v, hv1, rfl⟩ := List.mem_map.1 hb
  simpa using hv v hv1)
 have hs2 : s.data.toList.length = s.size := by simp
 rw [List.length_map, hs2] at h1
 have h2 : (q30 l).length ≤ 100000 := by simpa [q30] using hl
 have h3 : (q30 l).length * (4096 + s.size) ≤ 100000 * 8192 := Nat.mul_le_mul h2 (by omega)
 have e : (q17 (q30 l) s).size = (Lib.join ((q30 l).map (·.data.toList)) s.data.toList).length := by
  unfold q17; rw [← ByteArray.size_data, List.size_toArray]
 omega
theorem qh6 {k : Nm} {g : ByteArray → ByteArray → Option Bool} {S : ByteArray → ByteArray → Bool} (h1 : (spB k).least = 2) (h2 : (spB k).most = 2)
  (hb : ∀ a b, brS k [a, b] = (g a.str b.str).bind fun y4 => (gQ5g y4).bind fun y5 => some (y5, 0)) (hs : ∀ a b, apS k [a, b] = (bV (S a.str b.str), 0)) (hg : ∀ s t : ByteArray, s.size ≤ 140737488351232 → g s t = some (S s t)) : Ap k := by
 intro l ha har hf ho
 obtain ⟨a, b, rfl⟩ := q43 har h1 h2
 have c := (ha.at (i := 0) rfl).1
 rw [hb, hs, hg _ _ (by have := c.str_le; omega), Option.bind_some, qs5]
 exact ⟨rfl, qdf _⟩
theorem qo5 : Ap .nEndswith := qh6 rfl rfl (fun _ _ => rfl) (fun _ _ => rfl) fun s t h => qxm s t h
theorem qom : Ap .nStartswith := qh6 rfl rfl (fun _ _ => rfl) (fun _ _ => rfl) fun s t h => qw2 s t h
theorem qo8 : Ap .nJoin := by
 intro l ha hb hf ho
 obtain ⟨a, b, rfl⟩ := q43 hb rfl rfl
 obtain ⟨c, n⟩ := ha.at (i := 0) rfl
 obtain ⟨c2, n2⟩ := ha.at (i := 1) rfl
 have hn := q34 b
 have hs := c.str_le
 have hv : ∀ v ∈ b.items, v.str.size ≤ 4096 := fun v hv => (c2.item v hv).str_le
 refine ⟨?_, q40 (qjv _ _ hs (show b.items.length ≤ 100000 by omega) hv)⟩
 show ((gQ1t a.str b.items).bind fun y12 => (gQ6b y12).bind fun y13 => some (y13, 0)) = some (vText (q17 (q30 b.items) a.str), 0)
 rw [qsl a.str b.items hs (by omega) hv]; rfl
theorem qoy (lo hi d : Int) (s : ByteArray) : (q7a lo hi d s).size = s.size := by
 unfold q7a
 rw [← ByteArray.size_data, List.size_toArray]
 simp [q5y]
theorem qh3 {k : Nm} {lo hi d : Int} (h1 : (spB k).least = 1) (h2 : (spB k).most = 1) (hr : (0 ≤ lo ∧ lo < 256) ∧ (0 ≤ hi ∧ hi < 256) ∧ (-256 < d ∧ d < 256))
  (hb : ∀ a, brS k [a] = (q9d a.str lo hi d).bind fun y15 => (gQ6b y15).bind fun y16 => some (y16, 0)) (hs : ∀ a, apS k [a] = (vText (q7a lo hi d a.str), 0)) : Ap k := by
 intro l ha har hf ho
 obtain ⟨a, rfl⟩ := q2g har h1 h2
 have c := (ha.at (i := 0) rfl).1.str_le
 have e : q9d a.str lo hi d = some (q7a lo hi d a.str) := q2c ⟨by omega, hr⟩
 rw [hb, hs, e]
 exact ⟨rfl, q40 (by rw [qoy]; omega)⟩
theorem qod : Ap .nLower := qh3 rfl rfl (by decide) (fun _ => rfl) fun _ => rfl
theorem qor : Ap .nUpper := qh3 rfl rfl (by decide) (fun _ => rfl) fun _ => rfl
theorem qcp {s : ByteArray} (h : s ≠ eS) : 1 ≤ s.size := by
 rcases Nat.eq_zero_or_pos s.size with h0 | h0
 ·exact absurd (qfz h0) h
 ·exact h0
theorem qoh : Ap .nReplace := by
 intro l ha hb hf ho
 obtain ⟨a, b, c, rfl⟩ := qdb hb rfl rfl
 have s1 := (ha.at (i := 0) rfl).1.str_le
 have s3 := (ha.at (i := 2) rfl).1.str_le
 constructor
 ·show ((gQ2m a.str b.str c.str).bind fun y => some (y.1, y.2)) = some (q56 a.str b.str c.str)
  rw [q5e, qwq a.str b.str c.str s1 s3 fun h => by
   have := Lib.countB_le b.str (qcp h) a.str.size a.str (Nat.le_refl _)
   omega]
 ·show (q56 a.str b.str c.str).1.Fits
  unfold q56
  split
  ·exact q1v
  split
  ·exact q1v
  ·exact q40 (by omega)
theorem qli {s t : ByteArray} (h : s ≠ eS) : (q6s t s).length ≤ t.size + 1 := by
 have h1 := Lib.splitB_length_le s 0 (Lib.countB t s) t
 have h2 := Lib.countB_le s (qcp h) t.size t (Nat.le_refl _)
 unfold q6s; omega
theorem qmo (sep : ByteArray) : ∀ (k : Nat) (s : ByteArray), ∀ x ∈ Lib.splitB sep 0 k s, x.size ≤ s.size
 | 0, s, x, h => by
  rw [Lib.splitB_zero] at h
  rw [List.mem_singleton.1 h]; exact Nat.le_refl _
 | k + 1, s, x, h => by
  rw [Lib.splitB] at h
  split at h
  ·rw [List.mem_singleton.1 h]; exact Nat.le_refl _
  ·rcases List.mem_cons.1 h with rfl | h
   ·rw [ByteArray.size_extract]; omega
   ·have := qmo sep k _ x h
    rw [ByteArray.size_extract] at this; omega
theorem qmp {s t : ByteArray} (ht : t.size ≤ 4096) : (q3z s t).1.Fits := by
 unfold q3z
 split
 ·exact q1v
 ·rename_i h
  refine q4m (by have := qli (t := t) h; rw [List.length_map]; omega) fun x hx => ?_
  obtain ⟨y, hy, rfl⟩ := List.mem_map.1 hx
  have := qmo s _ t y hy
  exact q40 (by omega)
theorem qol : Ap .nSplit := by
 intro l ha hb hf ho
 obtain ⟨a, b, rfl⟩ := q43 hb rfl rfl
 have s2 := (ha.at (i := 1) rfl).1.str_le
 refine ⟨?_, qmp (show b.str.size ≤ 4096 from s2)⟩
 show ((gQ2v a.str b.str).bind fun y => some (y.1, y.2)) = some (q3z a.str b.str)
 rw [q5e, qxi a.str b.str s2 fun h => by have := qli (t := b.str) h; omega]
theorem qxz (s : ByteArray) : (qa2 s).size ≤ s.size := by
 unfold qa2
 rw [← ByteArray.size_data, List.size_toArray]
 unfold Lib.trimS Lib.trimLeftS Lib.trimRightS
 have h1 := (List.dropWhile_suffix (l := (List.dropWhile (fun x => [32, 9, 10, 13].contains x) s.data.toList.reverse).reverse) fun x => [32, 9, 10, 13].contains x).length_le
 have h2 := (List.dropWhile_suffix (l := s.data.toList.reverse) fun x => [32, 9, 10, 13].contains x).length_le
 rw [List.length_reverse] at h1 h2
 have h3 : s.data.toList.length = s.size := by simp
 omega
theorem qoq : Ap .nTrim := by
 intro l ha hb hf ho
 obtain ⟨a, rfl⟩ := q2g hb rfl rfl
 have c := (ha.at (i := 0) rfl).1.str_le
 refine ⟨?_, q40 (Nat.le_trans (qxz a.str) (by omega))⟩
 show ((qbz a.str ⟨#[32, 9, 10, 13]⟩).bind fun y => (gQ6b y).bind fun y => some (y, 0)) = some (vText (qa2 a.str), 0)
 rw [qxy a.str c]; rfl
end Abs
end Go.Proofs.YtagadjpmkggjdaaGreatDoor
namespace Go.Proofs.YtagadjpmkggjdaaGreatDoor
set_option linter.unusedSimpArgs false
set_option linter.unusedVariables false
namespace Abs
open Go.RowKit
theorem qct {v : Val} (c : Ck v) (h : v.kind = 6) : v = vU := qgi c.ok h
theorem qcg {n : ByteArray} {a : Val} {r : List Val} (h : a.kind = 6) : gQ2o n (a :: r) = some (a, 0) := by
 unfold gQ2o
 show (bif (decide (a.kind = 6)) then _ else _) = _
 rw [decide_eq_true h, cond_true]
theorem qqe (l : List Val) (v : Val) : (q3g l v).Fits := by
 unfold q3g
 cases (l.any fun x => ql x v)
 ·cases (l.all fun x => difV x v)
  ·exact q3n
  ·exact qdf false
 ·exact qdf true
theorem qo2 : Ap .nContains := by
 intro l ha hb hf ho
 obtain ⟨a, b, rfl⟩ := q43 hb rfl rfl
 obtain ⟨c, n⟩ := ha.at (i := 0) rfl
 have hn := q34 a
 show gQ2o (nmB .nContains) [a, b] = some (if a.kind = 6 then (vU, 0) else (q3g a.items b, 0)) ∧ (if a.kind = 6 then (vU, 0) else (q3g a.items b, (0 : Int))).1.Fits
 by_cases h6 : a.kind = 6
 ·rw [qcg h6, if_pos h6, qct c h6]; exact ⟨rfl, q3n⟩
 ·rw [if_neg h6]
  refine ⟨?_, qqe _ _⟩
  unfold gQ2o
  show (bif (decide (a.kind = 6)) then _ else (gQ0z a.items b).bind fun y5 => some (y5, 0)) = _
  rw [decide_eq_false h6, cond_false, qqd a.items b (by omega) fun x hx => (c.item x hx).fits]; rfl
theorem qdz : ∀ (r pre acc : List Val) (P : Val → Prop), (∀ x ∈ acc, P x) → (∀ x ∈ r, P x) → q29 pre acc r = vU ∨ ∃ m : List Val, q29 pre acc r = lV m ∧ m.length ≤ acc.length + r.length ∧ ∀ x ∈ m, P x
 | [], pre, acc, P, h1, h2 => .inr ⟨acc, by rw [q29], by simp, h1⟩
 | x :: r, pre, acc, P, h1, h2 => by
  rw [q8w]
  cases (pre.any fun y => !ql x y && !difV x y)
  ·rw [cond_false]
   cases (pre.any fun y => ql x y)
   ·rw [cond_false]
    rcases qdz r (pre ++ [x]) (acc ++ [x]) P (fun y hy => (List.mem_append.1 hy).elim (h1 y) fun h => by rw [List.mem_singleton.1 h]; exact h2 x List.mem_cons_self) (fun y hy => h2 y (List.mem_cons_of_mem _ hy)) with h | ⟨m, e, h, h3⟩
    ·exact .inl h
    ·exact .inr ⟨m, e, by rw [List.length_append, List.length_singleton] at h; rw [List.length_cons]; omega, h3⟩
   ·rw [cond_true]
    rcases qdz r (pre ++ [x]) acc P h1 (fun y hy => h2 y (List.mem_cons_of_mem _ hy)) with h | ⟨m, e, h, h3⟩
    ·exact .inl h
    ·exact .inr ⟨m, e, by rw [List.length_cons]; omega, h3⟩
  ·exact .inl rfl
theorem qo3 : Ap .nDistinct := by
 intro l ha hb hf ho
 obtain ⟨a, rfl⟩ := q2g hb rfl rfl
 obtain ⟨c, n⟩ := ha.at (i := 0) rfl
 have hn := q34 a
 show gQ2o (nmB .nDistinct) [a] = some (if a.kind = 6 then (vU, 0) else (q29 [] [] a.items, 0)) ∧ (if a.kind = 6 then (vU, 0) else (q29 [] [] a.items, (0 : Int))).1.Fits
 by_cases h6 : a.kind = 6
 ·rw [qcg h6, if_pos h6, qct c h6]; exact ⟨rfl, q3n⟩
 ·rw [if_neg h6]
  constructor
  ·unfold gQ2o
   show (bif (decide (a.kind = 6)) then _ else (gQ12 a.items).bind fun y5 => some (y5, 0)) = _
   rw [decide_eq_false h6, cond_false, qqn a.items (by omega) fun x hx => (c.item x hx).fits]; rfl
  ·rcases qdz a.items [] [] Val.Fits (fun _ h => absurd h List.not_mem_nil) (fun x hx => (c.item x hx).fits) with h | ⟨m, h, h2, h3⟩
   ·show (q29 [] [] a.items).Fits; rw [h]; exact q3n
   ·show (q29 [] [] a.items).Fits; rw [h]; exact q4m (by simp at h2; omega) h3
theorem qro (P : Val → Prop) (hP : ∀ x, P x → ∀ y ∈ x.items, P y) (x : Val) : ∀ z, P x → q5l x = some z → ∀ y ∈ z, P y := by
 induction x using wfV.induction with
 | h x ih =>
  intro z hx hz y hy
  rw [q7o] at hz
  split at hz
  ·cases hz
  split at hz
  ·have key : ∀ (l : List Val), (∀ v ∈ l, v ∈ x.items) → ∀ z, q1c l = some z → ∀ y ∈ z, P y := by
    intro l
    induction l with
    | nil => intro _ z hz y hy; rw [q5k] at hz; obtain rfl := Option.some.inj hz; exact absurd hy List.not_mem_nil
    | cons v r ihr =>
     intro hl z hz y hy
     rw [q4j] at hz
     obtain ⟨p, h1, hz⟩ := Option.bind_eq_some_iff.1 hz
     obtain ⟨q, h2, rfl⟩ := Option.map_eq_some_iff.1 hz
     rcases List.mem_append.1 hy with hy | hy
     ·exact ih v (hl v List.mem_cons_self) p (hP x hx v (hl v List.mem_cons_self)) h1 y hy
     ·exact ihr (fun w hw => hl w (List.mem_cons_of_mem _ hw)) q h2 y hy
   exact key x.items (fun _ h => h) z hz y hy
  ·obtain rfl := Option.some.inj hz
   rw [List.mem_singleton.1 hy]; exact hx
theorem qed (P : Val → Prop) (hP : ∀ x, P x → ∀ y ∈ x.items, P y) : ∀ (l z : List Val), (∀ x ∈ l, P x) → q1c l = some z → ∀ y ∈ z, P y
 | [], z, _, hz, y, hy => by rw [q5k] at hz; obtain rfl := Option.some.inj hz; exact absurd hy List.not_mem_nil
 | v :: r, z, hl, hz, y, hy => by
  rw [q4j] at hz
  obtain ⟨p, h1, hz⟩ := Option.bind_eq_some_iff.1 hz
  obtain ⟨q, h2, rfl⟩ := Option.map_eq_some_iff.1 hz
  rcases List.mem_append.1 hy with hy | hy
  ·exact qro P hP v p (hl v List.mem_cons_self) h1 y hy
  ·exact qed P hP r q (fun w hw => hl w (List.mem_cons_of_mem _ hw)) h2 y hy
theorem qo6 : Ap .nFlatten := by
 intro l ha hb hf ho
 obtain ⟨a, rfl⟩ := q2g hb rfl rfl
 obtain ⟨c, n⟩ := ha.at (i := 0) rfl
 have hn := q34 a
 have hn2 : q1s a.items ≤ 400 := by rw [q52] at n; omega
 show gQ2o (nmB .nFlatten) [a] = some (if a.kind = 6 then (vU, (0 : Int)) else match q1c a.items with | some z => (lV z, 0) | none => (vU, 0)) ∧ (if a.kind = 6 then (vU, (0 : Int)) else match q1c a.items with | some z => (lV z, 0) | none => (vU, 0)).1.Fits
 by_cases h6 : a.kind = 6
 ·rw [qcg h6, if_pos h6, qct c h6]; exact ⟨rfl, q3n⟩
 ·rw [if_neg h6]
  unfold gQ2o
  show (bif (decide (a.kind = 6)) then _ else (tQ6n a.items).bind fun y9 => bif (!y9.2) then (gQ6d).bind fun y11 => some (y11, 0) else (gQ1y y9.1).bind fun y12 => some (y12, 0)) = _ ∧ _
  rw [decide_eq_false h6, cond_false, qrr a.items (by omega), Option.bind_some]
  cases h : q1c a.items with
  | none => exact ⟨rfl, q3n⟩
  | some z => exact ⟨rfl, q4m (by have := qec _ _ h; omega) (qed Val.Fits (fun x hx y hy => hx.parts.2.2.2.2.2.2 y hy) a.items z (fun x hx => (c.item x hx).fits) h)⟩
theorem qji (v : Val) : ∀ (l : List Val) (i : Nat), i + l.length ≤ 100000 → (q24 v i l).1.Fits
 | [], i, _ => by rw [q24]; exact q1v
 | x :: r, i, h => by
  rw [List.length_cons] at h
  rw [q7p]
  cases ql x v
  ·cases difV x v
   ·exact q3n
   ·exact qji v r (i + 1) (by omega)
  ·exact qa4 (by omega)
theorem qo7 : Ap .nIndex := by
 intro l ha hb hf ho
 obtain ⟨a, b, rfl⟩ := q43 hb rfl rfl
 obtain ⟨c, n⟩ := ha.at (i := 0) rfl
 have hn := q34 a
 show gQ2o (nmB .nIndex) [a, b] = some (if a.kind = 6 then (vU, 0) else q24 b 0 a.items) ∧ (if a.kind = 6 then (vU, 0) else q24 b 0 a.items).1.Fits
 by_cases h6 : a.kind = 6
 ·rw [qcg h6, if_pos h6, qct c h6]; exact ⟨rfl, q3n⟩
 ·rw [if_neg h6]
  refine ⟨?_, qji b a.items 0 (by omega)⟩
  rw [← qry a.items b (by omega) fun x hx => (c.item x hx).fits]
  unfold gQ2o
  show (bif (decide (a.kind = 6)) then _ else (gQ1k a.items b).bind fun y14 => bif (!y14.2) then (gQ6d).bind fun y16 => some (y16, 0) else bif (decide (y14.1 < 0)) then some ((Val.mk 0 0 eS [] []), 16) else (gQ64 y14.1).bind fun y18 => some (y18, 0)) = _
  rw [decide_eq_false h6, cond_false]
theorem qsn {v : Val} (c : Ck v) (h : v.kind = 5) : v.keys.length = v.items.length := c.ok.shape.2.2.2.2.2.2.1 h
theorem qso {v : Val} (c : Ck v) : v.keys.length ≤ v.items.length := by
 obtain ⟨_, _, _, _, _, _, h1, h2⟩ := c.ok.shape
 by_cases h : v.kind = 5
 ·rw [h1 h]; exact Nat.le_refl _
 ·rw [h2 h]; simp
theorem qjy {v : Val} (c : Ck v) : ∀ s ∈ v.keys, s.size ≤ 140737488351232 := c.fits.parts.2.2.2.2.2.1
theorem qo9 : Ap .nKeys := by
 intro l ha hb hf ho
 obtain ⟨a, rfl⟩ := q2g hb rfl rfl
 obtain ⟨c, n⟩ := ha.at (i := 0) rfl
 have hn := q34 a
 have hk := qso c
 constructor
 ·show q8 (gQ2b a) (0, []) = some (lV (a.keys.map vText), 0)
  exact qsp a (by omega)
 ·show (lV (a.keys.map vText)).Fits
  refine q4m (by rw [List.length_map]; omega) fun x hx => ?_
  obtain ⟨s, hs, rfl⟩ := List.mem_map.1 hx
  exact q40 (qjy c s hs)
theorem qos : Ap .nValues := by
 intro l ha hb hf ho
 obtain ⟨a, rfl⟩ := q2g hb rfl rfl
 obtain ⟨c, n⟩ := ha.at (i := 0) rfl
 have hn := q34 a
 exact ⟨rfl, q4m (show a.items.length ≤ 100000 by omega) fun x hx => (c.item x hx).fits⟩
theorem qtj {m k : Val} {d : Option Val} (hm : Ck m) (hd : ∀ x, d = some x → x.Fits) : (q3w m k d).1.Fits := by
 unfold q3w
 split
 ·exact q3n
 ·cases hasB m.keys k.str
  ·cases d with
   | none => exact q1v
   | some x => exact hd x rfl
  ·exact (hm.look _).fits
theorem qoc : Ap .nLookup := by
 intro l ha hb hf ho
 have hb' := hb
 unfold arOk at hb
 rw [show (spB .nLookup).least = 2 from rfl, show (spB .nLookup).most = 3 from rfl] at hb
 simp only [Bool.and_eq_true, decide_eq_true_eq] at hb
 match l, hb with
 | [], hb => simp at hb
 | [a], hb => simp at hb
 | m :: k :: t, hb =>
  simp only [List.length_cons] at hb
  obtain ⟨c, n⟩ := ha.at (i := 0) rfl
  have f := fit_m (q2a hf (i := 0) rfl)
  refine ⟨?_, qtj (m := m) c fun x hx => (ha.ck x (List.mem_of_getElem? (i := 2) hx)).fits⟩
  show ((gQ28 (m :: k :: t)).bind fun y => some (y.1, y.2)) = some (q3w m k t[0]?)
  rw [q5e, qtl m k t (by omega) c.ok (by omega)]
theorem qng {k v : Val} (hk : Ck k) (hv : Ck v) (hl : k.items.length ≤ 100000) (k4 : k.kind = 4 ∨ k.kind = 6) (v4 : v.kind = 4 ∨ v.kind = 6) : (zipS k v).1.Fits := by
 unfold zipS
 split
 ·exact q1v
 rename_i hd
 split
 ·exact q1v
 rename_i ks hz
 split
 ·exact q3n
 rename_i hn
 have hn1 : q7 k = true := by
  cases e : q7 k with
  | true => rfl
  | false => exact absurd (.inl e) hn
 have h6 : v.kind ≠ 6 := fun h => hn (.inr h)
 have hkk := q2e hn1
 have he : k.items.length = v.items.length := by
  by_cases e : k.items.length = v.items.length
  ·exact e
  ·exact absurd ⟨by omega, by omega, e⟩ hd
 have hs : ∀ (l : List Val) (acc ks : List ByteArray), (∀ x ∈ l, x.kind ≠ 6) → acc.Nodup → zipE acc l = some ks → ks = acc ++ l.map Val.str ∧ ks.Nodup := by
  intro l
  induction l with
  | nil => intro acc ks _ h1 h2; rw [zipE] at h2; obtain rfl := Option.some.inj h2; exact ⟨by simp, h1⟩
  | cons x r ih =>
   intro acc ks h0 h1 h2
   rw [zipE, if_neg (h0 x List.mem_cons_self)] at h2
   cases hb : hasB acc x.str with
   | true => rw [hb] at h2; cases h2
   | false =>
    rw [hb, cond_false] at h2
    have := ih (acc ++ [x.str]) ks (fun y hy => h0 y (List.mem_cons_of_mem _ hy)) (by
     rw [List.nodup_append]
     refine ⟨h1, by simp, fun y hy z hz e => ?_⟩
     have : z = x.str := by simpa using hz
     subst this; subst e
     rw [q4k.2 hy] at hb; cases hb) h2
    exact ⟨by rw [this.1]; simp, this.2⟩
 obtain ⟨e, nd⟩ := hs k.items [] ks (fun x hx => q2e (q39 hn1 x hx)) List.nodup_nil hz
 rw [List.nil_append] at e
 have hkl : ks.length = v.items.length := by rw [e, List.length_map, he]
 obtain ⟨f1, f2, f3⟩ := qjg hkl nd
 refine .mk (by decide) (by decide) q3q (by rw [List.length_map, f3]; omega) (by rw [List.length_map, f3]; omega) (fun s hs => ?_) (fun x hx => ?_)
 ·obtain ⟨p, hp, rfl⟩ := List.mem_map.1 hs
  have := (List.of_mem_zip ((f2 p).1 hp)).1
  rw [e] at this
  obtain ⟨y, hy, he⟩ := List.mem_map.1 this
  rw [← he]; have := (hk.item y hy).str_le; omega
 ·obtain ⟨p, hp, rfl⟩ := List.mem_map.1 hx
  exact (hv.item _ (List.of_mem_zip ((f2 p).1 hp)).2).fits
theorem qot : Ap .nZipmap := by
 intro l ha hb hf ho
 obtain ⟨a, b, rfl⟩ := q43 hb rfl rfl
 obtain ⟨c, n⟩ := ha.at (i := 0) rfl
 obtain ⟨c2, n2⟩ := ha.at (i := 1) rfl
 have f1 := (qb5 (q2a hf (i := 0) rfl)).1
 have f2 := q8y (q2a hf (i := 1) rfl)
 have hn := q34 a
 refine ⟨?_, qng (k := a) (v := b) c c2 (by omega) f1 f2⟩
 show ((gQ33 a b).bind fun y => some (y.1, y.2)) = some (zipS a b)
 rw [q5e, qyq a b c.ok c2.ok f1 f2 (by omega)]
theorem qlq (P : ByteArray → Prop) : ∀ (ps m : List (ByteArray × Val)), (∀ p ∈ m, P p.1) → (∀ p ∈ ps, P p.1) → ∀ p ∈ putAll m ps, P p.1
 | [], m, h, _, p, hp => h p hp
 | q :: r, m, h, h2, p, hp => qlq P r (mput m q.1 q.2) (fun x hx => by
   rcases qfc x hx with rfl | hx
   ·exact h2 q List.mem_cons_self
   ·exact h x hx) (fun x hx => h2 x (List.mem_cons_of_mem _ hx)) p hp
theorem qku (P : ByteArray → Prop) : ∀ (l : List Val) (m : List (ByteArray × Val)), (∀ p ∈ m, P p.1) → (∀ v ∈ l, ∀ s ∈ v.keys, P s) → ∀ p ∈ q4o m l, P p.1
 | [], m, h, _, p, hp => h p hp
 | v :: r, m, h, h2, p, hp => qku P r (putAll m (v.keys.zip v.items)) (qlq P _ m h fun q hq => h2 v List.mem_cons_self q.1 (List.of_mem_zip hq).1) (fun x hx => h2 x (List.mem_cons_of_mem _ hx)) p hp
theorem qtu {m : List (ByteArray × Val)} (h : MapG 100000 m) (hk : ∀ p ∈ m, p.1.size ≤ 140737488351232) : (mapOf (qv [] m)).Fits := by
 obtain ⟨f1, f2, f3⟩ := q90 m ([] : List (ByteArray × Val)) List.Pairwise.nil h.nd (fun _ _ q hq => absurd hq List.not_mem_nil)
 have hl := h.len
 have f2 : ∀ p ∈ qv [] m, p ∈ m := fun p hp => ((f2 p).1 hp).elim (fun h => absurd h List.not_mem_nil) id
 refine .mk (by decide) (by decide) q3q (by rw [List.length_map, f3]; simp; omega) (by rw [List.length_map, f3]; simp; omega) (fun s hs => ?_) (fun x hx => ?_)
 ·obtain ⟨p, hp, rfl⟩ := List.mem_map.1 hs
  exact hk p (f2 p hp)
 ·obtain ⟨p, hp, rfl⟩ := List.mem_map.1 hx
  exact h.fits p (f2 p hp)
theorem qoe : Ap .nMerge := by
 intro l ha hb hf ho
 have ho : q1t .nMerge l = false := ho
 obtain ⟨a, r, rfl⟩ := q5x hb rfl
 have hl := ha.len
 have hv : ∀ v ∈ a :: r, v.keys.length = v.items.length ∧ v.keys.length ≤ 400 ∧ ∀ y ∈ v.items, y.Fits := fun v hv => by
  obtain ⟨i, hi⟩ := List.getElem?_of_mem hv
  have o := q54 ho hi
  have f := q2a hf hi
  rw [qkh rfl] at f
  have f := fit_m f
  have c := ha.ck v hv
  have e := qsn c (by omega)
  have := q34 v
  have := ha.nodes v hv
  exact ⟨e, by omega, fun y hy => (c.item y hy).fits⟩
 obtain ⟨m1, m2⟩ := qtz (a :: r) 400 (by omega) (by omega) hv
 refine ⟨m1, qtu ⟨by have := m2.len; omega, m2.nd, m2.fits⟩ (qku _ _ _ (fun _ h => absurd h List.not_mem_nil) fun v hv => qjy (ha.ck v hv))⟩
theorem qdu : ∀ (l : List Val), q3f l = vZ ∨ q3f l ∈ l
 | [] => .inl rfl
 | x :: r => by
  rw [q3f]
  split
  ·exact (qdu r).imp id (List.mem_cons_of_mem _)
  ·exact .inr List.mem_cons_self
theorem qo0 : Ap .nCoalesce := by
 intro l ha hb hf ho
 refine ⟨qq9 l (by have := ha.len; omega), ?_⟩
 show (q3f l).Fits
 rcases qdu l with h | h
 ·rw [h]; exact q1v
 ·exact (ha.ck _ h).fits
theorem qxv {k : Int} (hk : k = 1 ∨ k = 2 ∨ k = 3) {v : Val} (h : Ck v) : (tocS k v).1.Fits := by
 unfold tocS
 split
 ·exact h.fits
 ·cases qat hk h with
  | unk _ h2 => rw [h2]; exact q3n
  | val _ _ _ _ hx h2 => rw [h2]; exact hx.fits
  | bad _ h2 => rw [h2]; exact q1v
theorem qd7 {k : Nm} {i : Int} (h1 : (spB k).least = 1) (h2 : (spB k).most = 1) (hi : i = 1 ∨ i = 2 ∨ i = 3) (hb : ∀ a, brS k [a] = (gQ04 a (Ty.mk i [] [])).bind fun y => some (y.1, y.2)) (hs : ∀ a, apS k [a] = tocS i a) : Ap k := by
 intro l ha har hf ho
 obtain ⟨a, rfl⟩ := q2g har h1 h2
 obtain ⟨c, n⟩ := ha.at (i := 0) rfl
 rw [hb, hs, q5e, qxw hi c]
 exact ⟨rfl, qxv hi c⟩
theorem qon : Ap .nTobool := qd7 rfl rfl (.inl rfl) (fun _ => rfl) fun _ => rfl
theorem qoo : Ap .nTonumber := qd7 rfl rfl (.inr (.inl rfl)) (fun _ => rfl) fun _ => rfl
theorem qop : Ap .nTostring := qd7 rfl rfl (.inr (.inr rfl)) (fun _ => rfl) fun _ => rfl
theorem qj6 (m : Nat) : ∀ (l : List Val), (∀ v ∈ l, v.items.length ≤ m) → (l.flatMap Val.items).length ≤ l.length * m
 | [], _ => by simp
 | v :: r, h => by
  rw [List.flatMap_cons, List.length_append, List.length_cons, Nat.add_mul]
  have := qj6 m r fun x hx => h x (List.mem_cons_of_mem _ hx)
  have := h v List.mem_cons_self
  omega
theorem qo1 : Ap .nConcat := by
 intro l ha hb hf ho
 obtain ⟨a, r, rfl⟩ := q5x hb rfl
 have hl := ha.len
 have hm : ∀ v ∈ a :: r, v.items.length ≤ 400 := fun v hv => by
  have := q34 v
  have := ha.nodes v hv
  omega
 refine ⟨qqc (a :: r) 400 hm (by omega) (by omega), q4m (by have := qj6 400 _ hm; omega) fun x hx => ?_⟩
 obtain ⟨v, hv, hx⟩ := List.mem_flatMap.1 hx
 exact ((ha.ck v hv).item x hx).fits
theorem qim {l n : Val} : (q2s l n).1 = vZ ∨ (q2s l n).1 = vU ∨ (q2s l n).1 ∈ l.items := by
 unfold q2s
 split
 ·exact .inl rfl
 split
 ·exact .inr (.inl rfl)
 ·show l.items.getD _ vZ = vZ ∨ _ ∨ l.items.getD _ vZ ∈ l.items
  rw [List.getD_eq_getElem?_getD]
  cases h : l.items[(n.num % (l.items.length : Int)).toNat]? with
  | none => exact .inl rfl
  | some x => exact .inr (.inr (List.mem_of_getElem? h))
theorem qo4 : Ap .nElement := by
 intro l ha hb hf ho
 obtain ⟨a, b, rfl⟩ := q43 hb rfl rfl
 obtain ⟨c, n⟩ := ha.at (i := 0) rfl
 obtain ⟨c2, n2⟩ := ha.at (i := 1) rfl
 have f1 := q8y (q2a hf (i := 0) rfl)
 have f2 := q5j (q2a hf (i := 1) rfl)
 have hn := q34 a
 constructor
 ·show ((gQ16 a b).bind fun y => some (y.1, y.2)) = some (q2s a b)
  rw [q5e, qqw a b f1 (by omega) fun h6 => c2.num_ok (by omega)]
 ·show (q2s a b).1.Fits
  rcases qim (l := a) (n := b) with h | h | h
  ·rw [h]; exact q1v
  ·rw [h]; exact q3n
  ·exact (c.item _ h).fits
theorem qob : Ap .nLength := by
 intro l ha hb hf ho
 obtain ⟨a, rfl⟩ := q2g hb rfl rfl
 obtain ⟨c, n⟩ := ha.at (i := 0) rfl
 have hs := c.str_le
 have hn := q34 a
 constructor
 ·show ((gQ1w a).bind fun y => some (y, 0)) = some (lenS a, 0)
  rw [qtb a hs]; rfl
 ·show (lenS a).Fits
  have := Lib.runeCount_le a.str
  exact qa4 (by split <;> omega)
theorem qoi : Ap .nReverse := by
 intro l ha hb hf ho
 obtain ⟨a, rfl⟩ := q2g hb rfl rfl
 obtain ⟨c, n⟩ := ha.at (i := 0) rfl
 have hn := q34 a
 refine ⟨?_, q4m (show a.items.reverse.length ≤ 100000 by rw [List.length_reverse]; omega) fun x hx => (c.item x (List.mem_reverse.1 hx)).fits⟩
 show (bif (decide ((a.items.length : Int) = 0)) then (gQ22 a).bind fun y14 => (gQ1y []).bind fun y15 => some (y15, 0) else (clone 80 a.items).bind fun l16 => (gQ24 a l16).bind fun y22 => bif decide ((y22.length : Int) = (l16.length : Int)) then (gQ1y y22).bind fun y24 => some (y24, 0) else none) = some (lV a.items.reverse, 0)
 by_cases h0 : a.items.length = 0
 ·rw [decide_eq_true (show (a.items.length : Int) = 0 by omega), cond_true, List.length_eq_zero_iff.1 h0]; rfl
 ·rw [decide_eq_false (show ¬ (a.items.length : Int) = 0 by omega), cond_false, q8s (by omega), Option.bind_some, qwu a.items (by omega) (by omega), Option.bind_some, List.length_reverse, decide_eq_true rfl]; rfl
theorem qoj : Ap .nSlice := by
 intro l ha hb hf ho
 obtain ⟨v, a, b, rfl⟩ := qdb hb rfl rfl
 obtain ⟨c, n⟩ := ha.at (i := 0) rfl
 have hn := q34 v
 have e : apS .nSlice [v, a, b] = q57 v a b := rfl
 rw [e]
 unfold q57
 constructor
 ·show (bif (decide (a.num < 0)) then some ((Val.mk 0 0 eS [] []), 16) else bif (decide (b.num < a.num)) then some ((Val.mk 0 0 eS [] []), 16) else bif (decide (b.num > (v.items.length : Int))) then some ((Val.mk 0 0 eS [] []), 16) else (slc v.items a.num b.num).bind fun x31 => (gQ1y x31).bind fun y33 => some (y33, 0)) = _
  by_cases h1 : a.num < 0
  ·rw [decide_eq_true h1, if_pos (.inl h1)]; rfl
  by_cases h2 : b.num < a.num
  ·rw [decide_eq_false h1, decide_eq_true h2, if_pos (.inr (.inl h2))]; rfl
  by_cases h3 : b.num > (v.items.length : Int)
  ·rw [decide_eq_false h1, decide_eq_false h2, decide_eq_true h3, if_pos (.inr (.inr h3))]; rfl
  rw [decide_eq_false h1, decide_eq_false h2, decide_eq_false h3, if_neg (by omega)]
  unfold slc
  rw [if_pos (by omega)]; rfl
 ·split
  ·exact q1v
  ·exact q4m (by simp; omega) fun x hx => (c.item x (List.drop_subset _ _ (List.take_subset _ _ hx))).fits
theorem qxl {v : Val} (c : Ck v) (hk : q7 v = true) (h : ∀ x ∈ v.items, x.kind = 3 ∨ x.kind = 6) : ∀ x ∈ v.items, x = strV x.str := fun x hx => by
 have h3 : x.kind = 3 := by
  have := h x hx
  have := q2e (q39 hk x hx)
  omega
 obtain ⟨_, _, s2, _, _, s5, _, s7⟩ := (c.item x hx).ok.shape
 exact q8c h3 (s2 (by omega) (by omega)) rfl (s5 (by omega) (by omega)) (s7 (by omega))
theorem qcm (l : List ByteArray) : (q2f cmpS l).Perm l := (q3c swoS l).1
theorem qok : Ap .nSort := by
 intro l ha hb hf ho
 obtain ⟨a, rfl⟩ := q2g hb rfl rfl
 obtain ⟨c, n⟩ := ha.at (i := 0) rfl
 have ho : q1t .nSort [a] = false := ho
 have o := q54 ho (i := 0) rfl
 have f := qb5 (q2a hf (i := 0) rfl)
 have hn := q34 a
 have hs := qxl c (o.2 (.inr rfl)) f.2
 constructor
 ·show (bif (decide ((a.items.length : Int) = 0)) then (gQ1y []).bind fun y36 => some (y36, 0) else (clone 80 a.items).bind fun l37 => (q9f l37).bind fun l38 => (gQ1y l38).bind fun y39 => some (y39, 0)) = some (q9y a, 0)
  by_cases h0 : a.items.length = 0
  ·unfold q9y
   rw [decide_eq_true (show (a.items.length : Int) = 0 by omega), cond_true, List.length_eq_zero_iff.1 h0, List.map_nil, List.perm_nil.1 (qcm [])]; rfl
  ·rw [decide_eq_false (show ¬ (a.items.length : Int) = 0 by omega), cond_false, q8s (by omega), Option.bind_some, show q9f a.items = some ((q2f cmpS (a.items.map Val.str)).map strV) from q2c ⟨by omega, hs⟩]; rfl
 ·show (q9y a).Fits
  unfold q9y
  refine q4m ?_ fun x hx => ?_
  ·have := (qcm (a.items.map Val.str)).length_eq
   rw [List.length_map, this, List.length_map]; omega
  ·obtain ⟨s, hs, rfl⟩ := List.mem_map.1 hx
   have := (qcm (a.items.map Val.str)).mem_iff.1 hs
   obtain ⟨y, hy, rfl⟩ := List.mem_map.1 this
   exact q40 (by have := (c.item y hy).str_le; omega)
theorem qd6 (k : Nm) : Ap k := by
 cases k
 ·exact ap_abs
 ·exact qo0
 ·exact qo1
 ·exact qo2
 ·exact qo3
 ·exact qo4
 ·exact qo5
 ·exact qo6
 ·exact qo7
 ·exact qo8
 ·exact qo9
 ·exact qob
 ·exact qoc
 ·exact qod
 ·exact qh4 (.inl ⟨rfl, rfl⟩)
 ·exact qoe
 ·exact qh4 (.inr ⟨rfl, rfl⟩)
 ·exact qog
 ·exact qoh
 ·exact qoi
 ·exact qoj
 ·exact qok
 ·exact qol
 ·exact qom
 ·exact ap_sum
 ·exact qon
 ·exact qoo
 ·exact qop
 ·exact qoq
 ·exact qor
 ·exact qos
 ·exact qot
noncomputable def q2x (k : Nm) (l : List Val) : Val × Int :=
 if q2i k l = false then (vZ, 6) else if ((spB k).strict && q1t k l) = true then (vU, 0) else finS (apS k l)
theorem q8q {k : Nm} {l : List Val} (ha : Args l) (h : arOk k l = true) : gQ0n (nmB k) l = some (q2x k l) := by
 rw [qpq ha h fun h1 h2 => by
  obtain ⟨e, f⟩ := qd6 k l ha h h1 h2
  exact ⟨apS k l, by rw [qh9, e], f⟩]
 unfold q2x
 by_cases h1 : q2i k l = false
 ·rw [if_pos h1, if_pos h1]
 rw [if_neg h1, if_neg h1]
 by_cases h2 : ((spB k).strict && q1t k l) = true
 ·rw [if_pos h2, if_pos h2]
 rw [if_neg h2, if_neg h2, qh9, (qd6 k l ha h (eq_true_of_ne_false h1) (eq_false_of_ne_true h2)).1]; rfl
theorem qh5 {k : Nm} {l : List Val} (ha : Args l) (h : arOk k l = true) (h1 : q2i k l = true) (h2 : ((spB k).strict && q1t k l) = false) : (apS k l).1.Fits := (qd6 k l ha h h1 h2).2
end Abs
end Go.Proofs.YtagadjpmkggjdaaGreatDoor
namespace Go.Proofs.YtagadjpmkggjdaaGreatDoor
set_option linter.unusedSimpArgs false
set_option linter.unusedVariables false
namespace Abs
open Go.RowKit
noncomputable def nmL : List ByteArray := (gQ0q).getD []
theorem ql2 : gQ0q = some nmL := rfl
theorem qug : nmL.length = 32 := rfl
theorem qeb {k n : Int} {s : ByteArray} (hk : -100 ≤ k ∧ k ≤ 100) (hn : -9223372036854775808 ≤ n ∧ n ≤ 9223372036854775807) (hs : s.size ≤ 140737488351232) : (Val.mk k n s [] []).Fits :=
 .mk ⟨by omega, by omega⟩ hn hs (by simp) (by simp) (fun s h => absurd h List.not_mem_nil) (fun s h => absurd h List.not_mem_nil)
abbrev nV (n : Int) : Val := Val.mk 2 n eS [] []
abbrev uV : Val := Val.mk 6 0 eS [] []
open Classical in
theorem qiu (a b : Val) : tQ75 a b = gQ5i (fun a0 a1 => if relV a0 a then tQ75 a0 a1 else none) a b := q3d a b
open Classical in
theorem qy2 (a b : Val) : tQ6q a b = gQ30 (fun a0 a1 => if relV a0 a then tQ6q a0 a1 else none) a b := q3d a b
open Classical in
theorem qt0 (x : Val) : tQ78 x = gQ5p (gQ5q (fun a0 => if relV a0 x then tQ78 a0 else none)) x := q3d x ()
theorem qx5 : gQ4y [] [] = some true := by
 unfold gQ4y
 show q8 _ 0 = _
 exact q2o rfl
theorem eq_num (a b : Int) : tQ75 (nV a) (nV b) = some (decide (a = b)) := by
 rw [qiu]
 unfold gQ5i
 show (bif (decide (a = b)) then _ else some false) = _
 by_cases h : a = b
 ·rw [decide_eq_true h, cond_true]
  show (gQ4y [] []).bind _ = _
  rw [qx5, Option.bind_some, cond_true]
  unfold gQ5k
  show (q8 _ 0).bind _ = _
  rw [q2o (q := true) rfl]; rfl
 ·rw [decide_eq_false h, cond_false]
theorem eq_unk (b : Int) : tQ75 uV (nV b) = some false := by
 rw [qiu]; rfl
theorem qsz (a : Int) : tQ78 (nV a) = some true := by
 rw [qt0]
 unfold gQ5p gQ5t gQ5v
 show ((q8 _ 0).bind _).bind _ = _
 rw [q2o (q := (-1 : Int)) rfl]; rfl
theorem qgv (a b : Int) : gQ0s (nV a) (nV b) = some (decide (a = b)) := by
 unfold gQ0s
 rw [eq_num, Option.bind_some]
 cases decide (a = b) with
 | false => rfl
 | true => rw [cond_true, qsz]; rfl
theorem qgw (b : Int) : gQ0s uV (nV b) = some false := by
 unfold gQ0s
 rw [eq_unk]; rfl
theorem qna (b : Int) : tQ6q uV (nV b) = some false := by
 rw [qy2]; rfl
theorem qem (v : Val) (k : Int) : gQ1q v [k] = some (decide (v.kind = k) || decide (v.kind = 6)) := by
 unfold gQ1q
 by_cases h : v.kind = k
 ·rw [decide_eq_true h]
  refine q2o ?_
  show (bif (decide (v.kind = k)) then _ else _) = _
  rw [decide_eq_true h]; rfl
 ·rw [decide_eq_false h]
  rw [q51 (s' := 1) (by
   show (bif (decide (v.kind = k)) then _ else _) = _
   rw [decide_eq_false h]; rfl)]
  refine q2o ?_
  rfl
theorem qpz {n : Int} (h : qf (nV n) = 0) (hn : -9223372036854775808 ≤ n ∧ n ≤ 9223372036854775807) : q21 (nV n) = some 0 ∧ cpy (nV n) = some (nV n) := by
 have hf : (nV n).Fits := qeb (by decide) hn (by decide)
 exact ⟨by rw [show q21 (nV n) = some (qf (nV n)) from q2c hf, h], q2c hf⟩
theorem qq2 : q21 uV = some 0 ∧ cpy uV = some uV := by
 have hf : uV.Fits := qeb (by decide) (by decide) (by decide)
 exact ⟨by rw [show q21 uV = some (qf uV) from q2c hf, show qf uV = 0 by decide +kernel], q2c hf⟩
theorem qq1 : q21 (Val.mk 1 1 eS [] []) = some 0 ∧ cpy (Val.mk 1 1 eS [] []) = some (Val.mk 1 1 eS [] []) := by
 have hf : (Val.mk 1 1 eS [] []).Fits := qeb (by decide) (by decide) (by decide)
 exact ⟨by rw [show q21 (Val.mk 1 1 eS [] []) = some (qf (Val.mk 1 1 eS [] [])) from q2c hf, show qf (Val.mk 1 1 eS [] []) = 0 by decide +kernel], q2c hf⟩
def bCon : ByteArray := ⟨#[99, 111, 110, 116, 97, 105, 110, 115]⟩
def bEl : ByteArray := ⟨#[101, 108, 101, 109, 101, 110, 116]⟩
theorem qdq {name : ByteArray} {l : List Val} {n : Int} {b2 : UInt8} {r v : Val} (hfind : gQ1b name = some (SpecG.mk ⟨#[108, b2]⟩ 2 2 false, true)) (hfit : gQ1d (nV n) (b2.toNat : Int) = some true)
  (happ : gQ0x name [lV l, nV n] = some (r, 0)) (hc : q21 r = some 0 ∧ cpy r = some v) : gQ0n name [lV l, nV n] = some (v, 0) := by
 unfold gQ0n
 rw [hfind, Option.bind_some]
 show q8 (gQ0o name [lV l, nV n] (SpecG.mk ⟨#[108, b2]⟩ 2 2 false, true)) 0 = _
 have f0 : gQ1d (lV l) 108 = some true := by
  unfold gQ1d
  show (gQ1q (lV l) [4]).bind _ = _
  rw [qem]; rfl
 have l0 : gQ2q (SpecG.mk ⟨#[108, b2]⟩ 2 2 false) 0 = some 108 := rfl
 have l1 : gQ2q (SpecG.mk ⟨#[108, b2]⟩ 2 2 false) 1 = some (b2.toNat : Int) := rfl
 have d0 : decide ((0 : Int) < (([lV l, nV n] : List Val).length : Int)) = true := rfl
 have d1 : decide ((1 : Int) < (([lV l, nV n] : List Val).length : Int)) = true := rfl
 have d2 : decide ((2 : Int) < (([lV l, nV n] : List Val).length : Int)) = false := rfl
 have i0 : idx [lV l, nV n] 0 = some (lV l) := rfl
 have i1 : idx [lV l, nV n] 1 = some (nV n) := rfl
 have w0 : IntKind.i64.wrap (0 + 1) = 1 := by decide
 have w1 : IntKind.i64.wrap (1 + 1) = 2 := by decide
 rw [q51 (s' := 1) (by
  unfold gQ0o
  simp only [d0, cond_true, i0, l0, f0, w0, Option.bind_some, Bool.not_true, cond_false])]
 rw [q51 (s' := 2) (by
  unfold gQ0o
  simp only [d1, cond_true, i1, l1, hfit, w1, Option.bind_some, Bool.not_true, cond_false])]
 refine q2o ?_
 unfold gQ0o
 simp only [d2, cond_false, happ, Option.bind_some, decide_true, cond_true, hc.1, hc.2, Bool.not_true]
theorem qqb : gQ0z [uV, nV 1] (nV 1) = some (Val.mk 1 1 eS [] []) := by
 unfold gQ0z
 rw [q51 (s' := (1, false)) (by
  unfold gQ10
  show (gQ0s uV (nV 1)).bind _ = _
  rw [qgw, Option.bind_some]
  show (tQ6q uV (nV 1)).bind _ = _
  rw [qna]; rfl)]
 refine q2o ?_
 unfold gQ10
 show (gQ0s (nV 1) (nV 1)).bind _ = _
 rw [qgv]; rfl
theorem qqa : gQ0z [uV, nV 1] (nV 2) = some uV := by
 unfold gQ0z
 rw [q51 (s' := (1, false)) (by
  unfold gQ10
  show (gQ0s uV (nV 2)).bind _ = _
  rw [qgw, Option.bind_some]
  show (tQ6q uV (nV 2)).bind _ = _
  rw [qna]; rfl)]
 rw [q51 (s' := (2, false)) (by
  unfold gQ10
  show (gQ0s (nV 1) (nV 2)).bind _ = _
  rw [qgv]; rfl)]
 refine q2o ?_
 rfl
theorem qh7 (l : List Val) (x : Val) {r : Val} (h : gQ0z l x = some r) : gQ0x bCon [lV l, x] = some (r, 0) := by
 unfold gQ0x
 show (gQ2o bCon [lV l, x]).bind _ = _
 have : gQ2o bCon [lV l, x] = some (r, 0) := by
  unfold gQ2o
  show (gQ0z l x).bind _ = _
  rw [h]; rfl
 rw [this]; rfl
theorem app_el : gQ0x bEl [lV [nV 1, nV 2, nV 3], nV (-1)] = some (nV 3, 0) := by kernel_rfl
theorem qpn : gQ0n ⟨#[97, 98, 115]⟩ [Val.mk 0 0 eS [] []] = some (Val.mk 0 0 eS [] [], 6) := by
 unfold gQ0n
 rw [show gQ1b ⟨#[97, 98, 115]⟩ = some (SpecG.mk ⟨#[110]⟩ 1 1 true, true) from rfl, Option.bind_some]
 show q8 (gQ0o ⟨#[97, 98, 115]⟩ [Val.mk 0 0 eS [] []] (SpecG.mk ⟨#[110]⟩ 1 1 true, true)) 0 = _
 refine q2o ?_
 unfold gQ0o
 have l0 : gQ2q (SpecG.mk ⟨#[110]⟩ 1 1 true) 0 = some 110 := rfl
 have d0 : decide ((0 : Int) < (([Val.mk 0 0 eS [] []] : List Val).length : Int)) = true := rfl
 have i0 : idx [Val.mk 0 0 eS [] []] 0 = some (Val.mk 0 0 eS [] []) := rfl
 have f0 : gQ1d (Val.mk 0 0 eS [] []) 110 = some false := by
  unfold gQ1d
  show (gQ1q (Val.mk 0 0 eS [] []) [2]).bind _ = _
  rw [qem]; rfl
 simp only [d0, cond_true, i0, l0, f0, Option.bind_some, Bool.not_false]
theorem awake18 : gQ3q = some true := by
 have y5 : gQ0n bCon [lV [uV, nV 1], nV 1] = some (Val.mk 1 1 eS [] [], 0) := qdq rfl rfl (qh7 _ _ qqb) qq1
 have y10 : gQ0n bCon [lV [uV, nV 1], nV 2] = some (uV, 0) := qdq rfl rfl (qh7 _ _ qqa) qq2
 have f2 : gQ1d (nV (-1)) ((110 : UInt8).toNat : Int) = some true := by
  unfold gQ1d
  show (gQ1q (nV (-1)) [2]).bind _ = _
  rw [qem]; rfl
 have y16 : gQ0n bEl [lV [nV 1, nV 2, nV 3], nV (-1)] = some (nV 3, 0) := qdq (b2 := 110) rfl f2 app_el (qpz (by decide +kernel) (by decide))
 have y17 := qpn
 have y18 : gQ0n ⟨#[110, 111, 112, 101]⟩ [] = some (Val.mk 0 0 eS [] [], 17) := rfl
 have y19 : gQ0l ⟨#[108, 111, 111, 107, 117, 112]⟩ = some (2, 3, true) := rfl
 unfold gQ3q
 show ((gQ0n bCon [lV [uV, nV 1], nV 1]).bind fun y5 => _) = _
 rw [y5, Option.bind_some]
 show ((gQ0n bCon [lV [uV, nV 1], nV 2]).bind fun y5 => _) = _
 rw [y10, Option.bind_some]
 show ((gQ0n bEl [lV [nV 1, nV 2, nV 3], nV (-1)]).bind fun y5 => _) = _
 rw [y16, Option.bind_some, y17, Option.bind_some, y18, Option.bind_some, y19, Option.bind_some, ql2, Option.bind_some]
 rfl
open Classical in
theorem qun (x : Val) : q1z x ≤ 100000 → tQ72 x = some (q1z x : Int) := by
 induction x using wfV.induction with
 | h x ih =>
  intro hn
  have e : tQ72 x = gQ4q (fun a0 => if relV a0 x then tQ72 a0 else none) x := q3d x ()
  rw [e]
  rw [q52] at hn ⊢
  unfold gQ4q
  have hl := qc5 x.items
  have := q1j (body := gQ4r (fun a0 => if relV a0 x then tQ72 a0 else none) x) x.items (fun i (a : Nat) => ((a : Int), (i : Int))) (fun a r => ((a + q1s r : Nat) : Int)) (fun a r => a + q1s r ≤ 100000 ∧ ∀ y ∈ r, y ∈ x.items) (s0 := (1, 0)) (a := 1) rfl ⟨hn, fun _ h => h⟩ (fun a _ => ?_) (fun i y r a hi hx _ hq => ?_)
  ·exact this
  ·simp only [gQ4r, decide_eq_false (show ¬ (x.items.length : Int) < x.items.length by omega), cond_false, q9i, Nat.add_zero]
  ·left
   obtain ⟨h1, h2⟩ := hq
   rw [q5p] at h1
   have hy := h2 y List.mem_cons_self
   refine ⟨a + q1z y, ⟨by omega, fun z hz => h2 z (List.mem_cons_of_mem _ hz)⟩, ?_, by rw [q5p, Nat.add_assoc]⟩
   simp only [gQ4r, decide_eq_true (show (i : Int) < x.items.length by omega), cond_true, qe, hx, Option.bind_some, if_pos (show relV y x from hy), ih y hy (by omega), qq hi (show x.items.length ≤ 9223372036854775807 by omega), q28 (show -9223372036854775808 ≤ (a : Int) + (q1z y : Int) by omega) (show (a : Int) + (q1z y : Int) ≤ 9223372036854775807 by omega)]
   rfl
def q3v : Nat → Val → Nat
 | 0, v => v.keys.foldl (fun n s => max n s.size) v.str.size
 | d + 1, v => v.items.foldl (fun n x => max n (q3v d x)) (v.keys.foldl (fun n s => max n s.size) v.str.size)
theorem maxI (a b : Nat) : (if (a : Int) > (b : Int) then (a : Int) else (b : Int)) = ((max b a : Nat) : Int) := by split <;> omega
open Classical in
theorem qti (x : Val) : ∀ d : Nat, d ≤ 1000 → x.Fits → tQ6w x (d : Int) = some (q3v d x : Int) := by
 induction x using wfV.induction with
 | h x ih =>
  intro d hd hf
  obtain ⟨f1, f2, f3, f4, f5, f6, f7⟩ := hf.parts
  have e : tQ6w x (d : Int) = gQ41 (fun a0 a1 => if relV a0 x then tQ6w a0 a1 else none) x (d : Int) := q3d x (d : Int)
  rw [e]
  unfold gQ41
  have hN := q2v f4 (by decide)
  have hK := q2v f5 (by decide)
  have := q1j (body := gQ42 (fun a0 a1 => if relV a0 x then tQ6w a0 a1 else none) x (d : Int)) x.keys (fun i (a : Nat) => ((a : Int), (i : Int))) (fun a r => ((match d with | 0 => r.foldl (fun n s => max n s.size) a | d + 1 => x.items.foldl (fun n y => max n (q3v d y)) (r.foldl (fun n s => max n s.size) a) : Nat) : Int)) (fun _ _ => True) (s0 := ((x.str.size : Int), 0)) (a := x.str.size) rfl trivial (fun a _ => ?_) (fun i s r a hi hx _ _ => ?_)
  ·rw [this]; cases d <;> rfl
  ·simp only [gQ42, decide_eq_false (show ¬ (x.keys.length : Int) < x.keys.length by omega), cond_false]
   cases d with
   | zero =>
    refine q2o ?_
    simp only [gQ43]
    cases decide ((0 : Int) < (x.items.length : Int)) <;> rfl
   | succ d =>
    refine q1j (body := gQ43 (fun a0 a1 => if relV a0 x then tQ6w a0 a1 else none) x ((d + 1 : Nat) : Int)) x.items (fun i (a : Nat) => ((a : Int), (i : Int))) (fun a r => .inr ((r.foldl (fun n y => max n (q3v d y)) a : Nat) : Int)) (fun a r => ∀ y ∈ r, y ∈ x.items) rfl (fun _ h => h) (fun a _ => ?_) (fun i y r a hi hx _ hq => ?_)
    ·simp only [gQ43, decide_eq_false (show ¬ (x.items.length : Int) < x.items.length by omega), cond_false]; rfl
    ·left
     have hy := hq y List.mem_cons_self
     refine ⟨max a (q3v d y), fun z hz => hq z (List.mem_cons_of_mem _ hz), ?_, rfl⟩
     simp only [gQ43, decide_eq_true (show (i : Int) < x.items.length by omega), cond_true, qe, hx, Option.bind_some, decide_eq_true (show ((d + 1 : Nat) : Int) > 0 by omega), if_pos (show relV y x from hy), qq hi (show x.items.length ≤ 9223372036854775807 by omega), show ((d + 1 : Nat) : Int) - 1 = (d : Int) by omega, q28 (show -9223372036854775808 ≤ (d : Int) by omega) (show (d : Int) ≤ 9223372036854775807 by omega), ih y hy d (by omega) (f7 y hy), maxI]
  ·left
   refine ⟨max a s.size, trivial, ?_, ?_⟩
   ·simp only [gQ42, decide_eq_true (show (i : Int) < x.keys.length by omega), cond_true, qe, hx, Option.bind_some, qq hi (show x.keys.length ≤ 9223372036854775807 by omega), maxI]
   ·cases d <;> rfl
structure Few18 (l : List Val) : Prop where
 len : l.length ≤ 70
 ck : ∀ v ∈ l, Ck v
 nodes : q1s l ≤ 100
 long : ∀ v ∈ l, q3v 32 v ≤ 300
theorem qfl {v : Val} {n : Nat} (h : q3m v n = true) : q1z v ≤ n := by
 unfold q3m at h
 simp only [Bool.and_eq_true, decide_eq_true_eq] at h
 rcases qbn v n 40 with h1 | h1 <;> omega
theorem qb1 (l : List Val) (hf : ∀ v ∈ l, v.Fits) : ∃ b, gQ3s l = some b ∧ (b = true → Few18 l) := by
 unfold gQ3s
 by_cases hl : l.length > 70
 ·exact ⟨false, by rw [decide_eq_true (show (l.length : Int) > 70 by omega)]; rfl, fun h => by cases h⟩
 rw [decide_eq_false (show ¬ (l.length : Int) > 70 by omega), cond_false]
 obtain ⟨q, h1, h2⟩ := q2p (body := gQ3t l) (fun s => ∃ i n : Nat, s = ((n : Int), (i : Int)) ∧ i ≤ l.length ∧ n ≤ 200 ∧ n + q1s (l.drop i) = q1s l ∧ ∀ v ∈ l.take i, Ck v ∧ q3v 32 v ≤ 300) (fun s => l.length - s.2.toNat) (fun q => q = true → Few18 l) (by
  rintro s ⟨i, n, rfl, hi, hn, hs, hv⟩
  rcases Nat.eq_or_lt_of_le hi with h0 | h0
  ·subst h0
   refine .inr ⟨decide ((n : Int) ≤ 100), by simp only [gQ3t, decide_eq_false (show ¬ (l.length : Int) < l.length by omega), cond_false], fun h => ?_⟩
   rw [List.drop_length, q9i] at hs
   rw [List.take_length] at hv
   have := of_decide_eq_true h
   exact ⟨by omega, fun v h => (hv v h).1, by omega, fun v h => (hv v h).2⟩
  ·by_cases h100 : (n : Int) ≤ 100
   case neg =>
    refine .inr ⟨false, by simp only [gQ3t, decide_eq_true (show (i : Int) < l.length by omega), cond_true, decide_eq_false h100, cond_false], fun h => by cases h⟩
   have hx := List.getElem?_eq_getElem h0
   have hm := List.getElem_mem h0
   have e1 : q9e l[i] 100 = some (q3m l[i] (100 : Nat)) := q2c ⟨hf _ hm, by decide, by decide⟩
   have step : gQ3t l ((n : Int), (i : Int)) = if q3m l[i] (100 : Nat) = true ∧ qf l[i] = 0 ∧ q3v 32 l[i] ≤ 300 then some (.inl (((n + q1z l[i] : Nat) : Int), ((i + 1 : Nat) : Int))) else some (.inr false) := by
    simp only [gQ3t, decide_eq_true (show (i : Int) < l.length by omega), cond_true, decide_eq_true h100, qe, hx, Option.bind_some, e1, q6k (hf _ hm), qq h0 (show l.length ≤ 9223372036854775807 by omega), show tQ6w l[i] 32 = some (q3v 32 l[i] : Int) from qti l[i] 32 (by decide) (hf _ hm)]
    by_cases c1 : q3m l[i] (100 : Nat) = true
    ·have hnn := qfl c1
     rw [c1, Bool.not_true, cond_false]
     by_cases c2 : qf l[i] = 0
     ·rw [decide_eq_true c2, Bool.not_true, cond_false]
      by_cases c3 : q3v 32 l[i] ≤ 300
      ·rw [decide_eq_false (show ¬ (q3v 32 l[i] : Int) > 300 by omega), cond_false, qun l[i] (by omega), Option.bind_some, q28 (by omega) (by omega), if_pos ⟨rfl, c2, c3⟩]; rfl
      ·rw [decide_eq_true (show (q3v 32 l[i] : Int) > 300 by omega), cond_true, if_neg (fun h => c3 h.2.2)]
     ·rw [decide_eq_false c2, Bool.not_false, cond_true, if_neg (fun h => c2 h.2.1)]
    ·rw [eq_false_of_ne_true c1, Bool.not_false, cond_true, if_neg (fun h => by cases h.1)]
   rw [step]
   by_cases hc : q3m l[i] (100 : Nat) = true ∧ qf l[i] = 0 ∧ q3v 32 l[i] ≤ 300
   ·rw [if_pos hc]
    have hnn := qfl hc.1
    refine .inl ⟨_, rfl, ⟨i + 1, n + q1z l[i], rfl, h0, by omega, ?_, fun v hm2 => ?_⟩, by simp only [Int.toNat_natCast]; omega⟩
    ·rw [List.drop_eq_getElem_cons h0, q5p] at hs; omega
    ·rw [List.take_add_one, hx] at hm2
     rcases List.mem_append.1 hm2 with hm2 | hm2
     ·exact hv v hm2
     ·have : v = l[i] := by simpa using hm2
      subst this; exact ⟨q6l (hf _ hm) hc.2.1, hc.2.2⟩
   ·rw [if_neg hc]
    exact .inr ⟨false, rfl, fun h => by cases h⟩) (0, 0) ⟨0, 0, rfl, Nat.zero_le _, by omega, by simp, by simp⟩
 exact ⟨q, h1, h2⟩
theorem Few18.args {l : List Val} (h : Few18 l) : Args l := ⟨h.len, h.ck, fun v hv => by have := qfk hv; have := h.nodes; omega⟩
end Abs
end Go.Proofs.YtagadjpmkggjdaaGreatDoor
namespace Go.Proofs.YtagadjpmkggjdaaGreatDoor
set_option linter.unusedSimpArgs false
set_option linter.unusedVariables false
namespace Abs
open Go.RowKit
def okE (e : Int) : Prop := e ≠ 17 ∧ e ≠ 18
theorem q2k {e : Int} (h : (decide (e ≠ 17) && decide (e ≠ 18)) = true) : okE e := by
 simpa [okE] using h
theorem q2j : okE 0 := q2k rfl
theorem qui (x : Val) : okE (qi x) := by
 have hv : ∀ s, okE (vtext s) := fun s => by unfold vtext okE; split <;> (try split) <;> exact q2k rfl
 have hk : ∀ (l : List ByteArray) (p : Option ByteArray), okE (q1k p l) := by
  intro l
  induction l with
  | nil => intro p; exact q2k rfl
  | cons s r ih =>
   intro p
   have e : q1k p (s :: r) = if vtext s ≠ 0 then vtext s else if (match p with | none => false | some q => !ltB q s) = true then 1 else q1k (some s) r := by cases p <;> rfl
   rw [e]
   split
   ·exact hv s
   generalize (match p with | none => false | some q => !ltB q s) = b
   cases b
   ·exact ih _
   ·exact q2k rfl
 unfold qi
 split
 ·exact q2k rfl
 split
 ·exact q2k rfl
 split
 ·exact hv _
 ·exact hk _ _
mutual
theorem qi2 : ∀ (x : Val) (lv n : Int), okE (qo x lv n).1
 | .mk k m s items keys, lv, n => by
  rw [qo]
  split
  ·exact q2k rfl
  split
  ·exact q2k rfl
  split
  ·exact qui _
  ·exact qhx items _ _
theorem qhx : ∀ (l : List Val) (lv n : Int), okE (qk l lv n).1
 | [], lv, n => by rw [qk]; exact q2j
 | x :: r, lv, n => by
  rw [qk]
  split
  ·exact qi2 x lv n
  ·exact qhx r _ _
end
theorem qmu : ∀ (l : List Val) (n : Int), okE (sumS n l).2
 | [], _ => q2j
 | v :: r, n => by
  rw [sumS]; split
  ·exact qmu r _
  ·exact q2k rfl
theorem qjh (v : Val) : ∀ (l : List Val) (i : Nat), okE (q24 v i l).2
 | [], i => by rw [q24]; exact q2k rfl
 | x :: r, i => by
  rw [q7p]
  cases ql x v
  ·cases difV x v
   ·exact q2j
   ·exact qjh v r (i + 1)
  ·exact q2j
theorem qgd {k : Int} (hk : k = 1 ∨ k = 2 ∨ k = 3) {v : Val} (h : Ck v) : okE (tocS k v).2 := by
 unfold tocS
 split
 ·exact q2j
 ·cases qat hk h with
  | unk _ h2 => rw [h2]; exact q2j
  | val _ _ _ _ hx h2 => rw [h2]; exact q2j
  | bad _ h2 => rw [h2]; exact q2k rfl
theorem qtk (m k : Val) (d : Option Val) : okE (q3w m k d).2 := by
 unfold q3w
 split
 ·exact q2j
 ·cases hasB m.keys k.str
  ·cases d with
   | none => exact q2k rfl
   | some x => exact q2j
  ·exact q2j
theorem qym (k v : Val) : okE (zipS k v).2 := by
 unfold zipS
 split
 ·exact q2k rfl
 split
 ·exact q2k rfl
 split
 ·exact q2j
 ·exact q2j
theorem qup (a b : Int) : okE (q4c a b).2 := by unfold q4c; split <;> exact q2k rfl
theorem ap_err {k : Nm} {l : List Val} (ha : Args l) (hb : arOk k l = true) : okE (apS k l).2 := by
 have h1 : (spB k).least = 1 → Ck (a0 l) := fun h => by
  obtain ⟨a, r, rfl⟩ := q5x hb h
  exact ha.ck a List.mem_cons_self
 cases k
 case nRange => show okE (if l.length = 1 then _ else _ : Val × Int).2; split <;> exact qup _ _
 case nSum => exact qmu _ _
 case nReplace =>
  show okE (q56 _ _ _).2
  unfold q56
  split
  ·exact q2k rfl
  split <;> exact q2k rfl
 case nSplit => show okE (q3z _ _).2; unfold q3z; split <;> exact q2k rfl
 case nContains => show okE (if _ then _ else _ : Val × Int).2; split <;> exact q2j
 case nDistinct => show okE (if _ then _ else _ : Val × Int).2; split <;> exact q2j
 case nFlatten =>
  show okE (if _ then _ else _ : Val × Int).2
  split
  ·exact q2j
  ·cases q1c (a0 l).items <;> exact q2j
 case nIndex =>
  show okE (if _ then _ else _ : Val × Int).2
  split
  ·exact q2j
  ·exact qjh _ _ _
 case nLookup => exact qtk _ _ _
 case nZipmap => exact qym _ _
 case nTobool => exact qgd (.inl rfl) (h1 rfl)
 case nTonumber => exact qgd (.inr (.inl rfl)) (h1 rfl)
 case nTostring => exact qgd (.inr (.inr rfl)) (h1 rfl)
 case nElement =>
  show okE (q2s _ _).2
  unfold q2s
  split
  ·exact q2k rfl
  split <;> exact q2j
 case nSlice => show okE (q57 _ _ _).2; unfold q57; split <;> exact q2k rfl
 all_goals exact q2j
theorem qr6 {r : Val × Int} (h : okE r.2) : okE (finS r).2 := by
 unfold finS
 split
 ·split
  ·exact q2j
  ·exact qi2 _ _ _
 ·exact h
theorem qpo {k : Nm} {l : List Val} (ha : Args l) (hb : arOk k l = true) : okE (q2x k l).2 := by
 unfold q2x
 split
 ·exact q2k rfl
 split
 ·exact q2j
 ·exact qr6 (ap_err ha hb)
theorem nm_mem (k : Nm) : nmB k ∈ nmL := by
 have : nmL = [nmB .nAbs, nmB .nCoalesce, nmB .nConcat, nmB .nContains, nmB .nDistinct, nmB .nElement, nmB .nEndswith, nmB .nFlatten, nmB .nIndex, nmB .nJoin, nmB .nKeys, nmB .nLength, nmB .nLookup, nmB .nLower, nmB .nMax, nmB .nMerge, nmB .nMin, nmB .nRange, nmB .nReplace, nmB .nReverse, nmB .nSlice, nmB .nSort, nmB .nSplit, nmB .nStartswith, nmB .nSum, nmB .nTobool, nmB .nTonumber, nmB .nTostring, nmB .nTrim, nmB .nUpper, nmB .nValues, nmB .nZipmap] := rfl
 rw [this]
 cases k <;> simp
theorem mem_nm {n : ByteArray} (h : n ∈ nmL) : ∃ k, n = nmB k := by
 have : nmL = [nmB .nAbs, nmB .nCoalesce, nmB .nConcat, nmB .nContains, nmB .nDistinct, nmB .nElement, nmB .nEndswith, nmB .nFlatten, nmB .nIndex, nmB .nJoin, nmB .nKeys, nmB .nLength, nmB .nLookup, nmB .nLower, nmB .nMax, nmB .nMerge, nmB .nMin, nmB .nRange, nmB .nReplace, nmB .nReverse, nmB .nSlice, nmB .nSort, nmB .nSplit, nmB .nStartswith, nmB .nSum, nmB .nTobool, nmB .nTonumber, nmB .nTostring, nmB .nTrim, nmB .nUpper, nmB .nValues, nmB .nZipmap] := rfl
 rw [this] at h
 simp only [List.mem_cons, List.not_mem_nil, or_false] at h
 rcases h with h | h | h | h | h | h | h | h | h | h | h | h | h | h | h | h | h | h | h | h | h | h | h | h | h | h | h | h | h | h | h | h <;> exact ⟨_, h⟩
theorem ar_nm (k : Nm) : gQ0l (nmB k) = some ((spB k).least, (spB k).most, true) := by
 unfold gQ0l
 rw [qe9, Option.bind_some]; rfl
theorem qov {n : ByteArray} (h : ∀ k, n ≠ nmB k) : gQ0l n = some (0, 0, false) := by
 unfold gQ0l
 rw [qj0 h, Option.bind_some]; rfl
theorem qt2 (name : ByteArray) (args : List Val) (hf : ∀ v ∈ args, v.Fits) : gQ38 name args = some true := by
 unfold gQ38
 obtain ⟨b, h1, h2⟩ := qb1 args hf
 rw [h1, Option.bind_some]
 cases b with
 | false => rw [Bool.not_false, cond_true, awake18]; rfl
 | true =>
  have ha := (h2 rfl).args
  rw [Bool.not_true, cond_false, ql2, Option.bind_some]
  have hl := qug
  have := q1j (body := gQ39 name args nmL) nmL (fun i (a : Bool) => (a, (i : Int))) (fun _ _ => true) (fun a r => (a = true → name ∈ nmL) ∧ (name ∈ nmL → a = true ∨ name ∈ r)) (s0 := (false, 0)) (a := false) rfl ⟨(fun h => by cases h), .inr⟩ (fun a hq => ?_) (fun i x r a hi hx _ hq => ?_)
  ·exact this
  ·obtain ⟨q1, q2⟩ := hq
   simp only [gQ39, decide_eq_false (show ¬ (nmL.length : Int) < nmL.length by omega), cond_false, awake18, Option.bind_some]
   rcases qfg name with ⟨k, rfl⟩ | ho
   ·obtain rfl : a = true := (q2 (nm_mem k)).elim id fun h => absurd h List.not_mem_nil
    rw [ar_nm, Option.bind_some]
    by_cases hb : arOk k args = true
    ·obtain ⟨e1, e2⟩ := qpo ha hb
     rw [q8q ha hb, Option.bind_some, decide_eq_false e1, decide_eq_false e2]
     unfold arOk at hb
     simp only [Bool.and_eq_true, decide_eq_true_eq] at hb
     rw [decide_eq_false (show ¬ (args.length : Int) < (spB k).least by omega), decide_eq_false (show ¬ (args.length : Int) > (spB k).most by omega)]; rfl
    ·have hb' := eq_false_of_ne_true hb
     rw [qar hb', Option.bind_some]
     unfold arOk at hb'
     by_cases c1 : (args.length : Int) < (spB k).least
     ·rw [decide_eq_true c1]; rfl
     ·rw [decide_eq_true (show (spB k).least ≤ (args.length : Int) by omega), Bool.true_and] at hb'
      have := of_decide_eq_false hb'
      rw [decide_eq_false c1, decide_eq_true (show (args.length : Int) > (spB k).most by omega)]; rfl
   ·obtain rfl : a = false := by
     cases a with
     | false => rfl
     | true => obtain ⟨k, hk⟩ := mem_nm (q1 rfl); exact absurd hk (ho k)
    rw [qov ho, Option.bind_some, qas ho, Option.bind_some]; rfl
  ·left
   obtain ⟨q1, q2⟩ := hq
   simp only [gQ39, decide_eq_true (show (i : Int) < nmL.length by omega), cond_true, qe, hx, Option.bind_some, qq hi (show nmL.length ≤ 9223372036854775807 by omega)]
   cases a with
   | true => exact ⟨true, ⟨q1, fun _ => .inl rfl⟩, rfl, trivial⟩
   | false =>
    refine ⟨decide (x = name), ⟨fun h => ?_, fun h => ?_⟩, rfl, trivial⟩
    ·rw [← of_decide_eq_true h]; exact List.mem_of_getElem? hx
    ·rcases q2 h with h | h
     ·cases h
     ·rcases List.mem_cons.1 h with rfl | h
      ·exact .inl (by simp)
      ·exact .inr h
end Abs
end Go.Proofs.YtagadjpmkggjdaaGreatDoor
namespace Go.Proofs.YtagadjpmkggjdaaGreatDoor
set_option linter.unusedSimpArgs false
set_option linter.unusedVariables false
namespace Abs
open Go.RowKit
theorem q98 {v : Val} (h6 : v.kind ≠ 6) (h : ∀ x ∈ v.items, q7 x = true) : q7 v = true := by
 rw [qbm, Bool.and_eq_true, decide_eq_true_eq, List.all_eq_true]
 exact ⟨h6, h⟩
theorem q5o {l : List Val} (h : ∀ x ∈ l, q7 x = true) : q7 (lV l) = true := q98 (show (4 : Int) ≠ 6 by decide) h
theorem kn_s {k n : Int} {s : ByteArray} (h : k ≠ 6) : q7 (Val.mk k n s [] []) = true := q98 h fun _ h => absurd h List.not_mem_nil
theorem kn_Z : q7 vZ = true := kn_s (by decide)
theorem kn_T (s : ByteArray) : q7 (vText s) = true := kn_s (by decide)
theorem kn_N (n : Int) : q7 (vNum n) = true := kn_s (by decide)
theorem kn_B (b : Bool) : q7 (bV b) = true := kn_s (by decide)
theorem q6p (l : List ByteArray) : q7 (lV (l.map vText)) = true := q5o fun x hx => by
 obtain ⟨s, _, rfl⟩ := List.mem_map.1 hx
 exact kn_T s
theorem qsx (a b : Int) : q7 (q4c a b).1 = true := by
 unfold q4c
 split
 ·exact kn_Z
 ·refine q5o fun x hx => ?_
  obtain ⟨i, _, rfl⟩ := List.mem_map.1 hx
  exact kn_N _
theorem qka : ∀ (l : List Val) (n : Int), q7 (sumS n l).1 = true
 | [], n => kn_N n
 | v :: r, n => by
  rw [sumS]; split
  ·exact qka r _
  ·exact kn_Z
theorem qsu {l : List Val} {v : Val} (hl : ∀ x ∈ l, q7 x = true) (hv : q7 v = true) : q7 (q3g l v) = true := by
 unfold q3g
 cases h : (l.any fun x => ql x v)
 ·rw [cond_false]
  have : (l.all fun x => difV x v) = true := by
   rw [List.any_eq_false] at h
   rw [List.all_eq_true]
   intro x hx
   have := h x hx
   rw [qd2 (hl x hx) hv] at this
   simpa using this
  rw [this]; exact kn_B _
 ·exact kn_B _
theorem qk7 : ∀ (r pre acc : List Val), (∀ x ∈ pre, q7 x = true) → (∀ x ∈ acc, q7 x = true) → (∀ x ∈ r, q7 x = true) → q7 (q29 pre acc r) = true
 | [], pre, acc, h0, h1, h2 => by rw [q29]; exact q5o h1
 | x :: r, pre, acc, h0, h1, h2 => by
  have hx := h2 x List.mem_cons_self
  rw [q8w]
  have : (pre.any fun y => !ql x y && !difV x y) = false := by
   rw [List.any_eq_false]
   intro y hy
   rw [qd2 hx (h0 y hy)]
   cases difV x y <;> decide
  rw [this, cond_false]
  refine qk7 r (pre ++ [x]) _ (fun y hy => ?_) (fun y hy => ?_) fun y hy => h2 y (List.mem_cons_of_mem _ hy)
  ·rcases List.mem_append.1 hy with hy | hy
   ·exact h0 y hy
   ·rw [List.mem_singleton.1 hy]; exact hx
  ·revert hy
   cases (pre.any fun y => ql x y)
   ·intro hy
    rcases List.mem_append.1 hy with hy | hy
    ·exact h1 y hy
    ·rw [List.mem_singleton.1 hy]; exact hx
   ·exact h1 y
theorem qrq (x : Val) : q7 x = true → ∃ z, q5l x = some z := by
 induction x using wfV.induction with
 | h x ih =>
  intro hx
  rw [q7o, if_neg (q2e hx)]
  split
  ·have key : ∀ (l : List Val), (∀ v ∈ l, v ∈ x.items) → ∃ z, q1c l = some z := by
    intro l
    induction l with
    | nil => intro _; exact ⟨[], q5k⟩
    | cons v r ihr =>
     intro hl
     obtain ⟨p, h1⟩ := ih v (hl v List.mem_cons_self) (q39 hx v (hl v List.mem_cons_self))
     obtain ⟨q, h2⟩ := ihr fun w hw => hl w (List.mem_cons_of_mem _ hw)
     exact ⟨p ++ q, by rw [q4j, h1, h2]; rfl⟩
   exact key x.items fun _ h => h
  ·exact ⟨_, rfl⟩
theorem qj5 : ∀ (l : List Val), (∀ x ∈ l, q7 x = true) → ∃ z, q1c l = some z
 | [], _ => ⟨[], q5k⟩
 | v :: r, h => by
  obtain ⟨p, h1⟩ := qrq v (h v List.mem_cons_self)
  obtain ⟨q, h2⟩ := qj5 r fun w hw => h w (List.mem_cons_of_mem _ hw)
  exact ⟨p ++ q, by rw [q4j, h1, h2]; rfl⟩
theorem qk8 {v : Val} (hv : q7 v = true) : ∀ (l : List Val) (i : Nat), (∀ x ∈ l, q7 x = true) → q7 (q24 v i l).1 = true
 | [], i, _ => by rw [q24]; exact kn_Z
 | x :: r, i, h => by
  rw [q7p, qd2 (h x List.mem_cons_self) hv]
  cases difV x v
  ·exact kn_N _
  ·exact qk8 hv r (i + 1) fun y hy => h y (List.mem_cons_of_mem _ hy)
theorem qsv : ∀ (ks : List ByteArray) (xs : List Val) (n : ByteArray), (∀ x ∈ xs, q7 x = true) → q7 (look ks xs n) = true := fun ks xs n h => by
 rcases qbu ks xs n with e | e
 ·exact h _ e
 ·rw [e]; exact kn_Z
theorem qsw {m k : Val} {d : Option Val} (hm : q7 m = true) (hk : q7 k = true) (hd : ∀ x, d = some x → q7 x = true) : q7 (q3w m k d).1 = true := by
 unfold q3w
 rw [if_neg (fun h => h.elim (q2e hm) (q2e hk))]
 cases hasB m.keys k.str
 ·cases d with
  | none => exact kn_Z
  | some x => exact hd x rfl
 ·exact qsv _ _ _ (q39 hm)
theorem qk9 {m : List (ByteArray × Val)} (hn : (m.map (·.1)).Nodup) (h : ∀ p ∈ m, q7 p.2 = true) : q7 (mapOf (qv [] m)) = true := by
 obtain ⟨_, f2, _⟩ := q90 m ([] : List (ByteArray × Val)) List.Pairwise.nil hn (fun _ _ q hq => absurd hq List.not_mem_nil)
 refine q98 (show (5 : Int) ≠ 6 by decide) fun x hx => ?_
 obtain ⟨p, hp, rfl⟩ := List.mem_map.1 (show x ∈ (qv [] m).map (·.2) from hx)
 exact h p (((f2 p).1 hp).elim (fun h => absurd h List.not_mem_nil) id)
theorem qne : ∀ (l : List Val) (acc ks : List ByteArray), (∀ x ∈ l, x.kind ≠ 6) → acc.Nodup → zipE acc l = some ks → ks = acc ++ l.map Val.str ∧ ks.Nodup
 | [], acc, ks, _, h1, h2 => by rw [zipE] at h2; obtain rfl := Option.some.inj h2; exact ⟨by simp, h1⟩
 | x :: r, acc, ks, h0, h1, h2 => by
  rw [zipE, if_neg (h0 x List.mem_cons_self)] at h2
  cases hb : hasB acc x.str with
  | true => rw [hb] at h2; cases h2
  | false =>
   rw [hb, cond_false] at h2
   have := qne r (acc ++ [x.str]) ks (fun y hy => h0 y (List.mem_cons_of_mem _ hy)) (by
    rw [List.nodup_append]
    refine ⟨h1, by simp, fun y hy z hz e => ?_⟩
    have : z = x.str := by simpa using hz
    subst this; subst e
    rw [q4k.2 hy] at hb; cases hb) h2
   exact ⟨by rw [this.1]; simp, this.2⟩
theorem qkb {k v : Val} (hk : q7 k = true) (hv : q7 v = true) (k4 : k.kind = 4 ∨ k.kind = 6) (v4 : v.kind = 4 ∨ v.kind = 6) : q7 (zipS k v).1 = true := by
 unfold zipS
 split
 ·exact kn_Z
 rename_i hd
 split
 ·exact kn_Z
 rename_i ks hz
 rw [if_neg (fun h => h.elim (fun h => by rw [hk] at h; cases h) (q2e hv))]
 have a1 := q2e hk
 have a2 := q2e hv
 have he : k.items.length = v.items.length := by
  by_cases e : k.items.length = v.items.length
  ·exact e
  ·exact absurd ⟨by omega, by omega, e⟩ hd
 obtain ⟨e, nd⟩ := qne k.items [] ks (fun x hx => q2e (q39 hk x hx)) List.nodup_nil hz
 rw [List.nil_append] at e
 have hkl : ks.length = v.items.length := by rw [e, List.length_map, he]
 exact qk9 (by rw [List.map_fst_zip (by omega)]; exact nd) fun p hp => q39 hv _ (List.of_mem_zip hp).2
theorem qls (P : Val → Prop) : ∀ (ps m : List (ByteArray × Val)), (∀ p ∈ m, P p.2) → (∀ p ∈ ps, P p.2) → ∀ p ∈ putAll m ps, P p.2
 | [], m, h, _, p, hp => h p hp
 | q :: r, m, h, h2, p, hp => qls P r (mput m q.1 q.2) (fun x hx => by
   rcases qfc x hx with rfl | hx
   ·exact h2 q List.mem_cons_self
   ·exact h x hx) (fun x hx => h2 x (List.mem_cons_of_mem _ hx)) p hp
theorem qkw (P : Val → Prop) : ∀ (l : List Val) (m : List (ByteArray × Val)), (∀ p ∈ m, P p.2) → (∀ v ∈ l, ∀ s ∈ v.items, P s) → ∀ p ∈ q4o m l, P p.2
 | [], m, h, _, p, hp => h p hp
 | v :: r, m, h, h2, p, hp => qkw P r (putAll m (v.keys.zip v.items)) (qls P _ m h fun q hq => h2 v List.mem_cons_self q.2 (List.of_mem_zip hq).2) (fun x hx => h2 x (List.mem_cons_of_mem _ hx)) p hp
theorem qud {m : List (ByteArray × Val)} {k : ByteArray} {v : Val} (h : (m.map (·.1)).Nodup) : ((mput m k v).map (·.1)).Nodup := by
 rw [qfb]
 split
 ·exact h
 ·rename_i hn
  rw [List.nodup_append]
  refine ⟨h, by simp, fun y hy z hz e => hn (qkx.2 ?_)⟩
  have : z = k := by simpa using hz
  subst this; subst e; exact hy
theorem qlr : ∀ (ps m : List (ByteArray × Val)), (m.map (·.1)).Nodup → ((putAll m ps).map (·.1)).Nodup
 | [], m, h => h
 | q :: r, m, h => qlr r (mput m q.1 q.2) (qud h)
theorem qkv : ∀ (l : List Val) (m : List (ByteArray × Val)), (m.map (·.1)).Nodup → ((q4o m l).map (·.1)).Nodup
 | [], m, h => h
 | v :: r, m, h => qkv r _ (qlr _ m h)
theorem qer {k : Int} (hk : k = 1 ∨ k = 2 ∨ k = 3) {v : Val} (c : Ck v) (h : q7 v = true) : q7 (tocS k v).1 = true := by
 unfold tocS
 split
 ·exact h
 ·cases qat hk c with
  | unk e _ => rw [e] at h; cases h
  | @val x _ _ hx2 hx3 hx h2 =>
   rw [h2]
   refine q98 (by show x.kind ≠ 6; rw [hx3]; rcases hk with rfl | rfl | rfl <;> decide) fun y hy => ?_
   have hy : y ∈ x.items := hy
   rw [hx2] at hy; exact absurd hy List.not_mem_nil
  | bad _ h2 => rw [h2]; exact kn_Z
theorem qoa {k : Nm} {l : List Val} (ha : Args l) (hb : arOk k l = true) (hf : q2i k l = true) (hk : ∀ v ∈ l, q7 v = true) : q7 (apS k l).1 = true := by
 have g0 : q7 (a0 l) = true := by
  unfold a0
  cases l with
  | nil => exact kn_Z
  | cons a r => exact hk a List.mem_cons_self
 have g1 : q7 (a1 l) = true := by
  unfold a1
  match l, hk with
  | [], _ => exact kn_Z
  | [a], _ => exact kn_Z
  | a :: b :: r, hk => exact hk b (by simp)
 have i0 := q39 g0
 have h1 : (spB k).least = 1 → Ck (a0 l) := fun h => by
  obtain ⟨a, r, rfl⟩ := q5x hb h
  exact ha.ck a List.mem_cons_self
 cases k
 case nAbs => exact kn_N _
 case nMax =>
  obtain ⟨a, r, rfl⟩ := q5x hb rfl
  show q7 (extS 1 a r) = true
  rcases qb0 1 r a with h | h
  ·rw [h]; exact hk a List.mem_cons_self
  ·exact hk _ (List.mem_cons_of_mem _ h)
 case nMin =>
  obtain ⟨a, r, rfl⟩ := q5x hb rfl
  show q7 (extS (-1) a r) = true
  rcases qb0 (-1) r a with h | h
  ·rw [h]; exact hk a List.mem_cons_self
  ·exact hk _ (List.mem_cons_of_mem _ h)
 case nRange => show q7 (if l.length = 1 then _ else _ : Val × Int).1 = true; split <;> exact qsx _ _
 case nSum => exact qka _ _
 case nEndswith => exact kn_B _
 case nStartswith => exact kn_B _
 case nJoin => exact kn_T _
 case nLower => exact kn_T _
 case nUpper => exact kn_T _
 case nTrim => exact kn_T _
 case nReplace =>
  show q7 (q56 _ _ _).1 = true
  unfold q56
  split
  ·exact kn_Z
  split
  ·exact kn_Z
  ·exact kn_T _
 case nSplit =>
  show q7 (q3z _ _).1 = true
  unfold q3z
  split
  ·exact kn_Z
  ·exact q6p _
 case nContains =>
  show q7 (if _ then _ else _ : Val × Int).1 = true
  rw [if_neg (q2e g0)]
  exact qsu i0 g1
 case nDistinct =>
  show q7 (if _ then _ else _ : Val × Int).1 = true
  rw [if_neg (q2e g0)]
  exact qk7 _ _ _ (fun _ h => absurd h List.not_mem_nil) (fun _ h => absurd h List.not_mem_nil) i0
 case nFlatten =>
  show q7 (if _ then _ else _ : Val × Int).1 = true
  rw [if_neg (q2e g0)]
  obtain ⟨z, hz⟩ := qj5 _ i0
  rw [hz]
  exact q5o (qed (fun x => q7 x = true) (fun x hx y hy => q39 hx y hy) _ z i0 hz)
 case nIndex =>
  show q7 (if _ then _ else _ : Val × Int).1 = true
  rw [if_neg (q2e g0)]
  exact qk8 g1 _ _ i0
 case nKeys => exact q6p _
 case nValues => exact q5o i0
 case nLookup => exact qsw g0 g1 fun x hx => hk x (List.mem_of_getElem? hx)
 case nZipmap =>
  obtain ⟨a, b, rfl⟩ := q43 hb rfl rfl
  exact qkb g0 g1 (qb5 (q2a hf (i := 0) rfl)).1 (q8y (q2a hf (i := 1) rfl))
 case nMerge => exact qk9 (qkv l [] List.nodup_nil) (qkw (fun x => q7 x = true) l [] (fun _ h => absurd h List.not_mem_nil) fun v hv => q39 (hk v hv))
 case nCoalesce =>
  show q7 (q3f l) = true
  rcases qdu l with h | h
  ·rw [h]; exact kn_Z
  ·exact hk _ h
 case nTobool => exact qer (.inl rfl) (h1 rfl) g0
 case nTonumber => exact qer (.inr (.inl rfl)) (h1 rfl) g0
 case nTostring => exact qer (.inr (.inr rfl)) (h1 rfl) g0
 case nConcat =>
  refine q5o fun x hx => ?_
  obtain ⟨v, hv, hx⟩ := List.mem_flatMap.1 hx
  exact q39 (hk v hv) x hx
 case nElement =>
  show q7 (q2s (a0 l) (a1 l)).1 = true
  have hne : (q2s (a0 l) (a1 l)).1 ≠ vU ∨ (q2s (a0 l) (a1 l)).1 ∈ (a0 l).items := by
   unfold q2s
   split
   ·exact .inl (fun h => by cases h)
   rw [if_neg (fun h => h.elim (q2e g0) (q2e g1))]
   show (a0 l).items.getD _ vZ ≠ vU ∨ (a0 l).items.getD _ vZ ∈ _
   rw [List.getD_eq_getElem?_getD]
   cases h : (a0 l).items[((a1 l).num % ((a0 l).items.length : Int)).toNat]? with
   | none => exact .inl (fun h => by cases h)
   | some x => exact .inr (List.mem_of_getElem? h)
  rcases qim (l := a0 l) (n := a1 l) with h | h | h
  ·rw [h]; exact kn_Z
  ·rcases hne with h2 | h2
   ·exact absurd h h2
   ·exact i0 _ h2
  ·exact i0 _ h
 case nLength => exact kn_N _
 case nReverse => exact q5o fun x hx => i0 x (List.mem_reverse.1 hx)
 case nSlice =>
  show q7 (q57 _ _ _).1 = true
  unfold q57
  split
  ·exact kn_Z
  ·exact q5o fun x hx => i0 x (List.drop_subset _ _ (List.take_subset _ _ hx))
 case nSort =>
  refine q5o fun x hx => ?_
  obtain ⟨s, hs, rfl⟩ := List.mem_map.1 hx
  exact kn_T s
theorem qfn {k : Nm} {l : List Val} (hk : ∀ v ∈ l, q7 v = true) : q1t k l = false := by
 unfold q1t
 rw [List.any_eq_false]
 rintro ⟨v, i⟩ hp
 rw [List.mem_zipIdx_iff_getElem?] at hp
 have h := hk v (List.mem_of_getElem? hp)
 simp [h, q2e h]
theorem qe7 {r : Val × Int} (hf : r.1.Fits) : (finS r).1.Fits ∧ ((finS r).2 = 0 → qf (finS r).1 = 0) ∧ (q7 r.1 = true → q7 (finS r).1 = true) := by
 unfold finS
 by_cases h : r.2 = 0
 ·rw [if_pos h]
  by_cases hc : qf r.1 = 0
  ·rw [if_pos hc]; exact ⟨hf, fun _ => hc, id⟩
  ·rw [if_neg hc]; exact ⟨q1v, fun h => absurd h hc, fun _ => kn_Z⟩
 ·rw [if_neg h]; exact ⟨q1v, fun h2 => absurd h2 h, fun _ => kn_Z⟩
theorem qhn {k : Nm} {l : List Val} (ha : Args l) (hb : arOk k l = true) : (q2x k l).1.Fits ∧ ((q2x k l).2 = 0 → qf (q2x k l).1 = 0) ∧ ((∀ v ∈ l, q7 v = true) → q7 (q2x k l).1 = true) := by
 unfold q2x
 by_cases h1 : q2i k l = false
 ·rw [if_pos h1]; exact ⟨q1v, fun h => (by cases h), fun _ => kn_Z⟩
 rw [if_neg h1]
 by_cases h2 : ((spB k).strict && q1t k l) = true
 ·rw [if_pos h2]
  refine ⟨q3n, fun _ => vU_ck.ck, fun hk => ?_⟩
  rw [qfn hk, Bool.and_false] at h2; cases h2
 rw [if_neg h2]
 obtain ⟨f1, f2, f3⟩ := qe7 (qh5 ha hb (eq_true_of_ne_false h1) (eq_false_of_ne_true h2))
 exact ⟨f1, f2, fun hk => f3 (qoa ha hb (eq_true_of_ne_false h1) hk)⟩
theorem qdo (name : ByteArray) {l : List Val} (ha : Args l) : ∃ r, gQ0n name l = some r ∧ r.1.Fits ∧ (r.2 = 0 → qf r.1 = 0) ∧ ((∀ v ∈ l, q7 v = true) → q7 r.1 = true) := by
 rcases qfg name with ⟨k, rfl⟩ | ho
 ·by_cases hb : arOk k l = true
  ·exact ⟨_, q8q ha hb, qhn ha hb⟩
  ·exact ⟨_, qar (eq_false_of_ne_true hb), q1v, fun h => (by cases h), fun _ => kn_Z⟩
 ·exact ⟨_, qas ho l, q1v, fun h => (by cases h), fun _ => kn_Z⟩
theorem qt4 (name : ByteArray) (args : List Val) (hf : ∀ v ∈ args, v.Fits) : gQ3l name args = some true := by
 unfold gQ3l
 obtain ⟨b, h1, h2⟩ := qb1 args hf
 rw [h1, Option.bind_some]
 cases b with
 | false => rw [Bool.not_false, cond_true, awake18]; rfl
 | true =>
  have ha := (h2 rfl).args
  rw [Bool.not_true, cond_false]
  have hlen := ha.len
  obtain ⟨r, r1, r2, r3, r4⟩ := qdo name ha
  have := q1j (body := gQ3m name args) args (fun i (a : Bool) => (a, (i : Int))) (fun _ _ => true) (fun a q => (a = true → (∀ v ∈ q, q7 v = true) → ∀ v ∈ args, q7 v = true) ∧ ∀ v ∈ q, v ∈ args) (s0 := (true, 0)) (a := true) rfl ⟨fun _ h => h, fun _ h => h⟩ (fun a hq => ?_) (fun i x q a hi hx _ hq => ?_)
  ·exact this
  ·simp only [gQ3m, decide_eq_false (show ¬ (args.length : Int) < args.length by omega), cond_false, awake18, Option.bind_some, r1, q6k r2, q99 _ r2]
   have hc : (bif (!decide (r.2 = 0)) then some (Sum.inr true) else bif (decide (qf r.1 = 0)) then some (.inr true) else some (.inr false)) = (some (.inr true) : Option ((Bool × Int) ⊕ Bool)) := by
    by_cases h : r.2 = 0
    ·rw [decide_eq_true h, decide_eq_true (r3 h)]; rfl
    ·rw [decide_eq_false h]; rfl
   cases a with
   | false => exact hc
   | true =>
    rw [Bool.not_true, cond_false, r4 (hq.1 rfl fun _ h => absurd h List.not_mem_nil), cond_true]
    exact hc
  ·left
   have hm := hf x (hq.2 x List.mem_cons_self)
   simp only [gQ3m, decide_eq_true (show (i : Int) < args.length by omega), cond_true, qe, hx, Option.bind_some, qq hi (show args.length ≤ 9223372036854775807 by omega), q99 _ hm]
   cases a with
   | true =>
    refine ⟨q7 x, ⟨fun h hq2 => hq.1 rfl fun v hv => ?_, fun v hv => hq.2 v (List.mem_cons_of_mem _ hv)⟩, rfl, trivial⟩
    rcases List.mem_cons.1 hv with rfl | hv
    ·exact h
    ·exact hq2 v hv
   | false => exact ⟨false, ⟨(fun h => by cases h), fun v hv => hq.2 v (List.mem_cons_of_mem _ hv)⟩, rfl, trivial⟩
end Abs
end Go.Proofs.YtagadjpmkggjdaaGreatDoor
