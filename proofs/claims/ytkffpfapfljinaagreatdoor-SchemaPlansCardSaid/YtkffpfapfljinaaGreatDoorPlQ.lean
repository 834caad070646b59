/-
  A configuration that is coerced is coerced to itself, and conforms to the type of its schema.
  The law of plans: what is accepted, and what a plan keeps.
-/
import Derived.Test.YtkffpfapfljinaaGreatDoorPlN
namespace Go.Proofs.YtkffpfapfljinaaGreatDoor
set_option linter.unusedSimpArgs false
set_option linter.unusedVariables false
namespace Abs
open Go.RowKit
theorem qve {l : List AttrG} (h : l.Pairwise fun a b => Op.bytesLess a.name.toList b.name.toList = true) {a b : AttrG} (ha : a ∈ l) (hb : b ∈ l) (e : a.name = b.name) : a = b := by
 have hr : Rising (l.map (·.name)) := q6b (List.pairwise_map.2 h)
 obtain ⟨i, hi⟩ := List.getElem?_of_mem ha
 obtain ⟨j, hj⟩ := List.getElem?_of_mem hb
 have := q7h hr (i := i) (j := j) (a := a.name) (by rw [List.getElem?_map, hi]; rfl) (by rw [List.getElem?_map, hj, e]; rfl)
 subst this
 rw [hi] at hj; exact Option.some.inj hj
theorem qpi {items : List Val} {keys : List ByteArray} (hr : Rising keys) {i : Nat} {k : ByteArray} {y : Val} (hk : keys[i]? = some k) (hy : items[i]? = some y) : getS (Val.mk 5 0 eS items keys) k = y := by
 unfold getS
 rw [if_pos (show (Val.mk 5 0 eS items keys).kind = 5 from rfl)]
 exact q4p keys items k i y hr hk hy
end Abs
end Go.Proofs.YtkffpfapfljinaaGreatDoor
namespace Go.Proofs.YtkffpfapfljinaaGreatDoor
set_option linter.unusedSimpArgs false
set_option linter.unusedVariables false
namespace Abs
open Go.RowKit
theorem qpj {s : SchemaG} (hs : SVal s) {prior c : Val} {n : ByteArray} (h : n ∈ nmS s) : getS (q1u s prior c) n = valP s prior c n := by
 obtain ⟨i, hi⟩ := List.getElem?_of_mem h
 unfold q1u
 exact qpi (qem hs.names) hi (by rw [List.getElem?_map, hi]; rfl)
theorem qn3 {s : SchemaG} (hs : SVal s) {a : AttrG} (h : a ∈ s.attrs) : a.name ∈ nmS s := (qbu hs.names a.name).2 (List.mem_append_left _ (List.mem_map.2 ⟨a, h, rfl⟩))
theorem qi1 {l : List AttrG} (h : l.Pairwise fun a b => Op.bytesLess a.name.toList b.name.toList = true) {a : AttrG} (ha : a ∈ l) : qf a.name l = (a, true) := by
 have h2 : (qf a.name l).2 = true := qd8.2 ⟨a, ha, rfl⟩
 obtain ⟨h3, h4⟩ := qac h2
 exact Prod.ext (qve h h3 ha h4) h2
theorem qii {v : Val} (h : q18 v = true) (n : ByteArray) : q18 (getS v n) = true := by
 unfold getS
 split
 ·rcases q8h v.keys v.items n with k | k
  ·exact qq9 h _ k
  ·rw [k]; rfl
 ·rfl
def cfgA (c : Val) (a : AttrG) : Prop := a.mode ≠ 3 ∧ (a.mode ≠ 4 ∨ (getS c a.name).kind ≠ 0)
theorem qt1 {s : SchemaG} (hs : SVal s) {prior c : Val} (hp : Ck prior) (h5 : prior.kind = 5) (hk : prior.keys = nmS s) (hn : q18 prior = true)
  (ha : ∀ a ∈ s.attrs, cfgA c a → getS c a.name = getS prior a.name) (hb : ∀ n ∈ s.nested, getS c n.name = getS prior n.name) : q1u s prior c = prior ∧ chS s prior prior = [] := by
 have hcfg : ∀ n ∈ nmS s, cfgS s c n = true → getS c n = getS prior n := by
  intro n hnm h
  rcases List.mem_append.1 ((qbu hs.names n).1 hnm) with k | k
  ·obtain ⟨a, ham, rfl⟩ := List.mem_map.1 k
   refine ha a ham ?_
   unfold cfgS at h
   rw [qi1 hs.names.ra ham] at h
   simp only [Bool.not_true, Bool.false_or, Bool.or_eq_true, decide_eq_true_eq, Bool.and_eq_true, Bool.not_eq_true', decide_eq_false_iff_not] at h
   unfold cfgA
   rcases h with h | h | h
   ·exact ⟨by omega, .inl (by omega)⟩
   ·exact ⟨by omega, .inl (by omega)⟩
   ·exact ⟨by omega, .inr h.2⟩
  ·obtain ⟨m, hm, rfl⟩ := List.mem_map.1 k
   exact hb m hm
 have hany : anyC s prior c = false := by
  unfold anyC
  rw [List.any_eq_false]
  intro n hnm
  unfold chg
  cases e : cfgS s c n with
  | false => simp
  | true => rw [hcfg n hnm e, qa6 (qii hn n)]; decide
 have hval : ∀ n ∈ nmS s, valP s prior c n = getS prior n := by
  intro n hnm
  unfold valP
  by_cases e : cfgS s c n = true
  ·rw [if_pos e, hcfg n hnm e]
  ·rw [if_neg e, if_neg (by omega), hany, if_neg (by simp)]
 obtain ⟨s0, s1, s2, s3, s4, s5, s6, s7⟩ := hp.ok.shape
 have hl : prior.items.length = (nmS s).length := by rw [← hk]; exact (s6 h5).symm
 constructor
 ·unfold q1u
  rw [List.map_congr_left hval]
  refine qbw h5.symm (s2 (by omega) (by omega)).symm (s4 (by omega)).symm (q76 (by simp [hl]) fun i hi => ?_) hk.symm
  have hi2 : i < (nmS s).length := by simpa using hi
  show ((nmS s).map (getS prior))[i]? = prior.items[i]?
  rw [List.getElem?_map, List.getElem?_eq_getElem hi2, Option.map_some]
  have hx := List.getElem?_eq_getElem (show i < prior.items.length by omega)
  rw [hx]
  unfold getS
  rw [if_pos h5, q4p prior.keys prior.items _ i _ hp.ok.rising (by rw [hk, List.getElem?_eq_getElem hi2]) hx]
 ·unfold chS
  rw [List.filter_eq_nil_iff]
  intro n _
  rw [qa6 (qii hn n)]; decide
theorem qlv {s : SchemaG} (hs : SVal s) {prior v final : Val} (hp : Ck prior) (hv : v.Fits) (hF : final.Fits) (hfull : prior.kind ≠ 0 → prior.kind = 5 ∧ prior.keys = nmS s) : gQ0x s prior v final false = some true := by
 have hf := hs.fits
 have hla := hs.few.la
 have hln := hs.few.ln
 unfold gQ0x
 rw [cond_false, q9e hs hv, Option.bind_some]
 by_cases h : (q21 s v).2.kind = 0
 case neg => rw [decide_eq_false h, Bool.not_false, cond_true, awake12]; rfl
 obtain ⟨vs, hc⟩ := qcs hs hv h
 have hm : Mok (q21 s v).1 := by rw [hc.res]; exact hc.out.ok.mok
 have hpm := qkp hs hp.ok.mok hm
 rw [decide_eq_true h, Bool.not_true, cond_false, qc7 hs hp.ok.mok hm, Option.bind_some]
 generalize q21 s v = y3 at hm hpm ⊢
 have hJ : ∀ z, gQ5c s (q1u s prior y3.1) final = some z → gQ0z s prior final y3 (q1u s prior y3.1) z = some true := by
  intro z hz
  unfold gQ0z
  rw [hz, Option.bind_some, beq_self_eq_true, Bool.not_true, cond_false]
  refine qe6 s.attrs.length true (fun i h0 => ?_) ?_
  ·have hx := List.getElem?_eq_getElem h0
   have w := qk h0 (show s.attrs.length ≤ 9223372036854775807 by omega)
   have hmem : s.attrs[i] ∈ s.attrs := List.getElem_mem h0
   unfold gQ14
   rw [decide_eq_true (show (i : Int) < s.attrs.length by omega), cond_true, qc, hx, Option.bind_some]
   generalize s.attrs[i] = a at hmem
   have hJ4 : gQ10 (i : Int) false = some (.inl ((i + 1 : Nat) : Int)) := by unfold gQ10; rw [cond_false, w]
   by_cases h3 : a.mode = 3
   case neg => rw [decide_eq_false h3, cond_false, hJ4]
   rw [decide_eq_true h3, cond_true]
   cases hvol : a.volatile with
   | true => rw [Bool.not_true, cond_false, hJ4]
   | false =>
    rw [Bool.not_false, cond_true]
    by_cases h0 : prior.kind = 0
    ·rw [decide_eq_true h0, Bool.not_true, cond_false, hJ4]
    ·rw [decide_eq_false h0, Bool.not_false, cond_true, q26 hpm, Option.bind_some, q26 hp.ok.mok, Option.bind_some, q69 (q37 hpm _), Option.bind_some]
     have e : getS (q1u s prior y3.1) a.name = getS prior a.name := by
      rw [qpj hs (qn3 hs hmem)]
      unfold valP cfgS
      rw [qi1 hs.names.ra hmem]
      simp only [h3, hvol]
      rw [if_neg (by simp), if_neg h0, if_neg (by simp)]
     rw [q2u.2 e, Bool.not_true, hJ4]
  ·unfold gQ14
   rw [decide_eq_false (by omega), cond_false]
   by_cases h0 : prior.kind = 0
   ·rw [decide_eq_true h0, Bool.not_true, cond_false]
    refine qe6 s.attrs.length (Sum.inr true) (fun i h0 => ?_) ?_
    ·have hx := List.getElem?_eq_getElem h0
     have w := qk h0 (show s.attrs.length ≤ 9223372036854775807 by omega)
     unfold gQ17
     rw [decide_eq_true (show (i : Int) < s.attrs.length by omega), cond_true]
     simp only [qc, hx, Option.bind_some, q26 hm]
     have hJ : ∀ b, gQ0y (i : Int) b = some (.inl ((i + 1 : Nat) : Int)) := fun b => by unfold gQ0y; rw [w]; cases b <;> rfl
     rw [hJ, hJ, hJ]
     cases (!decide (s.attrs[i].mode = 3)) <;> cases (!decide (s.attrs[i].mode = 4)) <;> rfl
    ·unfold gQ17
     rw [decide_eq_false (by omega), cond_false]
     refine qe6 s.nested.length (Sum.inr (Sum.inr true)) (fun i h0 => ?_) ?_
     ·unfold gQ13
      rw [decide_eq_true (show (i : Int) < s.nested.length by omega), cond_true, qk h0 (show s.nested.length ≤ 9223372036854775807 by omega)]
     ·unfold gQ13
      rw [decide_eq_false (by omega), cond_false, awake12]; rfl
   ·rw [decide_eq_false h0, Bool.not_false, cond_true, q8f _ hp.ok.1, Option.bind_some]
    obtain ⟨h5, hk⟩ := hfull h0
    have l7 : ∀ b, (b = true → q18 prior = true ∧ ∀ a ∈ s.attrs, cfgA y3.1 a → getS y3.1 a.name = getS prior a.name) → qb (gQ16 s prior y3 (q1u s prior y3.1)) (b, 0) = some (.inr (.inr true)) := by
     intro b hb
     obtain ⟨q, q1, rfl⟩ := q13 (body := gQ16 s prior y3 (q1u s prior y3.1)) (fun t => ∃ (b : Bool) (i : Nat), t = (b, (i : Int)) ∧ i ≤ s.nested.length ∧ (b = true → (q18 prior = true ∧ ∀ a ∈ s.attrs, cfgA y3.1 a → getS y3.1 a.name = getS prior a.name) ∧ ∀ (j : Nat) n, j < i → s.nested[j]? = some n → getS y3.1 n.name = getS prior n.name)) (fun t => s.nested.length - t.2.toNat) (fun q => q = .inr (.inr true)) (by
      rintro t ⟨b, i, rfl, hi, hb⟩
      rcases Nat.eq_or_lt_of_le hi with e0 | e0
      ·subst e0
       refine .inr ⟨_, ?_, rfl⟩
       unfold gQ16
       simp only [decide_eq_false (show ¬ (s.nested.length : Int) < s.nested.length by omega), cond_false]
       have hJ8 : gQ12 false = some (.inr (.inr (.inr true))) := by unfold gQ12; rw [cond_false, awake12]; rfl
       cases b with
       | false => rw [cond_false, hJ8]
       | true =>
        obtain ⟨⟨k1, k2⟩, k3⟩ := hb rfl
        obtain ⟨p1, p2⟩ := qt1 (c := y3.1) hs hp h5 hk k1 k2 (fun n hn => by
         obtain ⟨j, hj⟩ := List.getElem?_of_mem hn
         exact k3 j n (List.getElem?_eq_some_iff.1 hj).1 hj)
        rw [cond_true, qa9 hpm.fits, q2u.2 p1, Option.bind_some, Bool.not_true, cond_false, q7t hs.names hf hp.ok.mok hpm, Option.bind_some, p1, p2, decide_eq_true (by rfl), Bool.not_true, hJ8]
      ·have hx := List.getElem?_eq_getElem e0
       have w := qk e0 (show s.nested.length ≤ 9223372036854775807 by omega)
       cases b with
       | false =>
        refine .inl ⟨(false, ((i + 1 : Nat) : Int)), ?_, ⟨false, i + 1, rfl, e0, fun k => by cases k⟩, by simp only [Int.toNat_natCast]; omega⟩
        unfold gQ16
        simp only [decide_eq_true (show (i : Int) < s.nested.length by omega), cond_true, cond_false, w]
       | true =>
        obtain ⟨k1, k3⟩ := hb rfl
        refine .inl ⟨(eqB (getS y3.1 s.nested[i].name) (getS prior s.nested[i].name), ((i + 1 : Nat) : Int)), ?_, ⟨_, i + 1, rfl, e0, fun k => ⟨k1, fun j n hj hn => ?_⟩⟩, by simp only [Int.toNat_natCast]; omega⟩
        ·unfold gQ16
         simp only [decide_eq_true (show (i : Int) < s.nested.length by omega), cond_true, qc, hx, Option.bind_some, q26 hm, q26 hp.ok.mok, qa9 (q37 hm _), w]
        ·rcases Nat.eq_or_lt_of_le (Nat.le_of_lt_succ hj) with rfl | hj
         ·rw [hx] at hn; cases hn; exact q2u.1 k
         ·exact k3 j n hj hn) (b, 0) ⟨b, 0, rfl, Nat.zero_le _, fun k => ⟨hb k, fun j n hj => by omega⟩⟩
     exact q1
    obtain ⟨q, q1, rfl⟩ := q13 (body := gQ15 s prior y3 (q1u s prior y3.1)) (fun t => ∃ (b : Bool) (i : Nat), t = (b, (i : Int)) ∧ i ≤ s.attrs.length ∧ (b = true → q18 prior = true ∧ ∀ (j : Nat) a, j < i → s.attrs[j]? = some a → cfgA y3.1 a → getS y3.1 a.name = getS prior a.name)) (fun t => s.attrs.length - t.2.toNat) (fun q => q = .inr true) (by
      rintro t ⟨b, i, rfl, hi, hb⟩
      rcases Nat.eq_or_lt_of_le hi with e0 | e0
      ·subst e0
       refine .inr ⟨_, ?_, rfl⟩
       unfold gQ15
       simp only [decide_eq_false (show ¬ (s.attrs.length : Int) < s.attrs.length by omega), cond_false]
       exact l7 b fun k => ⟨(hb k).1, fun a ha => by
        obtain ⟨j, hj⟩ := List.getElem?_of_mem ha
        exact (hb k).2 j a (List.getElem?_eq_some_iff.1 hj).1 hj⟩
      ·have hx := List.getElem?_eq_getElem e0
       have w := qk e0 (show s.attrs.length ≤ 9223372036854775807 by omega)
       have go : ∀ z : Bool, (z = true ↔ cfgA y3.1 s.attrs[i]) → ∃ b', gQ11 s prior (getS y3.1 s.attrs[i].name) (b, (i : Int)) z = some (.inl (b', ((i + 1 : Nat) : Int))) ∧ (b' = true → q18 prior = true ∧ ∀ (j : Nat) a, j < i + 1 → s.attrs[j]? = some a → cfgA y3.1 a → getS y3.1 a.name = getS prior a.name) := by
        intro z hz
        unfold gQ11
        cases z with
        | false =>
         refine ⟨b, by rw [cond_false, w], fun k => ⟨(hb k).1, fun j a hj ha hcf => ?_⟩⟩
         rcases Nat.eq_or_lt_of_le (Nat.le_of_lt_succ hj) with rfl | hj
         ·rw [hx] at ha; cases ha
          exact absurd (hz.2 hcf) (by simp)
         ·exact (hb k).2 j a hj ha hcf
        | true =>
         cases b with
         | false => exact ⟨false, by simp only [cond_true, cond_false, w], fun k => by cases k⟩
         | true =>
          refine ⟨eqB (getS y3.1 s.attrs[i].name) (getS prior s.attrs[i].name), by simp only [cond_true, qc, hx, Option.bind_some, q26 hp.ok.mok, qa9 (q37 hm _), w], fun k => ⟨(hb rfl).1, fun j a hj ha hcf => ?_⟩⟩
          rcases Nat.eq_or_lt_of_le (Nat.le_of_lt_succ hj) with rfl | hj
          ·rw [hx] at ha; cases ha
           exact q2u.1 k
          ·exact (hb rfl).2 j a hj ha hcf
       have step : ∃ b', gQ15 s prior y3 (q1u s prior y3.1) (b, (i : Int)) = some (.inl (b', ((i + 1 : Nat) : Int))) ∧ (b' = true → q18 prior = true ∧ ∀ (j : Nat) a, j < i + 1 → s.attrs[j]? = some a → cfgA y3.1 a → getS y3.1 a.name = getS prior a.name) := by
        unfold gQ15
        simp only [decide_eq_true (show (i : Int) < s.attrs.length by omega), cond_true, qc, hx, Option.bind_some, q26 hm]
        by_cases h3 : s.attrs[i].mode = 3
        ·rw [decide_eq_true h3, Bool.not_true, cond_false]
         exact go false ⟨(fun k => by cases k), fun k => absurd h3 k.1⟩
        rw [decide_eq_false h3, Bool.not_false, cond_true]
        by_cases h4 : s.attrs[i].mode = 4
        ·rw [decide_eq_true h4, Bool.not_true, cond_false]
         refine go _ ?_
         unfold cfgA
         simp [h3, h4]
        ·rw [decide_eq_false h4, Bool.not_false, cond_true]
         exact go true ⟨fun _ => ⟨h3, .inl h4⟩, fun _ => rfl⟩
       obtain ⟨b', e1, e2⟩ := step
       exact .inl ⟨_, e1, ⟨b', i + 1, rfl, e0, e2⟩, by simp only [Int.toNat_natCast]; omega⟩) (q18 prior, 0) ⟨_, 0, rfl, Nat.zero_le _, fun k => ⟨k, fun j n hj => by omega⟩⟩
    exact q1
 have hA : gQ5c s (q1u s prior y3.1) final = (q28 final).bind fun y1 => bif (decide (y1 = 0)) then (tQb0 final).bind fun b3 => bif b3 then (gQ69 s).bind fun y5 => (tQar final y5).bind fun y6 => bif y6 then (tQb3 final (q1u s prior y3.1)).bind fun y8 => some (y8) else some (false) else some (false) else some (false) := rfl
 rw [qea hF, Option.bind_some] at hA ⊢
 by_cases h1 : qz final = 0
 case neg =>
  rw [decide_eq_false h1, cond_false] at hA ⊢
  exact hJ false hA
 rw [decide_eq_true h1, cond_true, q8f final hF, Option.bind_some] at hA ⊢
 cases hk : q18 final with
 | false => rw [hk, cond_false] at hA; rw [cond_false]; exact hJ false hA
 | true =>
  obtain ⟨q, q1, q2⟩ := qm4 final (tyOf (typL s)) hF
  rw [hk, cond_true, q7w s hs.names hf, Option.bind_some, q1, Option.bind_some] at hA
  rw [cond_true, q7w s hs.names hf, Option.bind_some, q1, Option.bind_some]
  cases q with
  | false => rw [cond_false] at hA ⊢; exact hJ false hA
  | true =>
   obtain ⟨r, r1, r2⟩ := qm7 final (q1u s prior y3.1) hF
   rw [cond_true, r1, Option.bind_some] at hA ⊢
   exact hJ r hA
theorem qqh (s : SchemaG) (prior v final : Val) (hf : q2a s) (hp : prior.Fits) (hv : v.Fits) (hF : final.Fits) : gQ0w s prior v final = some true := by
 unfold gQ0w
 obtain ⟨b, b1, b2⟩ := q99 s hf
 rw [b1, Option.bind_some]
 have hT : gQ0x s prior v final true = some true := by unfold gQ0x; rw [cond_true, awake12]; rfl
 cases b with
 | false => rw [Bool.not_false, cond_true, hT]
 | true =>
  have hs := b2 rfl
  rw [Bool.not_true, cond_false]
  obtain ⟨c, c1, c2⟩ := q6c hp
  rw [c1, Option.bind_some]
  cases c with
  | false => rw [Bool.not_false, cond_true, hT]
  | true =>
   have hP := c2 rfl
   rw [Bool.not_true, cond_false]
   obtain ⟨d, d1, d2⟩ := q6c hv
   rw [d1, Option.bind_some]
   cases d with
   | false => rw [Bool.not_false, cond_true, hT]
   | true =>
    rw [Bool.not_true, cond_false, qjv hF, Option.bind_some]
    cases q4w final 150 with
    | false => rw [Bool.not_false, cond_true, hT]
    | true =>
     rw [Bool.not_true, cond_false]
     by_cases h0 : prior.kind = 0
     ·rw [decide_eq_true h0, Bool.not_true, cond_false]
      exact qlv hs hP hv hF fun k => absurd h0 k
     ·rw [decide_eq_false h0, Bool.not_false, cond_true]
      obtain ⟨e, e1, e2⟩ := qih hs prior
      rw [e1, Option.bind_some]
      cases e with
      | false => rw [Bool.not_false, hT]
      | true => exact qlv hs hP hv hF fun _ => e2 rfl
end Abs
end Go.Proofs.YtkffpfapfljinaaGreatDoor
