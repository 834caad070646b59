/-
  With refined arguments the operators return refined values or errors; errors remain errors.
-/
import Derived.Test.YtjfcgdablmjmnaaGreatDoorPlP
namespace Go.Proofs.YtjfcgdablmjmnaaGreatDoor
set_option linter.unusedSimpArgs false
set_option linter.unusedVariables false
namespace Abs
open Go.RowKit
/-- What a call with refined arguments comes to. -/
structure Mono (r r' : Val × Int) : Prop where
  err : r.2 ≠ 0 → r'.2 ≠ 0
  ok : r.2 = 0 → r'.2 = 0 → Refs r'.1 r.1
theorem mono_refl (r : Val × Int) : Mono r r := ⟨id, fun _ _ => Refs.refl _⟩
theorem mono_unk (r : Val × Int) : Mono (vU, 0) r := ⟨fun h => absurd rfl h, fun _ _ => .unk rfl⟩
theorem mono_err {r : Val × Int} {x : Val} {e : Int} (h : e ≠ 0) : Mono r (x, e) := ⟨fun _ => h, fun _ k => absurd k h⟩
theorem mono_bad {e e' : Int} {x x' : Val} (h : e ≠ 0) (h' : e' ≠ 0) : Mono (x, e) (x', e') := mono_err h'
theorem mono_val {x x' : Val} (h : Refs x' x) : Mono (x, 0) (x', 0) := ⟨fun k => absurd rfl k, fun _ _ => h⟩
/-- A conversion's result. -/
def Fm (q : Val × Int) : Prop := q = (vU, 0) ∨ q = (vZ, 6) ∨ ∃ z : Val, q = (z, 0) ∧ z.kind ≠ 6
theorem fm_cv {k : Int} (hk : k = 1 ∨ k = 2 ∨ k = 3) {v : Val} (h : Ck v) : Fm (cvS k v) := by
  cases cvS_cases hk h with
  | unk _ e => exact .inl e
  | bad _ e => exact .inr (.inl e)
  | @val x _ _ _ e4 _ e => exact .inr (.inr ⟨x, e, by omega⟩)
/-- The conversion of a refined value: the former one was unknown, or it is the same. -/
def RC (q q' : Val × Int) : Prop := q = (vU, 0) ∨ q' = q
theorem cv_col {k : Int} (hk : k = 1 ∨ k = 2 ∨ k = 3) {v : Val} (h : Ck v) (hv : v.kind = 4 ∨ v.kind = 5) : cvS k v = (vZ, 6) := by
  cases cvS_cases hk h with
  | unk e _ => rw [e] at hv; simp at hv
  | bad _ e => exact e
  | @val x e1 e2 e3 e4 e5 e6 =>
    exfalso
    unfold cvS at e6
    rw [if_neg (by omega)] at e6
    rcases hk with rfl | rfl | rfl
    · rw [toS_bool v (by omega) (by omega)] at e6
      exact (toBool_prim.eq h.ok.1).2.2.2.2 hv (by rw [e6])
    · rw [toS_num v (by omega) (by omega)] at e6
      exact (toNumber_prim.eq h.ok.1).2.2.2.2 hv (by rw [e6])
    · rw [toS_str v (by omega) (by omega)] at e6
      exact (toString_prim.eq h.ok.1).2.2.2.2 hv (by rw [e6])
theorem rc_cv {k : Int} (hk : k = 1 ∨ k = 2 ∨ k = 3) {y v : Val} (hy : Ck y) (hv : Ck v) (hr : Refs y v) : RC (cvS k v) (cvS k y) := by
  by_cases h6 : v.kind = 6
  · left
    rw [vU_of hv.ok h6]; exact cvS_U k
  right
  obtain ⟨a1, a2, a3, a4, a5, a6⟩ := refs_inv hr h6
  by_cases hc : v.kind = 4 ∨ v.kind = 5
  · rw [cv_col hk hv hc, cv_col hk hy (by omega)]
  · have hi := hv.ok.shape.2.2.2.2.2.1 (by omega) (by omega)
    have : y = v := val_ext a1 a2 a3 (by rw [hi] at a5 ⊢; exact List.length_eq_zero_iff.1 (by simpa using a5)) a4
    rw [this]
theorem then_mono {q q' : Val × Int} (hq : Fm q) (hr : RC q q') {f g : Val → Val × Int} (h : ∀ x, Mono (f x) (g x)) : Mono (thenS q f) (thenS q' g) := by
  rcases hr with rfl | rfl
  · exact mono_unk _
  rcases hq with e | e | ⟨z, e, hz⟩
  · rw [e]; exact mono_unk _
  · rw [e]; exact mono_err (by decide)
  · rw [e, thenS_val hz, thenS_val hz]; exact h z
theorem attr_mono {y v : Val} (hr : Refs y v) (n : ByteArray) : Mono (attrS v n) (attrS y n) := by
  unfold attrS
  by_cases h6 : v.kind = 6
  · rw [if_pos h6]; exact mono_unk _
  obtain ⟨a1, a2, a3, a4, a5, a6⟩ := refs_inv hr h6
  rw [if_neg h6, if_neg (show ¬ y.kind = 6 by omega)]
  by_cases h5 : v.kind = 5
  · rw [if_pos h5, if_pos (show y.kind = 5 by omega), a4]
    split
    · exact mono_val (look_refs _ _ _ _ a5 a6)
    · exact mono_refl _
  · rw [if_neg h5, if_neg (show ¬ y.kind = 5 by omega)]; exact mono_refl _
theorem index_mono {y v k k' : Val} (hk : Ck k) (hk' : Ck k') (hr : Refs y v) (hrk : Refs k' k) : Mono (indexS v k) (indexS y k') := by
  unfold indexS
  by_cases h6 : v.kind = 6
  · rw [if_pos h6]; exact mono_unk _
  obtain ⟨a1, a2, a3, a4, a5, a6⟩ := refs_inv hr h6
  rw [if_neg h6, if_neg (show ¬ y.kind = 6 by omega)]
  by_cases h4 : v.kind = 4
  · rw [if_pos h4, if_pos (show y.kind = 4 by omega)]
    refine then_mono (fm_cv (.inr (.inl rfl)) hk) (rc_cv (.inr (.inl rfl)) hk' hk hrk) fun x => ?_
    rw [show (y.items.length : Int) = v.items.length by rw [a5]]
    split
    · exact mono_refl _
    · rename_i hx
      have hi : x.num.toNat < v.items.length := by omega
      have hj : x.num.toNat < y.items.length := by omega
      rw [List.getElem?_eq_getElem hi, List.getElem?_eq_getElem hj]
      exact mono_val (a6 _ _ _ (List.getElem?_eq_getElem hj) (List.getElem?_eq_getElem hi))
  rw [if_neg h4, if_neg (show ¬ y.kind = 4 by omega)]
  by_cases h5 : v.kind = 5
  · rw [if_pos h5, if_pos (show y.kind = 5 by omega)]
    exact then_mono (fm_cv (.inr (.inr rfl)) hk) (rc_cv (.inr (.inr rfl)) hk' hk hrk) fun x => attr_mono hr _
  · rw [if_neg h5, if_neg (show ¬ y.kind = 5 by omega)]; exact mono_refl _
theorem unary_mono {y v : Val} (hv : Ck v) (hy : Ck y) (hr : Refs y v) (op : Int) : Mono (unaryS op v) (unaryS op y) := by
  unfold unaryS
  split
  · exact then_mono (fm_cv (.inl rfl) hv) (rc_cv (.inl rfl) hy hv hr) fun x => mono_refl _
  split
  · exact then_mono (fm_cv (.inr (.inl rfl)) hv) (rc_cv (.inr (.inl rfl)) hy hv hr) fun x => mono_refl _
  · exact mono_refl _
def logicL (x y : Val × Int) (stop : Int) : Val × Int :=
  if x.2 ≠ 0 then (vZ, x.2) else if y.2 ≠ 0 then (vZ, y.2)
  else if (x.1.kind ≠ 6 ∧ x.1.num = stop) ∨ (y.1.kind ≠ 6 ∧ y.1.num = stop) then (bV (decide (stop = 1)), 0)
  else if x.1.kind = 6 ∨ y.1.kind = 6 then (vU, 0) else (bV (decide (stop = 0)), 0)
theorem logicL_bad2 {x : Val × Int} (hx : Fm x) (stop : Int) : (logicL x (vZ, 6) stop).2 ≠ 0 := by
  unfold logicL
  rcases hx with e | e | ⟨z, e, hz⟩ <;> rw [e] <;> simp
theorem logicL_bad1 (y : Val × Int) (stop : Int) : (logicL (vZ, 6) y stop).2 ≠ 0 := by
  unfold logicL; simp
theorem logic_mono {x x' y y' : Val × Int} (fx : Fm x) (fx' : Fm x') (fy : Fm y) (fy' : Fm y') (rx : RC x x') (ry : RC y y') (stop : Int) : Mono (logicL x y stop) (logicL x' y' stop) := by
  rcases fx with ex | ex | ⟨z, ex, hz⟩
  · -- the first is unknown
    rcases fy with ey | ey | ⟨u, ey, hu⟩
    · rw [ex, ey, show logicL (vU, 0) (vU, 0) stop = (vU, 0) by unfold logicL; simp]; exact mono_unk _
    · rcases ry with e | e
      · rw [ey] at e; cases e
      · rw [e, ey]
        exact ⟨fun _ => logicL_bad2 fx' stop, fun h _ => absurd h (by rw [ex]; exact logicL_bad2 (.inl rfl) stop)⟩
    · rcases ry with e | e
      · rw [ey] at e; cases e; exact absurd rfl hu
      rw [e, ey, ex]
      by_cases g : u.num = stop
      · rcases fx' with e' | e' | ⟨z', e', hz'⟩
        · rw [e']; exact mono_refl _
        · rw [e']
          exact ⟨fun h => absurd (show (logicL (vU, 0) (u, 0) stop).2 = 0 by unfold logicL; simp [hu, g]) h, fun _ h => absurd h (logicL_bad1 _ _)⟩
        · rw [e', show logicL (z', 0) (u, 0) stop = logicL (vU, 0) (u, 0) stop by unfold logicL; simp [hu, hz', g]]; exact mono_refl _
      · rw [show logicL (vU, 0) (u, 0) stop = (vU, 0) by unfold logicL; simp [hu, g]]; exact mono_unk _
  · rcases rx with e | e
    · rw [ex] at e; cases e
    · rw [e, ex]
      exact ⟨fun _ => logicL_bad1 _ _, fun h _ => absurd h (logicL_bad1 _ _)⟩
  · rcases rx with e | e
    · rw [ex] at e; cases e; exact absurd rfl hz
    rw [e, ex]
    rcases fy with ey | ey | ⟨u, ey, hu⟩
    · rw [ey]
      by_cases g : z.num = stop
      · rcases fy' with e' | e' | ⟨u', e', hu'⟩
        · rw [e']; exact mono_refl _
        · rw [e']
          exact ⟨fun h => absurd (show (logicL (z, 0) (vU, 0) stop).2 = 0 by unfold logicL; simp [hz, g]) h, fun _ h => absurd h (logicL_bad2 (.inr (.inr ⟨z, rfl, hz⟩)) _)⟩
        · rw [e', show logicL (z, 0) (u', 0) stop = logicL (z, 0) (vU, 0) stop by unfold logicL; simp [hu', hz, g]]; exact mono_refl _
      · rw [show logicL (z, 0) (vU, 0) stop = (vU, 0) by unfold logicL; simp [hz, g]]; exact mono_unk _
    · rcases ry with e | e
      · rw [ey] at e; cases e
      · rw [e]; exact mono_refl _
    · rcases ry with e | e
      · rw [ey] at e; cases e; exact absurd rfl hu
      · rw [e]; exact mono_refl _
noncomputable def numL (op : Int) (x y : Val × Int) : Val × Int :=
  if x.2 ≠ 0 then (vZ, x.2) else if y.2 ≠ 0 then (vZ, y.2)
  else if x.1.kind = 6 ∨ y.1.kind = 6 then (vU, 0)
  else if op ≤ 10 then (bV (cmpS op x.1.num y.1.num), 0)
  else if (ariS op x.1.num y.1.num).2 ≠ 0 then (vZ, (ariS op x.1.num y.1.num).2) else (vNum (ariS op x.1.num y.1.num).1, 0)
theorem num_mono {x x' y y' : Val × Int} (fx : Fm x) (fx' : Fm x') (fy : Fm y) (fy' : Fm y') (rx : RC x x') (ry : RC y y') (op : Int) : Mono (numL op x y) (numL op x' y') := by
  have bad1 : ∀ y, (numL op (vZ, 6) y).2 ≠ 0 := fun y => by unfold numL; simp
  have bad2 : ∀ x, Fm x → (numL op x (vZ, 6)).2 ≠ 0 := fun x hx => by
    unfold numL
    rcases hx with e | e | ⟨z, e, hz⟩ <;> rw [e] <;> simp
  rcases fx with ex | ex | ⟨z, ex, hz⟩
  · rcases fy with ey | ey | ⟨u, ey, hu⟩
    · rw [ex, ey, show numL op (vU, 0) (vU, 0) = (vU, 0) by unfold numL; simp]; exact mono_unk _
    · rcases ry with e | e
      · rw [ey] at e; cases e
      · rw [e, ey]
        exact ⟨fun _ => bad2 _ fx', fun h _ => absurd h (by rw [ex]; exact bad2 _ (.inl rfl))⟩
    · rw [ex, ey, show numL op (vU, 0) (u, 0) = (vU, 0) by unfold numL; simp]; exact mono_unk _
  · rcases rx with e | e
    · rw [ex] at e; cases e
    · rw [e, ex]; exact ⟨fun _ => bad1 _, fun h _ => absurd h (bad1 _)⟩
  · rcases rx with e | e
    · rw [ex] at e; cases e; exact absurd rfl hz
    rw [e, ex]
    rcases ry with e | e
    · rw [e, show numL op (z, 0) (vU, 0) = (vU, 0) by unfold numL; simp]; exact mono_unk _
    · rw [e]; exact mono_refl _
theorem eqL_mono : ∀ (l m l' m' : List Val), l'.length = l.length → m'.length = m.length → l.length = m.length →
    (∀ (i : Nat) (x y x' y' : Val), l[i]? = some x → m[i]? = some y → l'[i]? = some x' → m'[i]? = some y' → ∀ q, eqS x y = some q → eqS x' y' = some q) → ∀ q, eqL l m = some q → eqL l' m' = some q
  | [], _, l', m', h1, _, _, _, q, h => by
    have : l' = [] := List.length_eq_zero_iff.1 (by simpa using h1)
    subst this
    rw [eqL] at h ⊢; exact h
  | x :: r, [], _, _, _, _, h3, _, _, _ => by simp at h3
  | x :: r, y :: t, [], _, h1, _, _, _, _, _ => by simp at h1
  | x :: r, y :: t, _ :: _, [], _, h2, _, _, _, _ => by simp at h2
  | x :: r, y :: t, x' :: r', y' :: t', h1, h2, h3, h4, q, h => by
    have ih := eqL_mono r t r' t' (by simpa using h1) (by simpa using h2) (by simpa using h3) fun i a b a' b' e1 e2 e3 e4 => h4 (i + 1) a b a' b' (by simpa using e1) (by simpa using e2) (by simpa using e3) (by simpa using e4)
    have h0 := h4 0 x y x' y' rfl rfl rfl rfl
    rw [eqL_cons] at h ⊢
    cases e : eqS x y with
    | some p =>
      rw [e] at h
      rw [h0 p e]
      cases p with
      | false => exact h
      | true => exact ih q h
    | none =>
      rw [e] at h
      have hq : q = false ∧ eqL r t = some false := by
        simp only [cmb] at h
        cases e2 : eqL r t with
        | none => rw [e2] at h; cases h
        | some p => cases p with
          | true => rw [e2] at h; cases h
          | false => rw [e2] at h; simp at h; exact ⟨h, rfl⟩
      rw [hq.1]
      have := ih false hq.2
      cases eqS x' y' with
      | none => simp only [cmb, this]; rfl
      | some p => cases p with
        | false => rfl
        | true => exact this
theorem eqS_mono (a : Val) : ∀ b a' b', Refs a' a → Refs b' b → ∀ q, eqS a b = some q → eqS a' b' = some q := by
  induction a using wfV.induction with
  | h a ih =>
    intro b a' b' ha hb q h
    rw [eqS_eq] at h
    by_cases h6 : a.kind = 6 ∨ b.kind = 6
    · rw [if_pos h6] at h; cases h
    rw [if_neg h6] at h
    obtain ⟨a1, a2, a3, a4, a5, a6⟩ := refs_inv ha (fun e => h6 (.inl e))
    obtain ⟨b1, b2, b3, b4, b5, b6⟩ := refs_inv hb (fun e => h6 (.inr e))
    rw [eqS_eq, if_neg (by rw [a1, b1]; exact h6), a1, a2, a3, a4, a5, b1, b2, b3, b4, b5]
    split at h
    · rename_i hc; rw [if_pos hc]; exact h
    · rename_i hc
      rw [if_neg hc]
      have hl : a.items.length = b.items.length := Classical.not_not.1 fun e => hc (.inr (.inr (.inr (.inl e))))
      exact eqL_mono _ _ _ _ a5 b5 hl (fun i x y x' y' e1 e2 e3 e4 q hq => ih x (List.mem_of_getElem? e1) y x' y' (a6 i x' x e3 e1) (b6 i y' y e4 e2) q hq) q h
theorem binary_mono {a b a' b' : Val} (ha : Ck a) (hb : Ck b) (ha' : Ck a') (hb' : Ck b') (ra : Refs a' a) (rb : Refs b' b) (op : Int) : Mono (binaryS op a b) (binaryS op a' b') := by
  have lg : ∀ stop, Mono (logicS a b stop) (logicS a' b' stop) := fun stop =>
    logic_mono (fm_cv (.inl rfl) ha) (fm_cv (.inl rfl) ha') (fm_cv (.inl rfl) hb) (fm_cv (.inl rfl) hb') (rc_cv (.inl rfl) ha' ha ra) (rc_cv (.inl rfl) hb' hb rb) stop
  unfold binaryS
  split
  · exact mono_refl _
  split
  · exact lg _
  split
  · exact lg _
  split
  · exact num_mono (fm_cv (.inr (.inl rfl)) ha) (fm_cv (.inr (.inl rfl)) ha') (fm_cv (.inr (.inl rfl)) hb) (fm_cv (.inr (.inl rfl)) hb') (rc_cv (.inr (.inl rfl)) ha' ha ra) (rc_cv (.inr (.inl rfl)) hb' hb rb) op
  · cases e : eqS a b with
    | none => exact mono_unk _
    | some q => rw [eqS_mono a b a' b' ra rb q e]; exact mono_refl _
theorem choose_mono {c a b c' a' b' : Val} (hc : Ck c) (hc' : Ck c') (rc : Refs c' c) (ra : Refs a' a) (rb : Refs b' b) : Mono (chooseS c a b) (chooseS c' a' b') := by
  unfold chooseS
  simp only
  rcases fm_cv (.inl rfl) hc with e | e | ⟨z, e, hz⟩
  · rw [e]
    simp only [ne_eq, not_true_eq_false, if_false, kind_mk, if_true]
    split
    · rename_i hk
      obtain ⟨hk, rfl⟩ := hk
      have e1 : a' = a := refs_known a' a hk ra
      have e2 : b' = a := refs_known b' a hk rb
      subst e1; subst e2
      rcases fm_cv (.inl rfl) hc' with e' | e' | ⟨z', e', hz'⟩
      · rw [e']; simp only [ne_eq, not_true_eq_false, if_false, kind_mk, if_true, hk, and_self]; exact mono_refl _
      · rw [e']; exact mono_err (by decide)
      · rw [e']; simp only [ne_eq, not_true_eq_false, if_false, hz']; split <;> exact mono_refl _
    · exact mono_unk _
  · have := rc_cv (.inl rfl) hc' hc rc
    rw [e] at this
    rcases this with q | q
    · cases q
    · rw [e, q]; exact mono_err (by decide)
  · have := rc_cv (.inl rfl) hc' hc rc
    rw [e] at this
    rcases this with q | q
    · cases q; exact absurd rfl hz
    · rw [e, q]
      simp only [ne_eq, not_true_eq_false, if_false, hz]
      split
      · exact mono_val ra
      · exact mono_val rb
theorem call_mono {c c' : CallG} (k1 : c'.kind = c.kind) (k2 : c'.op = c.op) (k3 : c'.name = c.name) (ha : Ck c.a) (hb : Ck c.b) (hc : Ck c.c) (ha' : Ck c'.a) (hb' : Ck c'.b) (hc' : Ck c'.c) (ra : Refs c'.a c.a) (rb : Refs c'.b c.b) (rc : Refs c'.c c.c) : Mono (callS c) (callS c') := by
  unfold callS
  rw [k1, k2, k3]
  split
  · exact attr_mono ra _
  split
  · exact index_mono hb hb' ra rb
  split
  · exact unary_mono ha ha' ra _
  split
  · exact binary_mono ha hb ha' hb' ra rb _
  · exact choose_mono ha ha' ra rb rc
theorem law_Monotone (c : CallG) (l : Arr3Val) (fa : c.a.Fits) (fb : c.b.Fits) (fc : c.c.Fits) (f0 : l.x0.Fits) (f1 : l.x1.Fits) (f2 : l.x2.Fits) : g_l19_OpsMonotone c l = some true := by
  obtain ⟨q, h1, h2⟩ := valid_spec [c.a, c.b, c.c, l.x0, l.x1, l.x2] (by simp) (by simp [fa, fb, fc, f0, f1, f2])
  unfold g_l19_OpsMonotone
  rw [h1, Option.bind_some]
  cases q with
  | false => rw [Bool.not_false, cond_true, awake19]; rfl
  | true =>
    have ka := (h2 rfl c.a (by simp)).1
    have kb := (h2 rfl c.b (by simp)).1
    have kc := (h2 rfl c.c (by simp)).1
    have k0 := (h2 rfl l.x0 (by simp)).1
    have k1 := (h2 rfl l.x1 (by simp)).1
    have k2 := (h2 rfl l.x2 (by simp)).1
    rw [Bool.not_true, cond_false]
    obtain ⟨q0, e0, i0⟩ := rrefines_spec l.x0 c.a f0
    rw [e0, Option.bind_some]
    cases q0 with
    | false => rw [Bool.not_false, cond_true, awake19]; rfl
    | true =>
      rw [Bool.not_true, cond_false]
      obtain ⟨q1, e1, i1⟩ := rrefines_spec l.x1 c.b f1
      rw [e1, Option.bind_some]
      cases q1 with
      | false => rw [Bool.not_false, cond_true, awake19]; rfl
      | true =>
        rw [Bool.not_true, cond_false]
        obtain ⟨q2, e2, i2⟩ := rrefines_spec l.x2 c.c f2
        rw [e2, Option.bind_some]
        cases q2 with
        | false => rw [Bool.not_false, cond_true, awake19]; rfl
        | true =>
          rw [Bool.not_true, cond_false, do_spec ka kb kc, Option.bind_some, do_spec (c := CallG.mk c.kind c.op c.name l.x0 l.x1 l.x2) k0 k1 k2, Option.bind_some]
          have hm := call_mono (c := c) (c' := CallG.mk c.kind c.op c.name l.x0 l.x1 l.x2) rfl rfl rfl ka kb kc k0 k1 k2 (i0.1 rfl) (i1.1 rfl) (i2.1 rfl)
          have hr' := call_res (c := CallG.mk c.kind c.op c.name l.x0 l.x1 l.x2) k0 k1 k2
          generalize callS (CallG.mk c.kind c.op c.name l.x0 l.x1 l.x2) = r' at hm hr' ⊢
          generalize callS c = r at hm ⊢
          by_cases z : r.2 = 0
          · rw [decide_eq_true z, Bool.not_true, cond_false]
            by_cases z' : r'.2 = 0
            · rw [decide_eq_true z', Bool.not_true, cond_false]
              obtain ⟨q3, e3, i3⟩ := rrefines_spec r'.1 r.1 hr'.fits
              rw [e3, Option.bind_some, i3.2 (hm.ok z z'), cond_true, awake19]; rfl
            · rw [decide_eq_false z', Bool.not_false, cond_true, awake19]; rfl
          · rw [decide_eq_false z, decide_eq_false (hm.err z), Bool.not_false, cond_true, cond_true, awake19]; rfl
end Abs
end Go.Proofs.YtjfcgdablmjmnaaGreatDoor
