/-
  A drawn region whose text is read in another order.
-/
import Derived.Test.YtoelojmcopcpcaaGreatDoorAbsS
namespace Go.Proofs.YtoelojmcopcpcaaGreatDoor
namespace Abs
open Go.RowKit
set_option linter.unusedVariables false
set_option linter.unusedSimpArgs false
/-- An operation with other places in its edges and its guard. -/
def permO (f : Nat → Nat) (o : Oper) : Oper := { o with after := o.after.map fun e => { e with on := f e.on }, guard := o.guard.map fun g => (f g.1, g.2) }
/-- The text in another order: at the place p what stood at π[p]. -/
def permOps (π : List Nat) (ops : List Oper) : List Oper := π.map fun i => permO (fun j => π.idxOf j) (ops.getD i default)
def permB (π : List Nat) (n : Nat) : Bool := π.length == n && ((List.range n).all fun i => π.any (Nat.beq i)) && (π.all fun i => Nat.blt i n) && (List.range n).all fun p => Nat.beq (π.idxOf (π.getD p 0)) p
theorem permB_len {π : List Nat} {n : Nat} (h : permB π n = true) : π.length = n := by
  unfold permB at h
  simp only [Bool.and_eq_true, beq_iff_eq] at h
  exact h.1.1.1
theorem permB_mem {π : List Nat} {n i : Nat} (h : permB π n = true) (hi : i < n) : i ∈ π := by
  unfold permB at h
  simp only [Bool.and_eq_true, List.all_eq_true, List.mem_range, List.any_eq_true] at h
  obtain ⟨x, hx, e⟩ := h.1.1.2 i hi
  rw [Nat.eq_of_beq_eq_true e]; exact hx
theorem permB_lt {π : List Nat} {n i : Nat} (h : permB π n = true) (hi : i ∈ π) : i < n := by
  unfold permB at h
  simp only [Bool.and_eq_true, List.all_eq_true] at h
  have := Nat.le_of_ble_eq_true (h.1.2 i hi)
  omega
theorem permB_at {π : List Nat} {n p : Nat} (h : permB π n = true) (hp : p < π.length) : π.idxOf π[p] = p := by
  have hl := permB_len h
  unfold permB at h
  simp only [Bool.and_eq_true, List.all_eq_true, List.mem_range] at h
  have := Nat.eq_of_beq_eq_true (h.2 p (by omega))
  simpa [List.getD, hp] using this
section
variable {π : List Nat} {ops : List Oper} (h : permB π ops.length = true)
include h
theorem inv_lt {i : Nat} (hi : i < ops.length) : π.idxOf i < ops.length := by
  have := List.idxOf_lt_length_of_mem (permB_mem h hi)
  rwa [permB_len h] at this
theorem inv_ge {i : Nat} (hi : ops.length ≤ i) : π.idxOf i = ops.length := by
  rw [← permB_len h]
  exact List.idxOf_eq_length fun hm => by have := permB_lt h hm; omega
theorem inv_at {i : Nat} (hi : i < ops.length) : π[π.idxOf i]? = some i := by
  have hm := permB_mem h hi
  rw [List.getElem?_eq_getElem (List.idxOf_lt_length_of_mem hm), List.getElem_idxOf]
theorem inv_inj {i j : Nat} (hi : i < ops.length) (hj : j < ops.length) (e : π.idxOf i = π.idxOf j) : i = j := by
  have h1 := inv_at h hi
  have h2 := inv_at h hj
  rw [e, h2] at h1
  exact (Option.some.inj h1).symm
theorem perm_len : (permOps π ops).length = ops.length := by unfold permOps; rw [List.length_map, permB_len h]
theorem perm_at {i : Nat} (hi : i < ops.length) : (permOps π ops)[π.idxOf i]? = some (permO (fun j => π.idxOf j) ops[i]) := by
  unfold permOps
  rw [List.getElem?_map, inv_at h hi, Option.map_some]
  simp [List.getD, hi]
theorem perm_dst (i : Nat) : ((permOps π ops)[π.idxOf i]?).bind (·.dst) = (ops[i]?).bind (·.dst) := by
  rcases Nat.lt_or_ge i ops.length with hi | hi
  · rw [perm_at h hi, List.getElem?_eq_getElem hi]; rfl
  · rw [inv_ge h hi, List.getElem?_eq_none (by rw [perm_len h]; exact Nat.le_refl _), List.getElem?_eq_none hi]
theorem perm_yield (tmps : Array Value) (j : Nat) : yielded (permOps π ops).toArray tmps (π.idxOf j) = yielded ops.toArray tmps j := by
  unfold yielded
  rw [List.getElem?_toArray, List.getElem?_toArray, perm_dst h]
theorem perm_wanted (tmps : Array Value) (o : Oper) : Region.wanted (permO (fun j => π.idxOf j) o) (yielded (permOps π ops).toArray tmps) = Region.wanted o (yielded ops.toArray tmps) := by
  unfold Region.wanted permO
  cases o.guard with
  | none => rfl
  | some g => simp only [Option.map_some]; rw [perm_yield h]
theorem any_perm {P : Program} {Q : Exit → Act → World → Prop} : ∀ (fuel : Nat) (listed listed' : Array Bool) (a : Act) (w : World), listed.size = ops.length → listed'.size = ops.length → (∀ i, i < ops.length → listed'.getD (π.idxOf i) false = listed.getD i false) →
    wpAny P .any (permOps π ops).toArray Q fuel listed' a w → wpAny P .any ops.toArray Q fuel listed a w := by
  have look : ∀ {listed listed' : Array Bool}, listed.size = ops.length → listed'.size = ops.length → (∀ i, i < ops.length → listed'.getD (π.idxOf i) false = listed.getD i false) → ∀ i, listed'.getD (π.idxOf i) false = listed.getD i false := by
    intro listed listed' hs hs' hl i
    rcases Nat.lt_or_ge i ops.length with hi | hi
    · exact hl i hi
    · rw [inv_ge h hi]
      simp [Array.getD, hs, hs', Nat.not_lt.2 hi]
  have ready : ∀ {listed listed' : Array Bool}, listed.size = ops.length → listed'.size = ops.length → (∀ i, i < ops.length → listed'.getD (π.idxOf i) false = listed.getD i false) → ∀ i, i < ops.length → (i ∈ Region.ready .any ops.toArray listed ↔ π.idxOf i ∈ Region.ready .any (permOps π ops).toArray listed') := by
    intro listed listed' hs hs' hl i hi
    have hL := look hs hs' hl
    have hi' := inv_lt h hi
    unfold Region.ready
    simp only [List.mem_filter, List.mem_range, List.size_toArray, perm_len h, hi, hi', true_and, List.getElem?_toArray, perm_at h hi, List.getElem?_eq_getElem hi, Option.map_some, Option.getD_some, Bool.and_eq_true, Bool.not_eq_true']
    rw [getD_both hs hi true false, getD_both hs' hi' true false, hl i hi]
    refine and_congr_right fun _ => ?_
    simp only [permO, Array.all_map]
    refine iff_of_eq (congrArg (· = true) ?_)
    congr 1
    funext e
    simp only [Function.comp]
    rw [hL]
    rfl
  intro fuel
  induction fuel with
  | zero =>
    intro listed listed' a w hs hs' hl ⟨h1, h2⟩
    refine ⟨List.eq_nil_iff_forall_not_mem.2 fun i hi => ?_, h2⟩
    have hlt : i < ops.length := by
      have := (List.mem_filter.1 hi).1
      simpa using this
    have := (ready hs hs' hl i hlt).1 hi
    rw [h1] at this; cases this
  | succ fuel ih =>
    intro listed listed' a w hs hs' hl ⟨h1, h2⟩
    refine ⟨fun hr => h1 (List.eq_nil_iff_forall_not_mem.2 fun p hp => ?_), fun i hi => ?_⟩
    · have hlt : p < ops.length := by
        have := (List.mem_filter.1 hp).1
        simpa [perm_len h] using this
      have hpp : p < π.length := by rw [permB_len h]; exact hlt
      have hpi : π[p] < ops.length := permB_lt h (List.getElem_mem hpp)
      have e : π.idxOf π[p] = p := permB_at h hpp
      have := (ready hs hs' hl _ hpi).2 (by rw [e]; exact hp)
      rw [hr] at this; cases this
    · have hlt : i < ops.length := by
        have := (List.mem_filter.1 hi).1
        simpa using this
      have hp := (ready hs hs' hl i hlt).1 hi
      have h3 := h2 _ hp
      have next : ∀ a w, wpAny P .any (permOps π ops).toArray Q fuel (listed'.setIfInBounds (π.idxOf i) true) a w → wpAny P .any ops.toArray Q fuel (listed.setIfInBounds i true) a w := by
        intro a w hk
        refine ih _ _ a w (by simpa using hs) (by simpa using hs') (fun j hj => ?_) hk
        by_cases e : i = j
        · subst e
          have := inv_lt h hlt
          simp [Array.getD, hs, hs', hlt, this]
        · rw [getD_set_ne false e, getD_set_ne false (fun k => e (inv_inj h hlt hj k))]
          exact hl j hj
      unfold wpOp at h3 ⊢
      simp only [List.getElem?_toArray, perm_at h hlt, List.getElem?_eq_getElem hlt] at h3 ⊢
      rw [perm_wanted h] at h3
      split
      · rename_i hw
        rw [if_pos hw] at h3
        rcases h3 with h3 | h3
        · left
          have h4 : ops[i].wp P a w (wpAny P .any (permOps π ops).toArray Q fuel (listed'.setIfInBounds (π.idxOf i) true)) Q := h3
          exact Oper.wp_mono next h4
        · right; exact h3
      · rename_i hw
        rw [if_neg hw] at h3
        exact next _ _ h3
end
section
variable {E : World → Prop} {E0 : Nat} {P : Program} {G : Nat → Option (List PV)} {m : Nat} {K : Ex → List TV → Sto → Prop} {s : MS}
def drawnP (P : Program) (t : MS) (π : List Nat) (n1 : Nat) (fl : List Nat) : Bool :=
  match t.reg with
  | none => match t.c with
    | .region _ ops true :: _ => permB π ops.toList.length && Nat.ble n1 (permOps π ops.toList).length && drawFB fl (permOps π ops.toList) n1
    | _ => false
  | some _ => false
def mDrawP (t : MS) (π : List Nat) (n1 : Nat) (fl : List Nat) : MS :=
  match t.c with
  | .region _ ops _ :: r => ⟨some (true, (permOps π ops.toList).toArray, (permOps π ops.toList).take n1, (permOps π ops.toList).drop n1, fl), r, t.ctx, t.T, t.σ⟩
  | _ => t
theorem awp_drawP (hb : Base E E0 G) (hmix : P.follows .mixedOrders = true) {id : Nat} {ops : Array Oper} {T : List TV} {σ : Sto} (π : List Nat) (n1 : Nat) (fl : List Nat) (h1 : permB π ops.toList.length = true) (h2 : n1 ≤ (permOps π ops.toList).length) (h3 : drawFB fl (permOps π ops.toList) n1 = true)
    (h : asqD E E0 P G (permOps π ops.toList).toArray ((permOps π ops.toList).take n1) T σ fun T1 σ1 => FlOK P G fl (permOps π ops.toList) n1 T1 ∧ asq E E0 P G (permOps π ops.toList).toArray ((permOps π ops.toList).drop n1) T1 σ1 (K .normal)) : awp E E0 P m (.region id ops true) T σ K := by
  intro X w a q1 q2 q3 q4 q5
  have key := any_drawF (m := m) (T := T) (σ := σ) (K := K) hb fl n1 h2 h3 h X w a q1 q2 q3 q4 q5
  rw [perm_len h1] at key
  have := any_perm h1 ops.toList.length (Array.replicate ops.toList.length false) (Array.replicate ops.toList.length false) a { w with drawn := w.drawn + 1 } (by simp) (by simp) (fun i hi => by simp [Array.getD]) key
  refine wp_region_any hmix ?_
  simpa using this
theorem drawPE (hb : Base E E0 G) (hmix : P.follows .mixedOrders = true) (n : Nat) (π : List Nat) (n1 : Nat) (fl : List Nat) (k : J E E0 P G m K (mDrawP (adv P G n s) π n1 fl)) (h : drawnP P (adv P G n s) π n1 fl = true := by kernel_rfl) : J E E0 P G m K s := by
  refine adv_ok hb n ?_
  generalize adv P G n s = t at *
  obtain ⟨reg, c, ctx, T, σ⟩ := t
  unfold drawnP at h
  split at h
  · rename_i e; simp only at e; subst e
    split at h
    · rename_i i ops r e; simp only at e; subst e
      simp only [Bool.and_eq_true] at h
      obtain ⟨⟨h1, h2⟩, h3⟩ := h
      exact awp_drawP hb hmix π n1 fl h1 (Nat.le_of_ble_eq_true h2) h3 (asqD_mono (k _ fun _ _ q => q) fun T1 σ1 q => ⟨flOK_of q.1, q.2⟩)
    · cases h
  · cases h
end
end Abs
end Go.Proofs.YtoelojmcopcpcaaGreatDoor
