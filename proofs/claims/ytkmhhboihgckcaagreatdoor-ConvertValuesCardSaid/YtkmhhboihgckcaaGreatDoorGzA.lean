/-
  Convert: Go functions as functions over plain values, with the proof that the code computes them; printed by gen.py.
-/
import Derived.Test.YtkmhhboihgckcaaGreatDoorCtB
import Derived.Test.YtkmhhboihgckcaaGreatDoorAbsZ
namespace Go.Proofs.YtkmhhboihgckcaaGreatDoor
namespace Abs
open Go.RowKit
variable {E : World → Prop} {E0 : Nat} {G : Nat → Option (List PV)}
set_option maxRecDepth 100000
set_option linter.unusedVariables false
set_option linter.unusedSimpArgs false
attribute [local irreducible] asqX awpL awp asq asqD Pure Ok asqF sl loopO
noncomputable def g_r10_left_L1 (r_r10_left : Ty → Int → Int → Option (Int)) (t_ : Ty) (levels_ : Int) (s1 : Int × Int) : Option ((Int × Int) ⊕ (Int)) :=
  bif (decide (s1.2 < (t_.elems.length : Int))) then bif (decide (s1.1 ≥ 0)) then (idx t_.elems s1.2).bind fun x5 => (r_r10_left x5 s1.1 (IntKind.i64.wrap (levels_ - 1))).bind fun y6 => some (.inl (y6, (IntKind.i64.wrap (s1.2 + 1)))) else some (.inr (s1.1)) else some (.inr (s1.1))
noncomputable def g_r10_left (r_r10_left : Ty → Int → Int → Option (Int)) (t_ : Ty) (nodes_ : Int) (levels_ : Int) : Option (Int) :=
  bif (decide (nodes_ < 1)) then some (-1) else bif (decide (levels_ < 1)) then some (-1) else loopO (g_r10_left_L1 r_r10_left t_ levels_) ((IntKind.i64.wrap (nodes_ - 1)), 0)
theorem g_r10_left_ok (hb : Base E E0 G) (he : ∀ w, E w → EnvV w) (r_r10_left : Ty → Int → Int → Option (Int)) (hr_r10_left : ∀ (a0 : Ty) (a1 : Int) (a2 : Int) (r : Int), r_r10_left a0 a1 a2 = some r → Pure E E0 Tryz.prog 32 [.agg (aT a0), .cell (vi a1), .cell (vi a2)] (c1 (vi r))) (t_ : Ty) (nodes_ : Int) (levels_ : Int) (r_ : Int) (hq : g_r10_left r_r10_left t_ nodes_ levels_ = some r_) :
    Pure E E0 Tryz.prog 32 [.agg (aT t_), .cell (vi nodes_), .cell (vi levels_)] (c1 (vi r_)) := by
  refine pure_L Tryz.func32 rfl ?_
  refine L_keepF [0, 1, 2] (T' := sl 38 [(0, .one (.agg (aT t_))), (1, c1 (vi nodes_)), (2, c1 (vi levels_))]) (by kernel_rfl) ?_
  refine L_seq ?_
  refine L_regF hb [1, 2, 3] (T' := sl 38 [(1, c1 (vi nodes_)), (2, c1 (vi levels_)), (3, pt 0)]) (σ' := [bx (aT t_)]) (by kernel_rfl) ?_
  refine L_seq (L_seq ?_)
  refine L_regK hb [1, 2, 3, 14] (fun R hR => ?_)
  refine runDS 3 [(9, c1 (vi nodes_)), (10, c1 (vB (decide (nodes_ < 1)))), (11, c1 (vB (decide (nodes_ < 1))))] (by kernel_rfl) ?_
  refine partsD ((decide (nodes_ < 1))) (fun zz => [(10, c1 (vB zz)), (11, c1 (vB zz))]) (by kernel_rfl) (fun hc1 => ?_) (fun hc1 => ?_)
  · replace hq := cond_t hc1 hq
    refine lastKS (T' := sl 38 [(1, c1 (vi nodes_)), (2, c1 (vi levels_)), (3, pt 0), (14, c1 (vB true))]) (by kernel_rfl) hR ?_
    refine L_true hb (by kernel_rfl) (L_seq ?_)
    refine L_regS hb [6] (T' := sl 38 [(6, c1 (vi (-1)))]) (by kernel_rfl) ?_
    refine L_ret ?_
    have h0 := Option.some.inj hq
    obtain rfl := h0
    exact end_ret (by kernel_rfl)
  · replace hq := cond_f hc1 hq
    refine lastKS (T' := sl 38 [(1, c1 (vi nodes_)), (2, c1 (vi levels_)), (3, pt 0), (14, c1 (vB (decide (levels_ < 1))))]) (by kernel_rfl) hR ?_
    refine L_if hb (b := (decide (levels_ < 1))) (by kernel_rfl) (fun hc2 => ?_) (fun hc2 => ?_)
    · replace hq := cond_t hc2 hq
      refine L_seq ?_
      refine L_regS hb [6] (T' := sl 38 [(6, c1 (vi (-1)))]) (by kernel_rfl) ?_
      refine L_ret ?_
      have h0 := Option.some.inj hq
      obtain rfl := h0
      exact end_ret (by kernel_rfl)
    · replace hq := cond_f hc2 hq
      refine L_skip (L_seq ?_)
      refine L_regS hb [2, 3, 7] (T' := sl 38 [(2, c1 (vi levels_)), (3, pt 0), (7, c1 (vi (IntKind.i64.wrap (nodes_ - 1))))]) (by kernel_rfl) ?_
      refine L_seq (L_seq ?_)
      refine L_regS hb [2, 3, 7, 8] (T' := sl 38 [(2, c1 (vi levels_)), (3, pt 0), (7, c1 (vi (IntKind.i64.wrap (nodes_ - 1)))), (8, c1 (vi 0))]) (by kernel_rfl) ?_
      refine L_block (fun K1 hA1 hB1 hC1 hD1 => ?_)
      refine L_backF [2, 3, 7, 8] [] 1 (T' := sl 38 [(2, c1 (vi levels_)), (3, pt 0), (7, c1 (vi (IntKind.i64.wrap (nodes_ - 1)))), (8, c1 (vi 0))]) (σ' := [bx (aT t_)]) (by kernel_rfl) (by kernel_rfl) (by simp) (by kernel_rfl) ⟨(by kernel_rfl), trivial⟩ ?_
      refine L_as (by kernel_rfl) (by kernel_rfl) (L_loopO (body := (g_r10_left_L1 r_r10_left t_ levels_)) (fun s1 => sl 38 [(2, c1 (vi levels_)), (3, pt 0), (7, c1 (vi s1.1)), (8, c1 (vi s1.2))]) (fun s1 => [bx (aT t_)]) (s0 := ((IntKind.i64.wrap (nodes_ - 1)), 0)) (fun s1 x1 hq hn1 he1 => ?_) hq)
      refine L_seq (L_seq ?_)
      refine L_regK hb [2, 3, 7, 8, 25] (fun R hR => ?_)
      refine runDS 6 [(17, c1 (vi s1.2)), (18, c1 (.ptr 0 0 1)), (19, c1 (vL flT t_.elems)), (20, c1 (vi (t_.elems.length : Int))), (21, c1 (vB (decide (s1.2 < (t_.elems.length : Int))))), (22, c1 (vB (decide (s1.2 < (t_.elems.length : Int)))))] (by kernel_rfl) ?_
      refine partsD ((decide (s1.2 < (t_.elems.length : Int)))) (fun zz => [(21, c1 (vB zz)), (22, c1 (vB zz))]) (by kernel_rfl) (fun hc3 => ?_) (fun hc3 => ?_)
      · replace hq := cond_t hc3 hq
        refine lastKS (T' := sl 38 [(2, c1 (vi levels_)), (3, pt 0), (7, c1 (vi s1.1)), (8, c1 (vi s1.2)), (25, c1 (vB (decide (s1.1 ≥ 0))))]) (by kernel_rfl) hR ?_
        refine L_if hb (b := (decide (s1.1 ≥ 0))) (by kernel_rfl) (fun hc4 => ?_) (fun hc4 => ?_)
        · replace hq := cond_t hc4 hq
          refine L_skip (L_seq (L_block (fun K2 hA2 hB2 hC2 hD2 => ?_)))
          refine L_regN hb (fun R hR => ?_)
          refine runDS 3 [(28, c1 (.ptr 0 0 1)), (29, c1 (vL flT t_.elems)), (30, c1 (vi s1.2))] (by kernel_rfl) ?_
          obtain ⟨x5, hx5, hq⟩ := bind_inv hq
          refine idxF flT (d := some 31) hx5 (by kernel_rfl) ?_
          refine runPS 4 [(31, c1 (.pv (.pp (flT.c x5 ++ flT.f (List.drop (s1.2.toNat + 1) t_.elems))))), (32, .one (.agg (aT x5))), (33, c1 (vi s1.1)), (34, c1 (vi levels_)), (35, c1 (vi (IntKind.i64.wrap (levels_ - 1))))] (by kernel_rfl) ?_
          obtain ⟨y6, hy6, hq⟩ := bind_inv hq
          refine callF (d := some 36) (by kernel_rfl) (hr_r10_left x5 s1.1 (IntKind.i64.wrap (levels_ - 1)) y6 hy6) ?_
          refine lastFS (T' := sl 38 [(2, c1 (vi levels_)), (3, pt 0), (7, c1 (vi y6)), (8, c1 (vi s1.2)), (25, c1 (vB (decide (s1.1 ≥ 0)))), (28, c1 (.ptr 0 0 1)), (29, c1 (vL flT t_.elems)), (30, c1 (vi s1.2)), (31, c1 (.pv (.pp (flT.c x5 ++ flT.f (List.drop (s1.2.toNat + 1) t_.elems))))), (32, .one (.agg (aT x5))), (33, c1 (vi s1.1)), (34, c1 (vi levels_)), (35, c1 (vi (IntKind.i64.wrap (levels_ - 1)))), (36, c1 (vi y6))]) (by kernel_rfl) (hR _ _ ?_)
          refine L_nil (hA2 _ _ ?_)
          refine L_regS hb [2, 3, 7, 8] (T' := sl 38 [(2, c1 (vi levels_)), (3, pt 0), (7, c1 (vi y6)), (8, c1 (vi (IntKind.i64.wrap (s1.2 + 1))))]) (by kernel_rfl) ?_
          refine L_backF [2, 3, 7, 8] [] 1 (T' := sl 38 [(2, c1 (vi levels_)), (3, pt 0), (7, c1 (vi y6)), (8, c1 (vi (IntKind.i64.wrap (s1.2 + 1))))]) (σ' := [bx (aT t_)]) (by kernel_rfl) (by kernel_rfl) (by simp) (by kernel_rfl) ⟨(by kernel_rfl), trivial⟩ ?_
          have h0 := (Option.some.inj hq).symm
          exact L_as (by kernel_rfl) (by kernel_rfl) (hn1 _ h0)
        · replace hq := cond_f hc4 hq
          refine L_exit (hB1 _ _ (L_seq ?_))
          refine L_regS hb [6] (T' := sl 38 [(6, c1 (vi s1.1))]) (by kernel_rfl) ?_
          refine L_ret ?_
          have h0 := (Option.some.inj hq).symm
          replace h0 := he1 _ h0
          obtain rfl := h0
          exact end_ret (by kernel_rfl)
      · replace hq := cond_f hc3 hq
        refine lastKS (T' := sl 38 [(2, c1 (vi levels_)), (3, pt 0), (7, c1 (vi s1.1)), (8, c1 (vi s1.2)), (25, c1 (vB false))]) (by kernel_rfl) hR ?_
        refine L_false hb (by kernel_rfl) (L_exit (hB1 _ _ (L_seq ?_)))
        refine L_regS hb [6] (T' := sl 38 [(6, c1 (vi s1.1))]) (by kernel_rfl) ?_
        refine L_ret ?_
        have h0 := (Option.some.inj hq).symm
        replace h0 := he1 _ h0
        obtain rfl := h0
        exact end_ret (by kernel_rfl)
noncomputable def t_r10_left_step (rec : Ty → Int × Int → Option (Int)) (a : Ty) (b : Int × Int) : Option (Int) :=
  g_r10_left (fun a0 a1 a2 => rec a0 (a1, a2)) a b.1 b.2
noncomputable def t_r10_left (a0 : Ty) (a1 : Int) (a2 : Int) : Option (Int) := tieF relT wfT t_r10_left_step a0 (a1, a2)
theorem t_r10_left_ok (hb : Base E E0 G) (he : ∀ w, E w → EnvV w) (a0 : Ty) (a1 : Int) (a2 : Int) (r : Int) (hq : t_r10_left a0 a1 a2 = some r) : Pure E E0 Tryz.prog 32 [.agg (aT a0), .cell (vi a1), .cell (vi a2)] (c1 (vi r)) :=
  tieF_ok (C := fun a b r => Pure E E0 Tryz.prog 32 [.agg (aT a), .cell (vi b.1), .cell (vi b.2)] (c1 (vi r))) (fun rec hr a b r hq => g_r10_left_ok hb he (fun a0 a1 a2 => rec a0 (a1, a2)) (fun a0 a1 a2 r e => hr a0 (a1, a2) r e) a b.1 b.2 r hq) a0 (a1, a2) r hq
noncomputable def g_r10_names_L1 (r_r10_names : Ty → Option (Int)) (t_ : Ty) (s1 : Int × Int) : Option ((Int × Int) ⊕ (Int)) :=
  bif (decide (s1.2 < (t_.elems.length : Int))) then (idx t_.elems s1.2).bind fun x2 => (r_r10_names x2).bind fun y3 => some (.inl ((IntKind.i64.wrap (s1.1 + y3)), (IntKind.i64.wrap (s1.2 + 1)))) else some (.inr (s1.1))
noncomputable def g_r10_names (r_r10_names : Ty → Option (Int)) (t_ : Ty) : Option (Int) :=
  loopO (g_r10_names_L1 r_r10_names t_) ((t_.names.length : Int), 0)
theorem g_r10_names_ok (hb : Base E E0 G) (he : ∀ w, E w → EnvV w) (r_r10_names : Ty → Option (Int)) (hr_r10_names : ∀ (a0 : Ty) (r : Int), r_r10_names a0 = some r → Pure E E0 Tryz.prog 33 [.agg (aT a0)] (c1 (vi r))) (t_ : Ty) (r_ : Int) (hq : g_r10_names r_r10_names t_ = some r_) :
    Pure E E0 Tryz.prog 33 [.agg (aT t_)] (c1 (vi r_)) := by
  refine pure_L Tryz.func33 rfl ?_
  refine L_keepF [0] (T' := sl 24 [(0, .one (.agg (aT t_)))]) (by kernel_rfl) ?_
  refine L_seq ?_
  refine L_regF hb [1] (T' := sl 24 [(1, pt 0)]) (σ' := [bx (aT t_)]) (by kernel_rfl) ?_
  refine L_seq ?_
  refine L_regS hb [1, 3] (T' := sl 24 [(1, pt 0), (3, c1 (vi (t_.names.length : Int)))]) (by kernel_rfl) ?_
  refine L_seq (L_seq ?_)
  refine L_regS hb [1, 3, 4] (T' := sl 24 [(1, pt 0), (3, c1 (vi (t_.names.length : Int))), (4, c1 (vi 0))]) (by kernel_rfl) ?_
  refine L_block (fun K1 hA1 hB1 hC1 hD1 => ?_)
  refine L_backF [1, 3, 4] [] 1 (T' := sl 24 [(1, pt 0), (3, c1 (vi (t_.names.length : Int))), (4, c1 (vi 0))]) (σ' := [bx (aT t_)]) (by kernel_rfl) (by kernel_rfl) (by simp) (by kernel_rfl) ⟨(by kernel_rfl), trivial⟩ ?_
  refine L_as (by kernel_rfl) (by kernel_rfl) (L_loopO (body := (g_r10_names_L1 r_r10_names t_)) (fun s1 => sl 24 [(1, pt 0), (3, c1 (vi s1.1)), (4, c1 (vi s1.2))]) (fun s1 => [bx (aT t_)]) (s0 := ((t_.names.length : Int), 0)) (fun s1 x1 hq hn1 he1 => ?_) hq)
  refine L_seq (L_seq ?_)
  refine L_regS hb [1, 3, 4, 12] (T' := sl 24 [(1, pt 0), (3, c1 (vi s1.1)), (4, c1 (vi s1.2)), (12, c1 (vB (decide (s1.2 < (t_.elems.length : Int)))))]) (by kernel_rfl) ?_
  refine L_if hb (b := (decide (s1.2 < (t_.elems.length : Int)))) (by kernel_rfl) (fun hc1 => ?_) (fun hc1 => ?_)
  · replace hq := cond_t hc1 hq
    refine L_skip (L_seq (L_block (fun K2 hA2 hB2 hC2 hD2 => ?_)))
    refine L_regN hb (fun R hR => ?_)
    refine runDS 4 [(15, c1 (vi s1.1)), (16, c1 (.ptr 0 0 1)), (17, c1 (vL flT t_.elems)), (18, c1 (vi s1.2))] (by kernel_rfl) ?_
    obtain ⟨x2, hx2, hq⟩ := bind_inv hq
    refine idxF flT (d := some 19) hx2 (by kernel_rfl) ?_
    refine runPS 1 [(19, c1 (.pv (.pp (flT.c x2 ++ flT.f (List.drop (s1.2.toNat + 1) t_.elems))))), (20, .one (.agg (aT x2)))] (by kernel_rfl) ?_
    obtain ⟨y3, hy3, hq⟩ := bind_inv hq
    refine callF (d := some 21) (by kernel_rfl) (hr_r10_names x2 y3 hy3) ?_
    refine lastFS (T' := sl 24 [(1, pt 0), (3, c1 (vi (IntKind.i64.wrap (s1.1 + y3)))), (4, c1 (vi s1.2)), (12, c1 (vB (decide (s1.2 < (t_.elems.length : Int))))), (15, c1 (vi s1.1)), (16, c1 (.ptr 0 0 1)), (17, c1 (vL flT t_.elems)), (18, c1 (vi s1.2)), (19, c1 (.pv (.pp (flT.c x2 ++ flT.f (List.drop (s1.2.toNat + 1) t_.elems))))), (20, .one (.agg (aT x2))), (21, c1 (vi y3)), (22, c1 (vi (IntKind.i64.wrap (s1.1 + y3))))]) (by kernel_rfl) (hR _ _ ?_)
    refine L_nil (hA2 _ _ ?_)
    refine L_regS hb [1, 3, 4] (T' := sl 24 [(1, pt 0), (3, c1 (vi (IntKind.i64.wrap (s1.1 + y3)))), (4, c1 (vi (IntKind.i64.wrap (s1.2 + 1))))]) (by kernel_rfl) ?_
    refine L_backF [1, 3, 4] [] 1 (T' := sl 24 [(1, pt 0), (3, c1 (vi (IntKind.i64.wrap (s1.1 + y3)))), (4, c1 (vi (IntKind.i64.wrap (s1.2 + 1))))]) (σ' := [bx (aT t_)]) (by kernel_rfl) (by kernel_rfl) (by simp) (by kernel_rfl) ⟨(by kernel_rfl), trivial⟩ ?_
    have h0 := (Option.some.inj hq).symm
    exact L_as (by kernel_rfl) (by kernel_rfl) (hn1 _ h0)
  · replace hq := cond_f hc1 hq
    refine L_exit (hB1 _ _ (L_seq ?_))
    refine L_regS hb [2] (T' := sl 24 [(2, c1 (vi s1.1))]) (by kernel_rfl) ?_
    refine L_ret ?_
    have h0 := (Option.some.inj hq).symm
    replace h0 := he1 _ h0
    obtain rfl := h0
    exact end_ret (by kernel_rfl)
noncomputable def t_r10_names_step (rec : Ty → Unit → Option (Int)) (a : Ty) (b : Unit) : Option (Int) :=
  g_r10_names (fun a0 => rec a0 ()) a
noncomputable def t_r10_names (a0 : Ty) : Option (Int) := tieF relT wfT t_r10_names_step a0 ()
theorem t_r10_names_ok (hb : Base E E0 G) (he : ∀ w, E w → EnvV w) (a0 : Ty) (r : Int) (hq : t_r10_names a0 = some r) : Pure E E0 Tryz.prog 33 [.agg (aT a0)] (c1 (vi r)) :=
  tieF_ok (C := fun a b r => Pure E E0 Tryz.prog 33 [.agg (aT a)] (c1 (vi r))) (fun rec hr a b r hq => g_r10_names_ok hb he (fun a0 => rec a0 ()) (fun a0 r e => hr a0 () r e) a r hq) a0 () r hq
noncomputable def g_r10_Small  (t_ : Ty) (nodes_ : Int) : Option (Bool) :=
  (t_r10_left t_ nodes_ 40).bind fun y1 => bif (decide (y1 ≥ 0)) then (t_r10_names t_).bind fun y3 => some (decide (y3 ≤ (IntKind.i64.wrap (2 * nodes_)))) else some (false)
theorem g_r10_Small_ok (hb : Base E E0 G) (he : ∀ w, E w → EnvV w)   (t_ : Ty) (nodes_ : Int) (r_ : Bool) (hq : g_r10_Small t_ nodes_ = some r_) :
    Pure E E0 Tryz.prog 18 [.agg (aT t_), .cell (vi nodes_)] (c1 (vB r_)) := by
  refine pure_L Tryz.func18 rfl ?_
  refine L_keepF [0, 1] (T' := sl 16 [(0, .one (.agg (aT t_))), (1, c1 (vi nodes_))]) (by kernel_rfl) ?_
  refine L_seq ?_
  refine L_regF hb [1, 2] (T' := sl 16 [(1, c1 (vi nodes_)), (2, pt 0)]) (σ' := [bx (aT t_)]) (by kernel_rfl) ?_
  refine L_seq ?_
  refine L_regK hb [4] (fun R hR => ?_)
  refine runDS 2 [(5, .one (.agg (aT t_))), (6, c1 (vi nodes_))] (by kernel_rfl) ?_
  obtain ⟨y1, hy1, hq⟩ := bind_inv hq
  refine callF (d := some 7) (by kernel_rfl) (t_r10_left_ok hb he t_ nodes_ 40 y1 hy1) ?_
  refine runPS 2 [(7, c1 (vi y1)), (8, c1 (vB (decide (y1 ≥ 0)))), (9, c1 (vB (decide (y1 ≥ 0))))] (by kernel_rfl) ?_
  refine partsD ((decide (y1 ≥ 0))) (fun zz => [(8, c1 (vB zz)), (9, c1 (vB zz))]) (by kernel_rfl) (fun hc2 => ?_) (fun hc2 => ?_)
  · replace hq := cond_t hc2 hq
    refine runDS 1 [(10, .one (.agg (aT t_)))] (by kernel_rfl) ?_
    obtain ⟨y3, hy3, hq⟩ := bind_inv hq
    refine callF (d := some 11) (by kernel_rfl) (t_r10_names_ok hb he t_ y3 hy3) ?_
    refine lastKS (T' := sl 16 [(4, c1 (vB (decide (y3 ≤ (IntKind.i64.wrap (2 * nodes_))))))]) (by kernel_rfl) hR ?_
    refine L_ret ?_
    have h0 := Option.some.inj hq
    obtain rfl := h0
    exact end_ret (by kernel_rfl)
  · replace hq := cond_f hc2 hq
    refine lastKS (T' := sl 16 [(4, c1 (vB false))]) (by kernel_rfl) hR ?_
    refine L_ret ?_
    have h0 := Option.some.inj hq
    obtain rfl := h0
    exact end_ret (by kernel_rfl)
noncomputable def g_r10_shaped  (t_ : Ty) : Option (Bool) :=
  bif (decide (t_.kind < 0)) then some (false) else bif (decide (t_.kind > 6)) then some (false) else bif (decide (t_.kind = 6)) then some (decide ((t_.elems.length : Int) = (t_.names.length : Int))) else bif (decide (t_.kind = 4)) then bif (decide ((t_.elems.length : Int) = 1)) then some (decide ((t_.names.length : Int) = 0)) else some (false) else bif (decide (t_.kind = 5)) then bif (decide ((t_.elems.length : Int) = 1)) then some (decide ((t_.names.length : Int) = 0)) else some (false) else bif (decide ((t_.elems.length : Int) = 0)) then some (decide ((t_.names.length : Int) = 0)) else some (false)
theorem g_r10_shaped_ok (hb : Base E E0 G) (he : ∀ w, E w → EnvV w)   (t_ : Ty) (r_ : Bool) (hq : g_r10_shaped t_ = some r_) :
    Pure E E0 Tryz.prog 50 [.agg (aT t_)] (c1 (vB r_)) := by
  refine pure_L Tryz.func50 rfl ?_
  refine L_keepF [0] (T' := sl 49 [(0, .one (.agg (aT t_)))]) (by kernel_rfl) ?_
  refine L_seq ?_
  refine L_regF hb [1] (T' := sl 49 [(1, pt 0)]) (σ' := [bx (aT t_)]) (by kernel_rfl) ?_
  refine L_seq (L_seq ?_)
  refine L_regK hb [1, 10] (fun R hR => ?_)
  refine runDS 4 [(3, pt 0), (4, c1 (vi t_.kind)), (5, c1 (vB (decide (t_.kind < 0)))), (6, c1 (vB (decide (t_.kind < 0))))] (by kernel_rfl) ?_
  refine partsD ((decide (t_.kind < 0))) (fun zz => [(5, c1 (vB zz)), (6, c1 (vB zz))]) (by kernel_rfl) (fun hc1 => ?_) (fun hc1 => ?_)
  · replace hq := cond_t hc1 hq
    refine lastKS (T' := sl 49 [(1, pt 0), (10, c1 (vB true))]) (by kernel_rfl) hR ?_
    refine L_true hb (by kernel_rfl) (L_seq ?_)
    refine L_regS hb [2] (T' := sl 49 [(2, c1 (vB false))]) (by kernel_rfl) ?_
    refine L_ret ?_
    have h0 := Option.some.inj hq
    obtain rfl := h0
    exact end_ret (by kernel_rfl)
  · replace hq := cond_f hc1 hq
    refine lastKS (T' := sl 49 [(1, pt 0), (10, c1 (vB (decide (t_.kind > 6))))]) (by kernel_rfl) hR ?_
    refine L_if hb (b := (decide (t_.kind > 6))) (by kernel_rfl) (fun hc2 => ?_) (fun hc2 => ?_)
    · replace hq := cond_t hc2 hq
      refine L_seq ?_
      refine L_regS hb [2] (T' := sl 49 [(2, c1 (vB false))]) (by kernel_rfl) ?_
      refine L_ret ?_
      have h0 := Option.some.inj hq
      obtain rfl := h0
      exact end_ret (by kernel_rfl)
    · replace hq := cond_f hc2 hq
      refine L_skip (L_seq (L_seq ?_))
      refine L_regS hb [1, 13] (T' := sl 49 [(1, pt 0), (13, c1 (vB (decide (t_.kind = 6))))]) (by kernel_rfl) ?_
      refine L_if hb (b := (decide (t_.kind = 6))) (by kernel_rfl) (fun hc3 => ?_) (fun hc3 => ?_)
      · replace hq := cond_t hc3 hq
        refine L_seq ?_
        refine L_regS hb [2] (T' := sl 49 [(2, c1 (vB (decide ((t_.elems.length : Int) = (t_.names.length : Int)))))]) (by kernel_rfl) ?_
        refine L_ret ?_
        have h0 := Option.some.inj hq
        obtain rfl := h0
        exact end_ret (by kernel_rfl)
      · replace hq := cond_f hc3 hq
        refine L_skip (L_seq (L_seq ?_))
        refine L_regK hb [1, 28] (fun R hR => ?_)
        refine runDS 4 [(21, pt 0), (22, c1 (vi t_.kind)), (23, c1 (vB (decide (t_.kind = 4)))), (24, c1 (vB (decide (t_.kind = 4))))] (by kernel_rfl) ?_
        refine partsD ((decide (t_.kind = 4))) (fun zz => [(23, c1 (vB zz)), (24, c1 (vB zz))]) (by kernel_rfl) (fun hc4 => ?_) (fun hc4 => ?_)
        · replace hq := cond_t hc4 hq
          refine lastKS (T' := sl 49 [(1, pt 0), (28, c1 (vB true))]) (by kernel_rfl) hR ?_
          refine L_true hb (by kernel_rfl) (L_seq ?_)
          refine L_regK hb [2] (fun R hR => ?_)
          refine runDS 5 [(29, c1 (.ptr 0 0 1)), (30, c1 (vL flT t_.elems)), (31, c1 (vi (t_.elems.length : Int))), (32, c1 (vB (decide ((t_.elems.length : Int) = 1)))), (33, c1 (vB (decide ((t_.elems.length : Int) = 1))))] (by kernel_rfl) ?_
          refine partsD ((decide ((t_.elems.length : Int) = 1))) (fun zz => [(32, c1 (vB zz)), (33, c1 (vB zz))]) (by kernel_rfl) (fun hc5 => ?_) (fun hc5 => ?_)
          · replace hq := cond_t hc5 hq
            refine lastKS (T' := sl 49 [(2, c1 (vB (decide ((t_.names.length : Int) = 0))))]) (by kernel_rfl) hR ?_
            refine L_ret ?_
            have h0 := Option.some.inj hq
            obtain rfl := h0
            exact end_ret (by kernel_rfl)
          · replace hq := cond_f hc5 hq
            refine lastKS (T' := sl 49 [(2, c1 (vB false))]) (by kernel_rfl) hR ?_
            refine L_ret ?_
            have h0 := Option.some.inj hq
            obtain rfl := h0
            exact end_ret (by kernel_rfl)
        · replace hq := cond_f hc4 hq
          refine lastKS (T' := sl 49 [(1, pt 0), (28, c1 (vB (decide (t_.kind = 5))))]) (by kernel_rfl) hR ?_
          refine L_if hb (b := (decide (t_.kind = 5))) (by kernel_rfl) (fun hc6 => ?_) (fun hc6 => ?_)
          · replace hq := cond_t hc6 hq
            refine L_seq ?_
            refine L_regK hb [2] (fun R hR => ?_)
            refine runDS 5 [(29, c1 (.ptr 0 0 1)), (30, c1 (vL flT t_.elems)), (31, c1 (vi (t_.elems.length : Int))), (32, c1 (vB (decide ((t_.elems.length : Int) = 1)))), (33, c1 (vB (decide ((t_.elems.length : Int) = 1))))] (by kernel_rfl) ?_
            refine partsD ((decide ((t_.elems.length : Int) = 1))) (fun zz => [(32, c1 (vB zz)), (33, c1 (vB zz))]) (by kernel_rfl) (fun hc7 => ?_) (fun hc7 => ?_)
            · replace hq := cond_t hc7 hq
              refine lastKS (T' := sl 49 [(2, c1 (vB (decide ((t_.names.length : Int) = 0))))]) (by kernel_rfl) hR ?_
              refine L_ret ?_
              have h0 := Option.some.inj hq
              obtain rfl := h0
              exact end_ret (by kernel_rfl)
            · replace hq := cond_f hc7 hq
              refine lastKS (T' := sl 49 [(2, c1 (vB false))]) (by kernel_rfl) hR ?_
              refine L_ret ?_
              have h0 := Option.some.inj hq
              obtain rfl := h0
              exact end_ret (by kernel_rfl)
          · replace hq := cond_f hc6 hq
            refine L_skip (L_seq ?_)
            refine L_regK hb [2] (fun R hR => ?_)
            refine runDS 5 [(39, c1 (.ptr 0 0 1)), (40, c1 (vL flT t_.elems)), (41, c1 (vi (t_.elems.length : Int))), (42, c1 (vB (decide ((t_.elems.length : Int) = 0)))), (43, c1 (vB (decide ((t_.elems.length : Int) = 0))))] (by kernel_rfl) ?_
            refine partsD ((decide ((t_.elems.length : Int) = 0))) (fun zz => [(42, c1 (vB zz)), (43, c1 (vB zz))]) (by kernel_rfl) (fun hc8 => ?_) (fun hc8 => ?_)
            · replace hq := cond_t hc8 hq
              refine lastKS (T' := sl 49 [(2, c1 (vB (decide ((t_.names.length : Int) = 0))))]) (by kernel_rfl) hR ?_
              refine L_ret ?_
              have h0 := Option.some.inj hq
              obtain rfl := h0
              exact end_ret (by kernel_rfl)
            · replace hq := cond_f hc8 hq
              refine lastKS (T' := sl 49 [(2, c1 (vB false))]) (by kernel_rfl) hR ?_
              refine L_ret ?_
              have h0 := Option.some.inj hq
              obtain rfl := h0
              exact end_ret (by kernel_rfl)
noncomputable def g_r06_letter  (c_ : Int) : Option (Bool) :=
  bif (decide (c_ ≥ 97)) then bif (decide (c_ ≤ 122)) then some (true) else bif (decide (c_ ≥ 65)) then bif (decide (c_ ≤ 90)) then some (true) else some (decide (c_ = 95)) else some (decide (c_ = 95)) else bif (decide (c_ ≥ 65)) then bif (decide (c_ ≤ 90)) then some (true) else some (decide (c_ = 95)) else some (decide (c_ = 95))
theorem g_r06_letter_ok (hb : Base E E0 G) (he : ∀ w, E w → EnvV w)   (c_ : Int) (r_ : Bool) (hq : g_r06_letter c_ = some r_) :
    Pure E E0 Tryz.prog 78 [.cell (vI .u8 c_)] (c1 (vB r_)) := by
  refine pure_L Tryz.func78 rfl ?_
  refine L_keepF [0] (T' := sl 21 [(0, c1 (vI .u8 c_))]) (by kernel_rfl) ?_
  refine L_seq ?_
  refine L_regS hb [0] (T' := sl 21 [(0, c1 (vI .u8 c_))]) (by kernel_rfl) ?_
  refine L_seq ?_
  refine L_regK hb [2] (fun R hR => ?_)
  refine runDS 3 [(3, c1 (vI .u8 c_)), (4, c1 (vB (decide (c_ ≥ 97)))), (5, c1 (vB (decide (c_ ≥ 97))))] (by kernel_rfl) ?_
  refine partsD ((decide (c_ ≥ 97))) (fun zz => [(4, c1 (vB zz)), (5, c1 (vB zz))]) (by kernel_rfl) (fun hc1 => ?_) (fun hc1 => ?_)
  · replace hq := cond_t hc1 hq
    refine runDS 4 [(6, c1 (vI .u8 c_)), (7, c1 (vB (decide (c_ ≤ 122)))), (8, c1 (vB (decide (c_ ≤ 122)))), (9, c1 (vB (decide (c_ ≤ 122))))] (by kernel_rfl) ?_
    refine partsD ((decide (c_ ≤ 122))) (fun zz => [(7, c1 (vB zz)), (8, c1 (vB zz)), (9, c1 (vB zz))]) (by kernel_rfl) (fun hc2 => ?_) (fun hc2 => ?_)
    · replace hq := cond_t hc2 hq
      refine lastKS (T' := sl 21 [(2, c1 (vB true))]) (by kernel_rfl) hR ?_
      refine L_ret ?_
      have h0 := Option.some.inj hq
      obtain rfl := h0
      exact end_ret (by kernel_rfl)
    · replace hq := cond_f hc2 hq
      refine runDS 3 [(10, c1 (vI .u8 c_)), (11, c1 (vB (decide (c_ ≥ 65)))), (12, c1 (vB (decide (c_ ≥ 65))))] (by kernel_rfl) ?_
      refine partsD ((decide (c_ ≥ 65))) (fun zz => [(11, c1 (vB zz)), (12, c1 (vB zz))]) (by kernel_rfl) (fun hc3 => ?_) (fun hc3 => ?_)
      · replace hq := cond_t hc3 hq
        refine runDS 5 [(13, c1 (vI .u8 c_)), (14, c1 (vB (decide (c_ ≤ 90)))), (15, c1 (vB (decide (c_ ≤ 90)))), (16, c1 (vB (decide (c_ ≤ 90)))), (17, c1 (vB (decide (c_ ≤ 90))))] (by kernel_rfl) ?_
        refine partsD ((decide (c_ ≤ 90))) (fun zz => [(14, c1 (vB zz)), (15, c1 (vB zz)), (16, c1 (vB zz)), (17, c1 (vB zz))]) (by kernel_rfl) (fun hc4 => ?_) (fun hc4 => ?_)
        · replace hq := cond_t hc4 hq
          refine lastKS (T' := sl 21 [(2, c1 (vB true))]) (by kernel_rfl) hR ?_
          refine L_ret ?_
          have h0 := Option.some.inj hq
          obtain rfl := h0
          exact end_ret (by kernel_rfl)
        · replace hq := cond_f hc4 hq
          refine lastKS (T' := sl 21 [(2, c1 (vB (decide (c_ = 95))))]) (by kernel_rfl) hR ?_
          refine L_ret ?_
          have h0 := Option.some.inj hq
          obtain rfl := h0
          exact end_ret (by kernel_rfl)
      · replace hq := cond_f hc3 hq
        refine lastKS (T' := sl 21 [(2, c1 (vB (decide (c_ = 95))))]) (by kernel_rfl) hR ?_
        refine L_ret ?_
        have h0 := Option.some.inj hq
        obtain rfl := h0
        exact end_ret (by kernel_rfl)
  · replace hq := cond_f hc1 hq
    refine runDS 7 [(6, c1 (.undef)), (7, c1 (.undef)), (8, c1 (vB false)), (9, c1 (vB false)), (10, c1 (vI .u8 c_)), (11, c1 (vB (decide (c_ ≥ 65)))), (12, c1 (vB (decide (c_ ≥ 65))))] (by kernel_rfl) ?_
    refine partsD ((decide (c_ ≥ 65))) (fun zz => [(11, c1 (vB zz)), (12, c1 (vB zz))]) (by kernel_rfl) (fun hc5 => ?_) (fun hc5 => ?_)
    · replace hq := cond_t hc5 hq
      refine runDS 5 [(13, c1 (vI .u8 c_)), (14, c1 (vB (decide (c_ ≤ 90)))), (15, c1 (vB (decide (c_ ≤ 90)))), (16, c1 (vB (decide (c_ ≤ 90)))), (17, c1 (vB (decide (c_ ≤ 90))))] (by kernel_rfl) ?_
      refine partsD ((decide (c_ ≤ 90))) (fun zz => [(14, c1 (vB zz)), (15, c1 (vB zz)), (16, c1 (vB zz)), (17, c1 (vB zz))]) (by kernel_rfl) (fun hc6 => ?_) (fun hc6 => ?_)
      · replace hq := cond_t hc6 hq
        refine lastKS (T' := sl 21 [(2, c1 (vB true))]) (by kernel_rfl) hR ?_
        refine L_ret ?_
        have h0 := Option.some.inj hq
        obtain rfl := h0
        exact end_ret (by kernel_rfl)
      · replace hq := cond_f hc6 hq
        refine lastKS (T' := sl 21 [(2, c1 (vB (decide (c_ = 95))))]) (by kernel_rfl) hR ?_
        refine L_ret ?_
        have h0 := Option.some.inj hq
        obtain rfl := h0
        exact end_ret (by kernel_rfl)
    · replace hq := cond_f hc5 hq
      refine lastKS (T' := sl 21 [(2, c1 (vB (decide (c_ = 95))))]) (by kernel_rfl) hR ?_
      refine L_ret ?_
      have h0 := Option.some.inj hq
      obtain rfl := h0
      exact end_ret (by kernel_rfl)
noncomputable def g_r06_Identifier_L1 (s_ : ByteArray) (s1 : Int) : Option ((Int) ⊕ (Bool)) :=
  bif (decide (s1 < (s_.size : Int))) then (sidx s_ s1).bind fun c7 => (g_r06_letter c7).bind fun y8 => bif (!y8) then (sidx s_ s1).bind fun c10 => bif (decide (c10 < 48)) then some (.inr (false)) else (sidx s_ s1).bind fun c12 => bif (decide (c12 > 57)) then some (.inr (false)) else some (.inl (IntKind.i64.wrap (s1 + 1))) else some (.inl (IntKind.i64.wrap (s1 + 1))) else some (.inr (true))
noncomputable def g_r06_Identifier  (s_ : ByteArray) : Option (Bool) :=
  bif (decide (s_ = eS)) then some (false) else bif (decide ((s_.size : Int) > 64)) then some (false) else (sidx s_ 0).bind fun c3 => (g_r06_letter c3).bind fun y4 => bif (!y4) then some (false) else loopO (g_r06_Identifier_L1 s_) 0
theorem g_r06_Identifier_ok (hb : Base E E0 G) (he : ∀ w, E w → EnvV w)   (s_ : ByteArray) (r_ : Bool) (hq : g_r06_Identifier s_ = some r_) :
    Pure E E0 Tryz.prog 51 [.cell (vS s_)] (c1 (vB r_)) := by
  refine pure_L Tryz.func51 rfl ?_
  refine L_keepF [0] (T' := sl 40 [(0, c1 (vS s_))]) (by kernel_rfl) ?_
  refine L_seq ?_
  refine L_regS hb [0] (T' := sl 40 [(0, c1 (vS s_))]) (by kernel_rfl) ?_
  refine L_seq (L_seq ?_)
  refine L_regK hb [0, 16] (fun R hR => ?_)
  refine runDS 3 [(4, c1 (vS s_)), (5, c1 (vB (decide (s_ = eS)))), (6, c1 (vB (decide (s_ = eS))))] (by kernel_rfl) ?_
  refine partsD ((decide (s_ = eS))) (fun zz => [(5, c1 (vB zz)), (6, c1 (vB zz))]) (by kernel_rfl) (fun hc1 => ?_) (fun hc1 => ?_)
  · replace hq := cond_t hc1 hq
    refine lastKS (T' := sl 40 [(0, c1 (vS s_)), (16, c1 (vB true))]) (by kernel_rfl) hR ?_
    refine L_true hb (by kernel_rfl) (L_seq ?_)
    refine L_regS hb [2] (T' := sl 40 [(2, c1 (vB false))]) (by kernel_rfl) ?_
    refine L_ret ?_
    have h0 := Option.some.inj hq
    obtain rfl := h0
    exact end_ret (by kernel_rfl)
  · replace hq := cond_f hc1 hq
    refine runDS 5 [(7, c1 (vS s_)), (8, c1 (vi (s_.size : Int))), (9, c1 (vB (decide ((s_.size : Int) > 64)))), (10, c1 (vB (decide ((s_.size : Int) > 64)))), (11, c1 (vB (decide ((s_.size : Int) > 64))))] (by kernel_rfl) ?_
    refine partsD ((decide ((s_.size : Int) > 64))) (fun zz => [(9, c1 (vB zz)), (10, c1 (vB zz)), (11, c1 (vB zz))]) (by kernel_rfl) (fun hc2 => ?_) (fun hc2 => ?_)
    · replace hq := cond_t hc2 hq
      refine lastKS (T' := sl 40 [(0, c1 (vS s_)), (16, c1 (vB true))]) (by kernel_rfl) hR ?_
      refine L_true hb (by kernel_rfl) (L_seq ?_)
      refine L_regS hb [2] (T' := sl 40 [(2, c1 (vB false))]) (by kernel_rfl) ?_
      refine L_ret ?_
      have h0 := Option.some.inj hq
      obtain rfl := h0
      exact end_ret (by kernel_rfl)
    · replace hq := cond_f hc2 hq
      refine runDS 1 [(12, c1 (vS s_))] (by kernel_rfl) ?_
      obtain ⟨c3, hc3, hq⟩ := bind_inv hq
      refine sidxF (d := some 13) hc3 (by kernel_rfl) ?_
      obtain ⟨y4, hy4, hq⟩ := bind_inv hq
      refine callF (d := some 14) (by kernel_rfl) (g_r06_letter_ok hb he c3 y4 hy4) ?_
      refine lastKS (T' := sl 40 [(0, c1 (vS s_)), (16, c1 (vB (!y4)))]) (by kernel_rfl) hR ?_
      refine L_if hb (b := (!y4)) (by kernel_rfl) (fun hc5 => ?_) (fun hc5 => ?_)
      · replace hq := cond_t hc5 hq
        refine L_seq ?_
        refine L_regS hb [2] (T' := sl 40 [(2, c1 (vB false))]) (by kernel_rfl) ?_
        refine L_ret ?_
        have h0 := Option.some.inj hq
        obtain rfl := h0
        exact end_ret (by kernel_rfl)
      · replace hq := cond_f hc5 hq
        refine L_skip (L_seq (L_seq ?_))
        refine L_regS hb [0, 3] (T' := sl 40 [(0, c1 (vS s_)), (3, c1 (vi 0))]) (by kernel_rfl) ?_
        refine L_block (fun K1 hA1 hB1 hC1 hD1 => ?_)
        refine L_backF [0, 3] [] 0 (T' := sl 40 [(0, c1 (vS s_)), (3, c1 (vi 0))]) (σ' := []) (by kernel_rfl) (by kernel_rfl) (by simp) (by kernel_rfl) trivial ?_
        refine L_as (by kernel_rfl) (by kernel_rfl) (L_loopO (body := (g_r06_Identifier_L1 s_)) (fun s1 => sl 40 [(0, c1 (vS s_)), (3, c1 (vi s1))]) (fun s1 => []) (s0 := 0) (fun s1 x1 hq hn1 he1 => ?_) hq)
        refine L_seq (L_seq ?_)
        refine L_regS hb [0, 3, 20] (T' := sl 40 [(0, c1 (vS s_)), (3, c1 (vi s1)), (20, c1 (vB (decide (s1 < (s_.size : Int)))))]) (by kernel_rfl) ?_
        refine L_if hb (b := (decide (s1 < (s_.size : Int)))) (by kernel_rfl) (fun hc6 => ?_) (fun hc6 => ?_)
        · replace hq := cond_t hc6 hq
          refine L_skip (L_seq (L_block (fun K2 hA2 hB2 hC2 hD2 => (L_seq ?_))))
          refine L_regK hb [0, 3, 39] (fun R hR => ?_)
          refine runDS 2 [(23, c1 (vS s_)), (24, c1 (vi s1))] (by kernel_rfl) ?_
          obtain ⟨c7, hc7, hq⟩ := bind_inv hq
          refine sidxF (d := some 25) hc7 (by kernel_rfl) ?_
          obtain ⟨y8, hy8, hq⟩ := bind_inv hq
          refine callF (d := some 26) (by kernel_rfl) (g_r06_letter_ok hb he c7 y8 hy8) ?_
          refine runS 2 (T' := sl 40 [(0, c1 (vS s_)), (3, c1 (vi s1)), (20, c1 (vB (decide (s1 < (s_.size : Int))))), (23, c1 (vS s_)), (24, c1 (vi s1)), (25, c1 (vI .u8 c7)), (26, c1 (vB y8)), (27, c1 (vB (!y8))), (28, c1 (vB (!y8)))]) (by kernel_rfl) ?_
          refine partsD ((!y8)) (fun zz => [(27, c1 (vB zz)), (28, c1 (vB zz))]) (by kernel_rfl) (fun hc9 => ?_) (fun hc9 => ?_)
          · replace hq := cond_t hc9 hq
            refine runDS 2 [(29, c1 (vS s_)), (30, c1 (vi s1))] (by kernel_rfl) ?_
            obtain ⟨c10, hc10, hq⟩ := bind_inv hq
            refine sidxF (d := some 31) hc10 (by kernel_rfl) ?_
            refine runPS 2 [(31, c1 (vI .u8 c10)), (32, c1 (vB (decide (c10 < 48)))), (33, c1 (vB (decide (c10 < 48))))] (by kernel_rfl) ?_
            refine partsD ((decide (c10 < 48))) (fun zz => [(32, c1 (vB zz)), (33, c1 (vB zz))]) (by kernel_rfl) (fun hc11 => ?_) (fun hc11 => ?_)
            · replace hq := cond_t hc11 hq
              refine lastKS (T' := sl 40 [(0, c1 (vS s_)), (3, c1 (vi s1)), (39, c1 (vB true))]) (by kernel_rfl) hR ?_
              refine L_true hb (by kernel_rfl) (L_seq ?_)
              refine L_regS hb [2] (T' := sl 40 [(2, c1 (vB false))]) (by kernel_rfl) ?_
              refine L_ret (hD2 _ _ (hD1 _ _ ?_))
              have h0 := (Option.some.inj hq).symm
              replace h0 := he1 _ h0
              obtain rfl := h0
              exact end_ret (by kernel_rfl)
            · replace hq := cond_f hc11 hq
              refine runDS 2 [(34, c1 (vS s_)), (35, c1 (vi s1))] (by kernel_rfl) ?_
              obtain ⟨c12, hc12, hq⟩ := bind_inv hq
              refine sidxF (d := some 36) hc12 (by kernel_rfl) ?_
              refine lastKS (T' := sl 40 [(0, c1 (vS s_)), (3, c1 (vi s1)), (39, c1 (vB (decide (c12 > 57))))]) (by kernel_rfl) hR ?_
              refine L_if hb (b := (decide (c12 > 57))) (by kernel_rfl) (fun hc13 => ?_) (fun hc13 => ?_)
              · replace hq := cond_t hc13 hq
                refine L_seq ?_
                refine L_regS hb [2] (T' := sl 40 [(2, c1 (vB false))]) (by kernel_rfl) ?_
                refine L_ret (hD2 _ _ (hD1 _ _ ?_))
                have h0 := (Option.some.inj hq).symm
                replace h0 := he1 _ h0
                obtain rfl := h0
                exact end_ret (by kernel_rfl)
              · replace hq := cond_f hc13 hq
                refine L_skip (L_nil (hA2 _ _ ?_))
                refine L_regS hb [0, 3] (T' := sl 40 [(0, c1 (vS s_)), (3, c1 (vi (IntKind.i64.wrap (s1 + 1))))]) (by kernel_rfl) ?_
                refine L_backF [0, 3] [] 0 (T' := sl 40 [(0, c1 (vS s_)), (3, c1 (vi (IntKind.i64.wrap (s1 + 1))))]) (σ' := []) (by kernel_rfl) (by kernel_rfl) (by simp) (by kernel_rfl) trivial ?_
                have h0 := (Option.some.inj hq).symm
                exact L_as (by kernel_rfl) (by kernel_rfl) (hn1 _ h0)
          · replace hq := cond_f hc9 hq
            refine lastKS (T' := sl 40 [(0, c1 (vS s_)), (3, c1 (vi s1)), (39, c1 (vB false))]) (by kernel_rfl) hR ?_
            refine L_false hb (by kernel_rfl) (L_skip (L_nil (hA2 _ _ ?_)))
            refine L_regS hb [0, 3] (T' := sl 40 [(0, c1 (vS s_)), (3, c1 (vi (IntKind.i64.wrap (s1 + 1))))]) (by kernel_rfl) ?_
            refine L_backF [0, 3] [] 0 (T' := sl 40 [(0, c1 (vS s_)), (3, c1 (vi (IntKind.i64.wrap (s1 + 1))))]) (σ' := []) (by kernel_rfl) (by kernel_rfl) (by simp) (by kernel_rfl) trivial ?_
            have h0 := (Option.some.inj hq).symm
            exact L_as (by kernel_rfl) (by kernel_rfl) (hn1 _ h0)
        · replace hq := cond_f hc6 hq
          refine L_exit (hB1 _ _ (L_seq ?_))
          refine L_regS hb [2] (T' := sl 40 [(2, c1 (vB true))]) (by kernel_rfl) ?_
          refine L_ret ?_
          have h0 := (Option.some.inj hq).symm
          replace h0 := he1 _ h0
          obtain rfl := h0
          exact end_ret (by kernel_rfl)
noncomputable def g_r10_check_L2 (r_r10_check : Ty → Int → Option (Int)) (t_ : Ty) (level_ : Int) (s2 : Int) : Option ((Int) ⊕ ((Int) ⊕ (Int))) :=
  bif (decide (s2 < (t_.elems.length : Int))) then (idx t_.elems s2).bind fun x13 => (r_r10_check x13 (IntKind.i64.wrap (level_ + 1))).bind fun y14 => bif (!decide (y14 = 0)) then some (.inr (.inr (y14))) else some (.inl (IntKind.i64.wrap (s2 + 1))) else some (.inr (.inr (0)))
noncomputable def g_r10_check_L1 (r_r10_check : Ty → Int → Option (Int)) (t_ : Ty) (level_ : Int) (s1 : Int) : Option ((Int) ⊕ (Int)) :=
  bif (decide (s1 < (t_.names.length : Int))) then (idx t_.names s1).bind fun x5 => (g_r06_Identifier x5).bind fun y6 => bif (!y6) then some (.inr (7)) else bif (decide (s1 > 0)) then (idx t_.names (IntKind.i64.wrap (s1 - 1))).bind fun x9 => (idx t_.names s1).bind fun x10 => bif (!Op.bytesLess x9.toList x10.toList) then some (.inr (1)) else some (.inl (IntKind.i64.wrap (s1 + 1))) else some (.inl (IntKind.i64.wrap (s1 + 1))) else loopO (g_r10_check_L2 r_r10_check t_ level_) 0
noncomputable def g_r10_check (r_r10_check : Ty → Int → Option (Int)) (t_ : Ty) (level_ : Int) : Option (Int) :=
  bif (decide (level_ > 32)) then some (4) else (g_r10_shaped t_).bind fun y2 => bif (!y2) then some (1) else loopO (g_r10_check_L1 r_r10_check t_ level_) 0
theorem g_r10_check_ok (hb : Base E E0 G) (he : ∀ w, E w → EnvV w) (r_r10_check : Ty → Int → Option (Int)) (hr_r10_check : ∀ (a0 : Ty) (a1 : Int) (r : Int), r_r10_check a0 a1 = some r → Pure E E0 Tryz.prog 34 [.agg (aT a0), .cell (vi a1)] (c1 (vi r))) (t_ : Ty) (level_ : Int) (r_ : Int) (hq : g_r10_check r_r10_check t_ level_ = some r_) :
    Pure E E0 Tryz.prog 34 [.agg (aT t_), .cell (vi level_)] (c1 (vi r_)) := by
  refine pure_L Tryz.func34 rfl ?_
  refine L_keepF [0, 1] (T' := sl 61 [(0, .one (.agg (aT t_))), (1, c1 (vi level_))]) (by kernel_rfl) ?_
  refine L_seq ?_
  refine L_regF hb [1, 2] (T' := sl 61 [(1, c1 (vi level_)), (2, pt 0)]) (σ' := [bx (aT t_)]) (by kernel_rfl) ?_
  refine L_seq (L_seq ?_)
  refine L_regS hb [1, 2, 9] (T' := sl 61 [(1, c1 (vi level_)), (2, pt 0), (9, c1 (vB (decide (level_ > 32))))]) (by kernel_rfl) ?_
  refine L_if hb (b := (decide (level_ > 32))) (by kernel_rfl) (fun hc1 => ?_) (fun hc1 => ?_)
  · replace hq := cond_t hc1 hq
    refine L_seq ?_
    refine L_regS hb [4] (T' := sl 61 [(4, c1 (vi 4))]) (by kernel_rfl) ?_
    refine L_ret ?_
    have h0 := Option.some.inj hq
    obtain rfl := h0
    exact end_ret (by kernel_rfl)
  · replace hq := cond_f hc1 hq
    refine L_skip (L_seq (L_seq ?_))
    refine L_regK hb [1, 2, 12] (fun R hR => ?_)
    refine runDS 1 [(10, .one (.agg (aT t_)))] (by kernel_rfl) ?_
    obtain ⟨y2, hy2, hq⟩ := bind_inv hq
    refine callF (d := some 11) (by kernel_rfl) (g_r10_shaped_ok hb he t_ y2 hy2) ?_
    refine lastKS (T' := sl 61 [(1, c1 (vi level_)), (2, pt 0), (12, c1 (vB (!y2)))]) (by kernel_rfl) hR ?_
    refine L_if hb (b := (!y2)) (by kernel_rfl) (fun hc3 => ?_) (fun hc3 => ?_)
    · replace hq := cond_t hc3 hq
      refine L_seq ?_
      refine L_regS hb [4] (T' := sl 61 [(4, c1 (vi 1))]) (by kernel_rfl) ?_
      refine L_ret ?_
      have h0 := Option.some.inj hq
      obtain rfl := h0
      exact end_ret (by kernel_rfl)
    · replace hq := cond_f hc3 hq
      refine L_skip (L_seq (L_seq ?_))
      refine L_regS hb [1, 2, 5] (T' := sl 61 [(1, c1 (vi level_)), (2, pt 0), (5, c1 (vi 0))]) (by kernel_rfl) ?_
      refine L_block (fun K1 hA1 hB1 hC1 hD1 => ?_)
      refine L_backF [1, 2, 5] [] 1 (T' := sl 61 [(1, c1 (vi level_)), (2, pt 0), (5, c1 (vi 0))]) (σ' := [bx (aT t_)]) (by kernel_rfl) (by kernel_rfl) (by simp) (by kernel_rfl) ⟨(by kernel_rfl), trivial⟩ ?_
      refine L_as (by kernel_rfl) (by kernel_rfl) (L_loopO (body := (g_r10_check_L1 r_r10_check t_ level_)) (fun s1 => sl 61 [(1, c1 (vi level_)), (2, pt 0), (5, c1 (vi s1))]) (fun s1 => [bx (aT t_)]) (s0 := 0) (fun s1 x1 hq hn1 he1 => ?_) hq)
      refine L_seq (L_seq ?_)
      refine L_regS hb [1, 2, 5, 17] (T' := sl 61 [(1, c1 (vi level_)), (2, pt 0), (5, c1 (vi s1)), (17, c1 (vB (decide (s1 < (t_.names.length : Int)))))]) (by kernel_rfl) ?_
      refine L_if hb (b := (decide (s1 < (t_.names.length : Int)))) (by kernel_rfl) (fun hc4 => ?_) (fun hc4 => ?_)
      · replace hq := cond_t hc4 hq
        refine L_skip (L_seq (L_block (fun K2 hA2 hB2 hC2 hD2 => (L_seq (L_seq ?_)))))
        refine L_regK hb [1, 2, 5, 26] (fun R hR => ?_)
        refine runDS 3 [(20, c1 (.ptr 0 0 2)), (21, c1 (vL flS t_.names)), (22, c1 (vi s1))] (by kernel_rfl) ?_
        obtain ⟨x5, hx5, hq⟩ := bind_inv hq
        refine idxF flS (d := some 23) hx5 (by kernel_rfl) ?_
        refine runPS 1 [(23, c1 (.pv (.pp (flS.c x5 ++ flS.f (List.drop (s1.toNat + 1) t_.names))))), (24, c1 (vS x5))] (by kernel_rfl) ?_
        obtain ⟨y6, hy6, hq⟩ := bind_inv hq
        refine callF (d := some 25) (by kernel_rfl) (g_r06_Identifier_ok hb he x5 y6 hy6) ?_
        refine lastKS (T' := sl 61 [(1, c1 (vi level_)), (2, pt 0), (5, c1 (vi s1)), (26, c1 (vB (!y6)))]) (by kernel_rfl) hR ?_
        refine L_if hb (b := (!y6)) (by kernel_rfl) (fun hc7 => ?_) (fun hc7 => ?_)
        · replace hq := cond_t hc7 hq
          refine L_seq ?_
          refine L_regS hb [4] (T' := sl 61 [(4, c1 (vi 7))]) (by kernel_rfl) ?_
          refine L_ret (hD2 _ _ (hD1 _ _ ?_))
          have h0 := (Option.some.inj hq).symm
          replace h0 := he1 _ h0
          obtain rfl := h0
          exact end_ret (by kernel_rfl)
        · replace hq := cond_f hc7 hq
          refine L_skip (L_seq ?_)
          refine L_drwK hb mixed [1, 2, 5, 42] 14 (by kernel_rfl) (by kernel_rfl) (fun R hR => ?_)
          refine runDS 3 [(27, c1 (vi s1)), (28, c1 (vB (decide (s1 > 0)))), (29, c1 (vB (decide (s1 > 0))))] (by kernel_rfl) ?_
          refine partsD ((decide (s1 > 0))) (fun zz => [(28, c1 (vB zz)), (29, c1 (vB zz))]) (by kernel_rfl) (fun hc8 => ?_) (fun hc8 => ?_)
          · replace hq := cond_t hc8 hq
            refine runDS 4 [(30, c1 (.ptr 0 0 2)), (31, c1 (vL flS t_.names)), (32, c1 (vi s1)), (33, c1 (vi (IntKind.i64.wrap (s1 - 1))))] (by kernel_rfl) ?_
            obtain ⟨x9, hx9, hq⟩ := bind_inv hq
            refine idxF flS (d := some 34) hx9 (by kernel_rfl) ?_
            refine runPS 4 [(34, c1 (.pv (.pp (flS.c x9 ++ flS.f (List.drop ((IntKind.i64.wrap (s1 - 1)).toNat + 1) t_.names))))), (35, c1 (vS x9)), (36, c1 (.ptr 0 0 2)), (37, c1 (vL flS t_.names)), (38, c1 (vi s1))] (by kernel_rfl) ?_
            obtain ⟨x10, hx10, hq⟩ := bind_inv hq
            refine idxF flS (d := some 39) hx10 (by kernel_rfl) ?_
            refine lastFS (T' := sl 61 [(1, c1 (vi level_)), (2, pt 0), (5, c1 (vi s1)), (26, c1 (vB (!y6))), (27, c1 (vi s1)), (28, c1 (vB true)), (29, c1 (vB true)), (30, c1 (.ptr 0 0 2)), (31, c1 (vL flS t_.names)), (32, c1 (vi s1)), (33, c1 (vi (IntKind.i64.wrap (s1 - 1)))), (34, c1 (.pv (.pp (flS.c x9 ++ flS.f (List.drop ((IntKind.i64.wrap (s1 - 1)).toNat + 1) t_.names))))), (35, c1 (vS x9)), (36, c1 (.ptr 0 0 2)), (37, c1 (vL flS t_.names)), (38, c1 (vi s1)), (39, c1 (.pv (.pp (flS.c x10 ++ flS.f (List.drop (s1.toNat + 1) t_.names))))), (40, c1 (vS x10))]) (by kernel_rfl) ?_
            refine lastKS (T' := sl 61 [(1, c1 (vi level_)), (2, pt 0), (5, c1 (vi s1)), (42, c1 (vB (!Op.bytesLess x9.toList x10.toList)))]) (by kernel_rfl) hR ?_
            refine L_if hb (b := (!Op.bytesLess x9.toList x10.toList)) (by kernel_rfl) (fun hc11 => ?_) (fun hc11 => ?_)
            · replace hq := cond_t hc11 hq
              refine L_seq ?_
              refine L_regS hb [4] (T' := sl 61 [(4, c1 (vi 1))]) (by kernel_rfl) ?_
              refine L_ret (hD2 _ _ (hD1 _ _ ?_))
              have h0 := (Option.some.inj hq).symm
              replace h0 := he1 _ h0
              obtain rfl := h0
              exact end_ret (by kernel_rfl)
            · replace hq := cond_f hc11 hq
              refine L_skip (L_nil (hA2 _ _ ?_))
              refine L_regS hb [1, 2, 5] (T' := sl 61 [(1, c1 (vi level_)), (2, pt 0), (5, c1 (vi (IntKind.i64.wrap (s1 + 1))))]) (by kernel_rfl) ?_
              refine L_backF [1, 2, 5] [] 1 (T' := sl 61 [(1, c1 (vi level_)), (2, pt 0), (5, c1 (vi (IntKind.i64.wrap (s1 + 1))))]) (σ' := [bx (aT t_)]) (by kernel_rfl) (by kernel_rfl) (by simp) (by kernel_rfl) ⟨(by kernel_rfl), trivial⟩ ?_
              have h0 := (Option.some.inj hq).symm
              exact L_as (by kernel_rfl) (by kernel_rfl) (hn1 _ h0)
          · replace hq := cond_f hc8 hq
            refine lastFS (T' := sl 61 [(1, c1 (vi level_)), (2, pt 0), (5, c1 (vi s1)), (26, c1 (vB (!y6))), (27, c1 (vi s1)), (28, c1 (vB false)), (29, c1 (vB false)), (30, c1 (.undef)), (31, c1 (.undef)), (32, c1 (.undef)), (33, c1 (.undef)), (34, c1 (.undef)), (35, c1 (.undef)), (36, c1 (.undef)), (37, c1 (.undef)), (38, c1 (.undef)), (39, c1 (.undef)), (40, c1 (.undef))]) (by kernel_rfl) ?_
            refine lastKS (T' := sl 61 [(1, c1 (vi level_)), (2, pt 0), (5, c1 (vi s1)), (42, c1 (vB false))]) (by kernel_rfl) hR ?_
            refine L_false hb (by kernel_rfl) (L_skip (L_nil (hA2 _ _ ?_)))
            refine L_regS hb [1, 2, 5] (T' := sl 61 [(1, c1 (vi level_)), (2, pt 0), (5, c1 (vi (IntKind.i64.wrap (s1 + 1))))]) (by kernel_rfl) ?_
            refine L_backF [1, 2, 5] [] 1 (T' := sl 61 [(1, c1 (vi level_)), (2, pt 0), (5, c1 (vi (IntKind.i64.wrap (s1 + 1))))]) (σ' := [bx (aT t_)]) (by kernel_rfl) (by kernel_rfl) (by simp) (by kernel_rfl) ⟨(by kernel_rfl), trivial⟩ ?_
            have h0 := (Option.some.inj hq).symm
            exact L_as (by kernel_rfl) (by kernel_rfl) (hn1 _ h0)
      · replace hq := cond_f hc4 hq
        refine L_exit (hB1 _ _ (L_seq (L_seq ?_)))
        refine L_regS hb [1, 2, 6] (T' := sl 61 [(1, c1 (vi level_)), (2, pt 0), (6, c1 (vi 0))]) (by kernel_rfl) ?_
        refine L_block (fun K1 hA1 hB1 hC1 hD1 => ?_)
        refine L_backF [1, 2, 6] [] 1 (T' := sl 61 [(1, c1 (vi level_)), (2, pt 0), (6, c1 (vi 0))]) (σ' := [bx (aT t_)]) (by kernel_rfl) (by kernel_rfl) (by simp) (by kernel_rfl) ⟨(by kernel_rfl), trivial⟩ ?_
        refine L_as (by kernel_rfl) (by kernel_rfl) (L_loopO (body := (g_r10_check_L2 r_r10_check t_ level_)) (fun s2 => sl 61 [(1, c1 (vi level_)), (2, pt 0), (6, c1 (vi s2))]) (fun s2 => [bx (aT t_)]) (s0 := 0) (fun s2 x2 hq hn2 he2 => ?_) hq)
        refine L_seq (L_seq ?_)
        refine L_regS hb [1, 2, 6, 47] (T' := sl 61 [(1, c1 (vi level_)), (2, pt 0), (6, c1 (vi s2)), (47, c1 (vB (decide (s2 < (t_.elems.length : Int)))))]) (by kernel_rfl) ?_
        refine L_if hb (b := (decide (s2 < (t_.elems.length : Int)))) (by kernel_rfl) (fun hc12 => ?_) (fun hc12 => ?_)
        · replace hq := cond_t hc12 hq
          refine L_skip (L_seq (L_block (fun K2 hA2 hB2 hC2 hD2 => (L_seq ?_))))
          refine L_regK hb [1, 2, 6, 7] (fun R hR => ?_)
          refine runDS 3 [(50, c1 (.ptr 0 0 1)), (51, c1 (vL flT t_.elems)), (52, c1 (vi s2))] (by kernel_rfl) ?_
          obtain ⟨x13, hx13, hq⟩ := bind_inv hq
          refine idxF flT (d := some 53) hx13 (by kernel_rfl) ?_
          refine runPS 3 [(53, c1 (.pv (.pp (flT.c x13 ++ flT.f (List.drop (s2.toNat + 1) t_.elems))))), (54, .one (.agg (aT x13))), (55, c1 (vi level_)), (56, c1 (vi (IntKind.i64.wrap (level_ + 1))))] (by kernel_rfl) ?_
          obtain ⟨y14, hy14, hq⟩ := bind_inv hq
          refine callF (d := some 57) (by kernel_rfl) (hr_r10_check x13 (IntKind.i64.wrap (level_ + 1)) y14 hy14) ?_
          refine lastKS (T' := sl 61 [(1, c1 (vi level_)), (2, pt 0), (6, c1 (vi s2)), (7, c1 (vi y14))]) (by kernel_rfl) hR ?_
          refine L_seq ?_
          refine L_regS hb [1, 2, 6, 7, 59] (T' := sl 61 [(1, c1 (vi level_)), (2, pt 0), (6, c1 (vi s2)), (7, c1 (vi y14)), (59, c1 (vB (!decide (y14 = 0))))]) (by kernel_rfl) ?_
          refine L_if hb (b := (!decide (y14 = 0))) (by kernel_rfl) (fun hc15 => ?_) (fun hc15 => ?_)
          · replace hq := cond_t hc15 hq
            refine L_seq ?_
            refine L_regS hb [4] (T' := sl 61 [(4, c1 (vi y14))]) (by kernel_rfl) ?_
            refine L_ret (hD2 _ _ (hD1 _ _ ?_))
            have h0 := (Option.some.inj hq).symm
            replace h0 := he2 _ h0
            replace h0 := h0.symm
            replace h0 := he1 _ h0
            obtain rfl := h0
            exact end_ret (by kernel_rfl)
          · replace hq := cond_f hc15 hq
            refine L_skip (L_nil (hA2 _ _ ?_))
            refine L_regS hb [1, 2, 6] (T' := sl 61 [(1, c1 (vi level_)), (2, pt 0), (6, c1 (vi (IntKind.i64.wrap (s2 + 1))))]) (by kernel_rfl) ?_
            refine L_backF [1, 2, 6] [] 1 (T' := sl 61 [(1, c1 (vi level_)), (2, pt 0), (6, c1 (vi (IntKind.i64.wrap (s2 + 1))))]) (σ' := [bx (aT t_)]) (by kernel_rfl) (by kernel_rfl) (by simp) (by kernel_rfl) ⟨(by kernel_rfl), trivial⟩ ?_
            have h0 := (Option.some.inj hq).symm
            exact L_as (by kernel_rfl) (by kernel_rfl) (hn2 _ h0)
        · replace hq := cond_f hc12 hq
          refine L_exit (hB1 _ _ (L_seq ?_))
          refine L_regS hb [4] (T' := sl 61 [(4, c1 (vi 0))]) (by kernel_rfl) ?_
          refine L_ret ?_
          have h0 := (Option.some.inj hq).symm
          replace h0 := he2 _ h0
          replace h0 := h0.symm
          replace h0 := he1 _ h0
          obtain rfl := h0
          exact end_ret (by kernel_rfl)
noncomputable def t_r10_check_step (rec : Ty → Int → Option (Int)) (a : Ty) (b : Int) : Option (Int) :=
  g_r10_check (fun a0 a1 => rec a0 a1) a b
noncomputable def t_r10_check (a0 : Ty) (a1 : Int) : Option (Int) := tieF relT wfT t_r10_check_step a0 a1
theorem t_r10_check_ok (hb : Base E E0 G) (he : ∀ w, E w → EnvV w) (a0 : Ty) (a1 : Int) (r : Int) (hq : t_r10_check a0 a1 = some r) : Pure E E0 Tryz.prog 34 [.agg (aT a0), .cell (vi a1)] (c1 (vi r)) :=
  tieF_ok (C := fun a b r => Pure E E0 Tryz.prog 34 [.agg (aT a), .cell (vi b)] (c1 (vi r))) (fun rec hr a b r hq => g_r10_check_ok hb he (fun a0 a1 => rec a0 a1) (fun a0 a1 r e => hr a0 a1 r e) a b r hq) a0 a1 r hq
noncomputable def g_r10_Check  (t_ : Ty) : Option (Int) :=
  (t_r10_check t_ 1).bind fun y1 => some (y1)
theorem g_r10_Check_ok (hb : Base E E0 G) (he : ∀ w, E w → EnvV w)   (t_ : Ty) (r_ : Int) (hq : g_r10_Check t_ = some r_) :
    Pure E E0 Tryz.prog 19 [.agg (aT t_)] (c1 (vi r_)) := by
  refine pure_L Tryz.func19 rfl ?_
  refine L_keepF [0] (T' := sl 5 [(0, .one (.agg (aT t_)))]) (by kernel_rfl) ?_
  refine L_seq ?_
  refine L_regF hb [1] (T' := sl 5 [(1, pt 0)]) (σ' := [bx (aT t_)]) (by kernel_rfl) ?_
  refine L_seq ?_
  refine L_regK hb [2] (fun R hR => ?_)
  refine runDS 1 [(3, .one (.agg (aT t_)))] (by kernel_rfl) ?_
  obtain ⟨y1, hy1, hq⟩ := bind_inv hq
  refine callF (d := some 4) (by kernel_rfl) (t_r10_check_ok hb he t_ 1 y1 hy1) ?_
  refine lastKS (T' := sl 5 [(2, c1 (vi y1))]) (by kernel_rfl) hR ?_
  refine L_ret ?_
  have h0 := Option.some.inj hq
  obtain rfl := h0
  exact end_ret (by kernel_rfl)
noncomputable def g_l11_right  (v_ : Val) (t_ : Ty) : Option (Bool) :=
  (m_small v_ 200).bind fun y1 => bif y1 then (m_checkE v_).bind fun y3 => bif (decide (y3 = 0)) then (g_r10_Small t_ 200).bind fun y5 => bif y5 then (g_r10_Check t_).bind fun y7 => some (decide (y7 = 0)) else some (false) else some (false) else some (false)
theorem g_l11_right_ok (hb : Base E E0 G) (he : ∀ w, E w → EnvV w)   (v_ : Val) (t_ : Ty) (r_ : Bool) (hq : g_l11_right v_ t_ = some r_) :
    Pure E E0 Tryz.prog 5 [.agg (aV v_), .agg (aT t_)] (c1 (vB r_)) := by
  refine pure_L Tryz.func5 rfl ?_
  refine L_keepF [0, 1] (T' := sl 21 [(0, .one (.agg (aV v_))), (1, .one (.agg (aT t_)))]) (by kernel_rfl) ?_
  refine L_seq ?_
  refine L_regF hb [2, 3] (T' := sl 21 [(2, pt 0), (3, pt 1)]) (σ' := [bx (aV v_), bx (aT t_)]) (by kernel_rfl) ?_
  refine L_seq ?_
  refine L_regK hb [4] (fun R hR => ?_)
  refine runDS 1 [(5, .one (.agg (aV v_)))] (by kernel_rfl) ?_
  obtain ⟨y1, hy1, hq⟩ := bind_inv hq
  refine callF (d := some 6) (by kernel_rfl) (rSmall_g hb he v_ 200 y1 hy1) ?_
  refine runPS 1 [(6, c1 (vB y1)), (7, c1 (vB y1))] (by kernel_rfl) ?_
  refine partsD (y1) (fun zz => [(6, c1 (vB zz)), (7, c1 (vB zz))]) (by kernel_rfl) (fun hc2 => ?_) (fun hc2 => ?_)
  · replace hq := cond_t hc2 hq
    refine runDS 1 [(8, .one (.agg (aV v_)))] (by kernel_rfl) ?_
    obtain ⟨y3, hy3, hq⟩ := bind_inv hq
    refine callF (d := some 9) (by kernel_rfl) (rCheck_g hb he v_ y3 hy3) ?_
    refine runPS 3 [(9, c1 (vi y3)), (10, c1 (vB (decide (y3 = 0)))), (11, c1 (vB (decide (y3 = 0)))), (12, c1 (vB (decide (y3 = 0))))] (by kernel_rfl) ?_
    refine partsD ((decide (y3 = 0))) (fun zz => [(10, c1 (vB zz)), (11, c1 (vB zz)), (12, c1 (vB zz))]) (by kernel_rfl) (fun hc4 => ?_) (fun hc4 => ?_)
    · replace hq := cond_t hc4 hq
      refine runDS 1 [(13, .one (.agg (aT t_)))] (by kernel_rfl) ?_
      obtain ⟨y5, hy5, hq⟩ := bind_inv hq
      refine callF (d := some 14) (by kernel_rfl) (g_r10_Small_ok hb he t_ 200 y5 hy5) ?_
      refine runPS 2 [(14, c1 (vB y5)), (15, c1 (vB y5)), (16, c1 (vB y5))] (by kernel_rfl) ?_
      refine partsD (y5) (fun zz => [(14, c1 (vB zz)), (15, c1 (vB zz)), (16, c1 (vB zz))]) (by kernel_rfl) (fun hc6 => ?_) (fun hc6 => ?_)
      · replace hq := cond_t hc6 hq
        refine runDS 1 [(17, .one (.agg (aT t_)))] (by kernel_rfl) ?_
        obtain ⟨y7, hy7, hq⟩ := bind_inv hq
        refine callF (d := some 18) (by kernel_rfl) (g_r10_Check_ok hb he t_ y7 hy7) ?_
        refine lastKS (T' := sl 21 [(4, c1 (vB (decide (y7 = 0))))]) (by kernel_rfl) hR ?_
        refine L_ret ?_
        have h0 := Option.some.inj hq
        obtain rfl := h0
        exact end_ret (by kernel_rfl)
      · replace hq := cond_f hc6 hq
        refine lastKS (T' := sl 21 [(4, c1 (vB false))]) (by kernel_rfl) hR ?_
        refine L_ret ?_
        have h0 := Option.some.inj hq
        obtain rfl := h0
        exact end_ret (by kernel_rfl)
    · replace hq := cond_f hc4 hq
      refine lastKS (T' := sl 21 [(4, c1 (vB false))]) (by kernel_rfl) hR ?_
      refine L_ret ?_
      have h0 := Option.some.inj hq
      obtain rfl := h0
      exact end_ret (by kernel_rfl)
  · replace hq := cond_f hc2 hq
    refine lastKS (T' := sl 21 [(4, c1 (vB false))]) (by kernel_rfl) hR ?_
    refine L_ret ?_
    have h0 := Option.some.inj hq
    obtain rfl := h0
    exact end_ret (by kernel_rfl)
noncomputable def g_value_Bool  (b_ : Bool) : Option (Val) :=
  bif b_ then some (Val.mk 1 1 eS [] []) else some (Val.mk 1 0 eS [] [])
theorem g_value_Bool_ok (hb : Base E E0 G) (he : ∀ w, E w → EnvV w)   (b_ : Bool) (r_ : Val) (hq : g_value_Bool b_ = some r_) :
    Pure E E0 Tryz.prog 54 [.cell (vB b_)] (.one (.agg (aV r_))) := by
  refine pure_L Tryz.func54 rfl ?_
  refine L_keepF [0] (T' := sl 8 [(0, c1 (vB b_))]) (by kernel_rfl) ?_
  refine L_seq ?_
  refine L_regF hb [0, 2] (T' := sl 8 [(0, c1 (vB b_)), (2, pt 0)]) (σ' := [bx zV]) (by kernel_rfl) ?_
  refine L_seq ?_
  refine L_regF hb [0, 2, 3] (T' := sl 8 [(0, c1 (vB b_)), (2, pt 0), (3, pt 1)]) (σ' := [bx zV, bx [vi 1, vi 0, vS eS, vN, vN]]) (by kernel_rfl) ?_
  refine L_seq (L_seq ?_)
  refine L_regS hb [2, 3, 5] (T' := sl 8 [(2, pt 0), (3, pt 1), (5, c1 (vB b_))]) (by kernel_rfl) ?_
  refine L_if hb (b := b_) (by kernel_rfl) (fun hc1 => ?_) (fun hc1 => ?_)
  · replace hq := cond_t hc1 hq
    refine L_regF hb [2, 3] (T' := sl 8 [(2, pt 0), (3, pt 1)]) (σ' := [bx zV, bx [vi 1, vi 1, vS eS, vN, vN]]) (by kernel_rfl) ?_
    refine L_seq ?_
    refine L_regF hb [2] (T' := sl 8 [(2, pt 0)]) (σ' := [bx [vi 1, vi 1, vS eS, vN, vN], bx [vi 1, vi 1, vS eS, vN, vN]]) (by kernel_rfl) ?_
    refine L_ret ?_
    have h0 := Option.some.inj hq
    obtain rfl := h0
    exact end_ret (by kernel_rfl)
  · replace hq := cond_f hc1 hq
    refine L_skip (L_seq ?_)
    refine L_regF hb [2] (T' := sl 8 [(2, pt 0)]) (σ' := [bx [vi 1, vi 0, vS eS, vN, vN], bx [vi 1, vi 0, vS eS, vN, vN]]) (by kernel_rfl) ?_
    refine L_ret ?_
    have h0 := Option.some.inj hq
    obtain rfl := h0
    exact end_ret (by kernel_rfl)
noncomputable def g_convert_toBool  (v_ : Val) : Option (Val × Int) :=
  bif (decide (v_.kind = 1)) then some (v_, 0) else bif (decide (v_.kind = 3)) then bif (decide (v_.str = (⟨#[116, 114, 117, 101]⟩ : ByteArray))) then (g_value_Bool true).bind fun y4 => some (y4, 0) else bif (decide (v_.str = (⟨#[102, 97, 108, 115, 101]⟩ : ByteArray))) then (g_value_Bool false).bind fun y6 => some (y6, 0) else some ((Val.mk 0 0 eS [] []), 6) else some ((Val.mk 0 0 eS [] []), 6)
theorem g_convert_toBool_ok (hb : Base E E0 G) (he : ∀ w, E w → EnvV w)   (v_ : Val) (r_ : Val × Int) (hq : g_convert_toBool v_ = some r_) :
    Pure E E0 Tryz.prog 36 [.agg (aV v_)] (.tup [.agg (aV r_.1), .cell (vi r_.2)]) := by
  refine pure_L Tryz.func36 rfl ?_
  refine L_keepF [0] (T' := sl 30 [(0, .one (.agg (aV v_)))]) (by kernel_rfl) ?_
  refine L_seq ?_
  refine L_regF hb [1, 2] (T' := sl 30 [(1, pt 0), (2, pt 1)]) (σ' := [bx (aV v_), bx zV]) (by kernel_rfl) ?_
  refine L_seq (L_block (fun K1 hA1 hB1 hC1 hD1 => (L_seq ?_)))
  refine L_regS hb [1, 2, 4] (T' := sl 30 [(1, pt 0), (2, pt 1), (4, c1 (vB (decide (v_.kind = 1))))]) (by kernel_rfl) ?_
  refine L_if hb (b := (decide (v_.kind = 1))) (by kernel_rfl) (fun hc1 => ?_) (fun hc1 => ?_)
  · replace hq := cond_t hc1 hq
    refine L_seq ?_
    refine L_regF hb [2, 3] (T' := sl 30 [(2, pt 1), (3, c1 (vi 0))]) (σ' := [bx (aV v_), bx (aV v_)]) (by kernel_rfl) ?_
    refine L_ret (hD1 _ _ ?_)
    have h0 := Option.some.inj hq
    obtain rfl := h0
    exact end_ret (by kernel_rfl)
  · replace hq := cond_f hc1 hq
    refine L_seq ?_
    refine L_regK hb [1, 2, 9] (fun R hR => ?_)
    refine runDS 4 [(10, pt 0), (11, c1 (vi v_.kind)), (12, c1 (vB (decide (v_.kind = 3)))), (13, c1 (vB (decide (v_.kind = 3))))] (by kernel_rfl) ?_
    refine partsD ((decide (v_.kind = 3))) (fun zz => [(12, c1 (vB zz)), (13, c1 (vB zz))]) (by kernel_rfl) (fun hc2 => ?_) (fun hc2 => ?_)
    · replace hq := cond_t hc2 hq
      refine lastKS (T' := sl 30 [(1, pt 0), (2, pt 1), (9, c1 (vB (decide (v_.str = (⟨#[116, 114, 117, 101]⟩ : ByteArray)))))]) (by kernel_rfl) hR ?_
      refine L_if hb (b := (decide (v_.str = (⟨#[116, 114, 117, 101]⟩ : ByteArray)))) (by kernel_rfl) (fun hc3 => ?_) (fun hc3 => ?_)
      · replace hq := cond_t hc3 hq
        refine L_seq ?_
        refine L_regK hb [2, 3] (fun R hR => ?_)
        obtain ⟨y4, hy4, hq⟩ := bind_inv hq
        refine callF (d := some 18) (by kernel_rfl) (g_value_Bool_ok hb he true y4 hy4) ?_
        refine lastK (T' := sl 30 [(2, pt 1), (3, c1 (vi 0))]) (σ' := [bx (aV v_), bx (aV y4)]) (by kernel_rfl) hR ?_
        refine L_ret (hD1 _ _ ?_)
        have h0 := Option.some.inj hq
        obtain rfl := h0
        exact end_ret (by kernel_rfl)
      · replace hq := cond_f hc3 hq
        refine L_seq ?_
        refine L_regK hb [2, 19] (fun R hR => ?_)
        refine runDS 4 [(20, pt 0), (21, c1 (vi v_.kind)), (22, c1 (vB (decide (v_.kind = 3)))), (23, c1 (vB (decide (v_.kind = 3))))] (by kernel_rfl) ?_
        refine partsDT ((decide (v_.kind = 3))) (fun zz => [(22, c1 (vB zz)), (23, c1 (vB zz))]) (by kernel_rfl) hc2 ?_
        refine lastKS (T' := sl 30 [(2, pt 1), (19, c1 (vB (decide (v_.str = (⟨#[102, 97, 108, 115, 101]⟩ : ByteArray)))))]) (by kernel_rfl) hR ?_
        refine L_if hb (b := (decide (v_.str = (⟨#[102, 97, 108, 115, 101]⟩ : ByteArray)))) (by kernel_rfl) (fun hc5 => ?_) (fun hc5 => ?_)
        · replace hq := cond_t hc5 hq
          refine L_seq ?_
          refine L_regK hb [2, 3] (fun R hR => ?_)
          obtain ⟨y6, hy6, hq⟩ := bind_inv hq
          refine callF (d := some 28) (by kernel_rfl) (g_value_Bool_ok hb he false y6 hy6) ?_
          refine lastK (T' := sl 30 [(2, pt 1), (3, c1 (vi 0))]) (σ' := [bx (aV v_), bx (aV y6)]) (by kernel_rfl) hR ?_
          refine L_ret (hD1 _ _ ?_)
          have h0 := Option.some.inj hq
          obtain rfl := h0
          exact end_ret (by kernel_rfl)
        · replace hq := cond_f hc5 hq
          refine L_skip (L_nil (hA1 _ _ (L_seq ?_)))
          refine L_regS hb [2, 3] (T' := sl 30 [(2, pt 1), (3, c1 (vi 6))]) (by kernel_rfl) ?_
          refine L_ret ?_
          have h0 := Option.some.inj hq
          obtain rfl := h0
          exact end_ret (by kernel_rfl)
    · replace hq := cond_f hc2 hq
      refine lastKS (T' := sl 30 [(1, pt 0), (2, pt 1), (9, c1 (vB false))]) (by kernel_rfl) hR ?_
      refine L_false hb (by kernel_rfl) (L_seq ?_)
      refine L_regK hb [2, 19] (fun R hR => ?_)
      refine runDS 4 [(20, pt 0), (21, c1 (vi v_.kind)), (22, c1 (vB (decide (v_.kind = 3)))), (23, c1 (vB (decide (v_.kind = 3))))] (by kernel_rfl) ?_
      refine partsDF ((decide (v_.kind = 3))) (fun zz => [(22, c1 (vB zz)), (23, c1 (vB zz))]) (by kernel_rfl) hc2 ?_
      refine lastKS (T' := sl 30 [(2, pt 1), (19, c1 (vB false))]) (by kernel_rfl) hR ?_
      refine L_false hb (by kernel_rfl) (L_skip (L_nil (hA1 _ _ (L_seq ?_))))
      refine L_regS hb [2, 3] (T' := sl 30 [(2, pt 1), (3, c1 (vi 6))]) (by kernel_rfl) ?_
      refine L_ret ?_
      have h0 := Option.some.inj hq
      obtain rfl := h0
      exact end_ret (by kernel_rfl)
noncomputable def g_value_Number  (n_ : Int) : Option (Val) :=
  some (Val.mk 2 n_ eS [] [])
theorem g_value_Number_ok (hb : Base E E0 G) (he : ∀ w, E w → EnvV w)   (n_ : Int) (r_ : Val) (hq : g_value_Number n_ = some r_) :
    Pure E E0 Tryz.prog 56 [.cell (vi n_)] (.one (.agg (aV r_))) := by
  refine pure_L Tryz.func56 rfl ?_
  refine L_keepF [0] (T' := sl 5 [(0, c1 (vi n_))]) (by kernel_rfl) ?_
  refine L_seq ?_
  refine L_regF hb [0, 2] (T' := sl 5 [(0, c1 (vi n_)), (2, pt 0)]) (σ' := [bx zV]) (by kernel_rfl) ?_
  refine L_seq ?_
  refine L_regF hb [2] (T' := sl 5 [(2, pt 0)]) (σ' := [bx [vi 2, vi n_, vS eS, vN, vN]]) (by kernel_rfl) ?_
  refine L_ret ?_
  have h0 := Option.some.inj hq
  obtain rfl := h0
  exact end_ret (by kernel_rfl)
noncomputable def g_convert_toNumber  (v_ : Val) : Option (Val × Int) :=
  bif (decide (v_.kind = 2)) then some (v_, 0) else bif (!decide (v_.kind = 3)) then some ((Val.mk 0 0 eS [] []), 6) else (m_parse v_.str).bind fun y3 => bif (!decide (y3.2 = 0)) then some ((Val.mk 0 0 eS [] []), 6) else (g_value_Number y3.1).bind fun y5 => some (y5, 0)
theorem g_convert_toNumber_ok (hb : Base E E0 G) (he : ∀ w, E w → EnvV w)   (v_ : Val) (r_ : Val × Int) (hq : g_convert_toNumber v_ = some r_) :
    Pure E E0 Tryz.prog 37 [.agg (aV v_)] (.tup [.agg (aV r_.1), .cell (vi r_.2)]) := by
  refine pure_L Tryz.func37 rfl ?_
  refine L_keepF [0] (T' := sl 25 [(0, .one (.agg (aV v_)))]) (by kernel_rfl) ?_
  refine L_seq ?_
  refine L_regF hb [1, 2] (T' := sl 25 [(1, pt 0), (2, pt 1)]) (σ' := [bx (aV v_), bx zV]) (by kernel_rfl) ?_
  refine L_seq (L_seq ?_)
  refine L_regS hb [1, 2, 8] (T' := sl 25 [(1, pt 0), (2, pt 1), (8, c1 (vB (decide (v_.kind = 2))))]) (by kernel_rfl) ?_
  refine L_if hb (b := (decide (v_.kind = 2))) (by kernel_rfl) (fun hc1 => ?_) (fun hc1 => ?_)
  · replace hq := cond_t hc1 hq
    refine L_seq ?_
    refine L_regF hb [2, 3] (T' := sl 25 [(2, pt 1), (3, c1 (vi 0))]) (σ' := [bx (aV v_), bx (aV v_)]) (by kernel_rfl) ?_
    refine L_ret ?_
    have h0 := Option.some.inj hq
    obtain rfl := h0
    exact end_ret (by kernel_rfl)
  · replace hq := cond_f hc1 hq
    refine L_skip (L_seq (L_seq ?_))
    refine L_regS hb [1, 2, 12] (T' := sl 25 [(1, pt 0), (2, pt 1), (12, c1 (vB (!decide (v_.kind = 3))))]) (by kernel_rfl) ?_
    refine L_if hb (b := (!decide (v_.kind = 3))) (by kernel_rfl) (fun hc2 => ?_) (fun hc2 => ?_)
    · replace hq := cond_t hc2 hq
      refine L_seq ?_
      refine L_regS hb [2, 3] (T' := sl 25 [(2, pt 1), (3, c1 (vi 6))]) (by kernel_rfl) ?_
      refine L_ret ?_
      have h0 := Option.some.inj hq
      obtain rfl := h0
      exact end_ret (by kernel_rfl)
    · replace hq := cond_f hc2 hq
      refine L_skip (L_seq ?_)
      refine L_regK hb [2, 4, 5] (fun R hR => ?_)
      refine runDS 2 [(15, c1 (.ptr 0 0 2)), (16, c1 (vS v_.str))] (by kernel_rfl) ?_
      obtain ⟨y3, hy3, hq⟩ := bind_inv hq
      refine callF (d := some 17) (by kernel_rfl) (parse_g hb he v_.str y3 hy3) ?_
      refine lastKS (T' := sl 25 [(2, pt 1), (4, c1 (vi y3.1)), (5, c1 (vi y3.2))]) (by kernel_rfl) hR ?_
      refine L_seq (L_seq ?_)
      refine L_regS hb [2, 4, 21] (T' := sl 25 [(2, pt 1), (4, c1 (vi y3.1)), (21, c1 (vB (!decide (y3.2 = 0))))]) (by kernel_rfl) ?_
      refine L_if hb (b := (!decide (y3.2 = 0))) (by kernel_rfl) (fun hc4 => ?_) (fun hc4 => ?_)
      · replace hq := cond_t hc4 hq
        refine L_seq ?_
        refine L_regS hb [2, 3] (T' := sl 25 [(2, pt 1), (3, c1 (vi 6))]) (by kernel_rfl) ?_
        refine L_ret ?_
        have h0 := Option.some.inj hq
        obtain rfl := h0
        exact end_ret (by kernel_rfl)
      · replace hq := cond_f hc4 hq
        refine L_skip (L_seq ?_)
        refine L_regK hb [2, 3] (fun R hR => ?_)
        refine runDS 1 [(23, c1 (vi y3.1))] (by kernel_rfl) ?_
        obtain ⟨y5, hy5, hq⟩ := bind_inv hq
        refine callF (d := some 24) (by kernel_rfl) (g_value_Number_ok hb he y3.1 y5 hy5) ?_
        refine lastK (T' := sl 25 [(2, pt 1), (3, c1 (vi 0))]) (σ' := [bx (aV v_), bx (aV y5)]) (by kernel_rfl) hR ?_
        refine L_ret ?_
        have h0 := Option.some.inj hq
        obtain rfl := h0
        exact end_ret (by kernel_rfl)
noncomputable def g_value_String  (s_ : ByteArray) : Option (Val) :=
  some (Val.mk 3 0 s_ [] [])
theorem g_value_String_ok (hb : Base E E0 G) (he : ∀ w, E w → EnvV w)   (s_ : ByteArray) (r_ : Val) (hq : g_value_String s_ = some r_) :
    Pure E E0 Tryz.prog 57 [.cell (vS s_)] (.one (.agg (aV r_))) := by
  refine pure_L Tryz.func57 rfl ?_
  refine L_keepF [0] (T' := sl 5 [(0, c1 (vS s_))]) (by kernel_rfl) ?_
  refine L_seq ?_
  refine L_regF hb [0, 2] (T' := sl 5 [(0, c1 (vS s_)), (2, pt 0)]) (σ' := [bx zV]) (by kernel_rfl) ?_
  refine L_seq ?_
  refine L_regF hb [2] (T' := sl 5 [(2, pt 0)]) (σ' := [bx [vi 3, vi 0, vS s_, vN, vN]]) (by kernel_rfl) ?_
  refine L_ret ?_
  have h0 := Option.some.inj hq
  obtain rfl := h0
  exact end_ret (by kernel_rfl)
noncomputable def g_convert_toString  (v_ : Val) : Option (Val × Int) :=
  bif (decide (v_.kind = 3)) then some (v_, 0) else bif (decide (v_.kind = 2)) then (m_format v_.num).bind fun y3 => (g_value_String y3).bind fun y4 => some (y4, 0) else bif (decide (v_.kind = 1)) then bif (decide (v_.num = 1)) then (g_value_String (⟨#[116, 114, 117, 101]⟩ : ByteArray)).bind fun y7 => some (y7, 0) else (g_value_String (⟨#[102, 97, 108, 115, 101]⟩ : ByteArray)).bind fun y8 => some (y8, 0) else some ((Val.mk 0 0 eS [] []), 6)
theorem g_convert_toString_ok (hb : Base E E0 G) (he : ∀ w, E w → EnvV w)   (v_ : Val) (r_ : Val × Int) (hq : g_convert_toString v_ = some r_) :
    Pure E E0 Tryz.prog 38 [.agg (aV v_)] (.tup [.agg (aV r_.1), .cell (vi r_.2)]) := by
  refine pure_L Tryz.func38 rfl ?_
  refine L_keepF [0] (T' := sl 33 [(0, .one (.agg (aV v_)))]) (by kernel_rfl) ?_
  refine L_seq ?_
  refine L_regF hb [1, 2] (T' := sl 33 [(1, pt 0), (2, pt 1)]) (σ' := [bx (aV v_), bx zV]) (by kernel_rfl) ?_
  refine L_seq (L_block (fun K1 hA1 hB1 hC1 hD1 => (L_seq ?_)))
  refine L_regS hb [1, 2, 4] (T' := sl 33 [(1, pt 0), (2, pt 1), (4, c1 (vB (decide (v_.kind = 3))))]) (by kernel_rfl) ?_
  refine L_if hb (b := (decide (v_.kind = 3))) (by kernel_rfl) (fun hc1 => ?_) (fun hc1 => ?_)
  · replace hq := cond_t hc1 hq
    refine L_seq ?_
    refine L_regF hb [2, 3] (T' := sl 33 [(2, pt 1), (3, c1 (vi 0))]) (σ' := [bx (aV v_), bx (aV v_)]) (by kernel_rfl) ?_
    refine L_ret (hD1 _ _ ?_)
    have h0 := Option.some.inj hq
    obtain rfl := h0
    exact end_ret (by kernel_rfl)
  · replace hq := cond_f hc1 hq
    refine L_seq ?_
    refine L_regS hb [1, 2, 9] (T' := sl 33 [(1, pt 0), (2, pt 1), (9, c1 (vB (decide (v_.kind = 2))))]) (by kernel_rfl) ?_
    refine L_if hb (b := (decide (v_.kind = 2))) (by kernel_rfl) (fun hc2 => ?_) (fun hc2 => ?_)
    · replace hq := cond_t hc2 hq
      refine L_seq ?_
      refine L_regK hb [2, 3] (fun R hR => ?_)
      refine runDS 2 [(13, c1 (.ptr 0 0 1)), (14, c1 (vi v_.num))] (by kernel_rfl) ?_
      obtain ⟨y3, hy3, hq⟩ := bind_inv hq
      refine callF (d := some 15) (by kernel_rfl) (format_g hb he v_.num y3 hy3) ?_
      obtain ⟨y4, hy4, hq⟩ := bind_inv hq
      refine callF (d := some 16) (by kernel_rfl) (g_value_String_ok hb he y3 y4 hy4) ?_
      refine lastK (T' := sl 33 [(2, pt 1), (3, c1 (vi 0))]) (σ' := [bx (aV v_), bx (aV y4)]) (by kernel_rfl) hR ?_
      refine L_ret (hD1 _ _ ?_)
      have h0 := Option.some.inj hq
      obtain rfl := h0
      exact end_ret (by kernel_rfl)
    · replace hq := cond_f hc2 hq
      refine L_seq ?_
      refine L_regK hb [1, 2, 17] (fun R hR => ?_)
      refine runDS 4 [(18, pt 0), (19, c1 (vi v_.kind)), (20, c1 (vB (decide (v_.kind = 1)))), (21, c1 (vB (decide (v_.kind = 1))))] (by kernel_rfl) ?_
      refine partsD ((decide (v_.kind = 1))) (fun zz => [(20, c1 (vB zz)), (21, c1 (vB zz))]) (by kernel_rfl) (fun hc5 => ?_) (fun hc5 => ?_)
      · replace hq := cond_t hc5 hq
        refine lastKS (T' := sl 33 [(1, pt 0), (2, pt 1), (17, c1 (vB (decide (v_.num = 1))))]) (by kernel_rfl) hR ?_
        refine L_if hb (b := (decide (v_.num = 1))) (by kernel_rfl) (fun hc6 => ?_) (fun hc6 => ?_)
        · replace hq := cond_t hc6 hq
          refine L_seq ?_
          refine L_regK hb [2, 3] (fun R hR => ?_)
          obtain ⟨y7, hy7, hq⟩ := bind_inv hq
          refine callF (d := some 26) (by kernel_rfl) (g_value_String_ok hb he (⟨#[116, 114, 117, 101]⟩ : ByteArray) y7 hy7) ?_
          refine lastK (T' := sl 33 [(2, pt 1), (3, c1 (vi 0))]) (σ' := [bx (aV v_), bx (aV y7)]) (by kernel_rfl) hR ?_
          refine L_ret (hD1 _ _ ?_)
          have h0 := Option.some.inj hq
          obtain rfl := h0
          exact end_ret (by kernel_rfl)
        · replace hq := cond_f hc6 hq
          refine L_seq ?_
          refine L_regS hb [2, 27] (T' := sl 33 [(2, pt 1), (27, c1 (vB (decide (v_.kind = 1))))]) (by kernel_rfl) ?_
          refine L_ifT hb (b := (decide (v_.kind = 1))) (by kernel_rfl) hc5 ?_
          refine L_seq ?_
          refine L_regK hb [2, 3] (fun R hR => ?_)
          obtain ⟨y8, hy8, hq⟩ := bind_inv hq
          refine callF (d := some 31) (by kernel_rfl) (g_value_String_ok hb he (⟨#[102, 97, 108, 115, 101]⟩ : ByteArray) y8 hy8) ?_
          refine lastK (T' := sl 33 [(2, pt 1), (3, c1 (vi 0))]) (σ' := [bx (aV v_), bx (aV y8)]) (by kernel_rfl) hR ?_
          refine L_ret (hD1 _ _ ?_)
          have h0 := Option.some.inj hq
          obtain rfl := h0
          exact end_ret (by kernel_rfl)
      · replace hq := cond_f hc5 hq
        refine lastKS (T' := sl 33 [(1, pt 0), (2, pt 1), (17, c1 (vB false))]) (by kernel_rfl) hR ?_
        refine L_false hb (by kernel_rfl) (L_seq ?_)
        refine L_regS hb [2, 27] (T' := sl 33 [(2, pt 1), (27, c1 (vB (decide (v_.kind = 1))))]) (by kernel_rfl) ?_
        refine L_ifF hb (b := (decide (v_.kind = 1))) (by kernel_rfl) hc5 ?_
        refine L_skip (L_nil (hA1 _ _ (L_seq ?_)))
        refine L_regS hb [2, 3] (T' := sl 33 [(2, pt 1), (3, c1 (vi 6))]) (by kernel_rfl) ?_
        refine L_ret ?_
        have h0 := Option.some.inj hq
        obtain rfl := h0
        exact end_ret (by kernel_rfl)
noncomputable def g_slices_Index_L1 (s_ : List ByteArray) (v_ : ByteArray) (s1 : Int) : Option ((Int) ⊕ (Int)) :=
  bif (decide (s1 < (s_.length : Int))) then (idx s_ s1).bind fun x2 => bif (decide (v_ = x2)) then some (.inr (s1)) else some (.inl (IntKind.i64.wrap (s1 + 1))) else some (.inr (-1))
noncomputable def g_slices_Index  (s_ : List ByteArray) (v_ : ByteArray) : Option (Int) :=
  loopO (g_slices_Index_L1 s_ v_) 0
theorem g_slices_Index_ok (hb : Base E E0 G) (he : ∀ w, E w → EnvV w)   (s_ : List ByteArray) (v_ : ByteArray) (r_ : Int) (hq : g_slices_Index s_ v_ = some r_) :
    Pure E E0 Tryz.prog 82 [.cell (vL flS s_), .cell (vS v_)] (c1 (vi r_)) := by
  refine pure_L Tryz.func82 rfl ?_
  refine L_keepF [0, 1] (T' := sl 19 [(0, c1 (vL flS s_)), (1, c1 (vS v_))]) (by kernel_rfl) ?_
  refine L_seq ?_
  refine L_regS hb [0, 1] (T' := sl 19 [(0, c1 (vL flS s_)), (1, c1 (vS v_))]) (by kernel_rfl) ?_
  refine L_seq (L_seq ?_)
  refine L_regS hb [0, 1, 7, 8] (T' := sl 19 [(0, c1 (vL flS s_)), (1, c1 (vS v_)), (7, c1 (vi (s_.length : Int))), (8, c1 (vi 0))]) (by kernel_rfl) ?_
  refine L_block (fun K1 hA1 hB1 hC1 hD1 => ?_)
  refine L_backF [0, 1, 7, 8] [] 0 (T' := sl 19 [(0, c1 (vL flS s_)), (1, c1 (vS v_)), (7, c1 (vi (s_.length : Int))), (8, c1 (vi 0))]) (σ' := []) (by kernel_rfl) (by kernel_rfl) (by simp) (by kernel_rfl) trivial ?_
  refine L_as (by kernel_rfl) (by kernel_rfl) (L_loopO (body := (g_slices_Index_L1 s_ v_)) (fun s1 => sl 19 [(0, c1 (vL flS s_)), (1, c1 (vS v_)), (7, c1 (vi (s_.length : Int))), (8, c1 (vi s1))]) (fun s1 => []) (s0 := 0) (fun s1 x1 hq hn1 he1 => ?_) hq)
  refine L_seq ?_
  refine L_regS hb [0, 1, 7, 8, 9] (T' := sl 19 [(0, c1 (vL flS s_)), (1, c1 (vS v_)), (7, c1 (vi (s_.length : Int))), (8, c1 (vi s1)), (9, c1 (vB (decide (s1 < (s_.length : Int)))))]) (by kernel_rfl) ?_
  refine L_seq ?_
  refine L_if hb (b := (decide (s1 < (s_.length : Int)))) (by kernel_rfl) (fun hc1 => ?_) (fun hc1 => ?_)
  · replace hq := cond_t hc1 hq
    refine L_skip (L_seq (L_block (fun K2 hA2 hB2 hC2 hD2 => (L_seq ?_))))
    refine L_regS hb [0, 1, 5, 7, 8] (T' := sl 19 [(0, c1 (vL flS s_)), (1, c1 (vS v_)), (5, c1 (vi s1)), (7, c1 (vi (s_.length : Int))), (8, c1 (vi s1))]) (by kernel_rfl) ?_
    refine L_seq ?_
    refine L_regK hb [0, 1, 5, 7, 8, 16] (fun R hR => ?_)
    refine runDS 3 [(11, c1 (vS v_)), (12, c1 (vL flS s_)), (13, c1 (vi s1))] (by kernel_rfl) ?_
    obtain ⟨x2, hx2, hq⟩ := bind_inv hq
    refine idxF flS (d := some 14) hx2 (by kernel_rfl) ?_
    refine lastKS (T' := sl 19 [(0, c1 (vL flS s_)), (1, c1 (vS v_)), (5, c1 (vi s1)), (7, c1 (vi (s_.length : Int))), (8, c1 (vi s1)), (16, c1 (vB (decide (v_ = x2))))]) (by kernel_rfl) hR ?_
    refine L_if hb (b := (decide (v_ = x2))) (by kernel_rfl) (fun hc3 => ?_) (fun hc3 => ?_)
    · replace hq := cond_t hc3 hq
      refine L_seq ?_
      refine L_regS hb [4] (T' := sl 19 [(4, c1 (vi s1))]) (by kernel_rfl) ?_
      refine L_ret (hD2 _ _ (hD1 _ _ ?_))
      have h0 := (Option.some.inj hq).symm
      replace h0 := he1 _ h0
      obtain rfl := h0
      exact end_ret (by kernel_rfl)
    · replace hq := cond_f hc3 hq
      refine L_skip (L_nil (hA2 _ _ ?_))
      refine L_regS hb [0, 1, 7, 8] (T' := sl 19 [(0, c1 (vL flS s_)), (1, c1 (vS v_)), (7, c1 (vi (s_.length : Int))), (8, c1 (vi (IntKind.i64.wrap (s1 + 1))))]) (by kernel_rfl) ?_
      refine L_backF [0, 1, 7, 8] [] 0 (T' := sl 19 [(0, c1 (vL flS s_)), (1, c1 (vS v_)), (7, c1 (vi (s_.length : Int))), (8, c1 (vi (IntKind.i64.wrap (s1 + 1))))]) (σ' := []) (by kernel_rfl) (by kernel_rfl) (by simp) (by kernel_rfl) trivial ?_
      have h0 := (Option.some.inj hq).symm
      exact L_as (by kernel_rfl) (by kernel_rfl) (hn1 _ h0)
  · replace hq := cond_f hc1 hq
    refine L_exit (hB1 _ _ (L_seq ?_))
    refine L_regS hb [4] (T' := sl 19 [(4, c1 (vi (-1)))]) (by kernel_rfl) ?_
    refine L_ret ?_
    have h0 := (Option.some.inj hq).symm
    replace h0 := he1 _ h0
    obtain rfl := h0
    exact end_ret (by kernel_rfl)
noncomputable def g_slices_Contains  (s_ : List ByteArray) (v_ : ByteArray) : Option (Bool) :=
  (g_slices_Index s_ v_).bind fun y1 => some (decide (y1 ≥ 0))
theorem g_slices_Contains_ok (hb : Base E E0 G) (he : ∀ w, E w → EnvV w)   (s_ : List ByteArray) (v_ : ByteArray) (r_ : Bool) (hq : g_slices_Contains s_ v_ = some r_) :
    Pure E E0 Tryz.prog 59 [.cell (vL flS s_), .cell (vS v_)] (c1 (vB r_)) := by
  refine pure_L Tryz.func59 rfl ?_
  refine L_keepF [0, 1] (T' := sl 9 [(0, c1 (vL flS s_)), (1, c1 (vS v_))]) (by kernel_rfl) ?_
  refine L_seq ?_
  refine L_regS hb [0, 1] (T' := sl 9 [(0, c1 (vL flS s_)), (1, c1 (vS v_))]) (by kernel_rfl) ?_
  refine L_seq ?_
  refine L_regK hb [4] (fun R hR => ?_)
  refine runDS 2 [(5, c1 (vL flS s_)), (6, c1 (vS v_))] (by kernel_rfl) ?_
  obtain ⟨y1, hy1, hq⟩ := bind_inv hq
  refine callF (d := some 7) (by kernel_rfl) (g_slices_Index_ok hb he s_ v_ y1 hy1) ?_
  refine lastKS (T' := sl 9 [(4, c1 (vB (decide (y1 ≥ 0))))]) (by kernel_rfl) hR ?_
  refine L_ret ?_
  have h0 := Option.some.inj hq
  obtain rfl := h0
  exact end_ret (by kernel_rfl)
noncomputable def g_cmp_isNaN  (x_ : ByteArray) : Option (Bool) :=
  some (!decide (x_ = x_))
theorem g_cmp_isNaN_ok (hb : Base E E0 G) (he : ∀ w, E w → EnvV w)   (x_ : ByteArray) (r_ : Bool) (hq : g_cmp_isNaN x_ = some r_) :
    Pure E E0 Tryz.prog 107 [.cell (vS x_)] (c1 (vB r_)) := by
  refine pure_L Tryz.func107 rfl ?_
  refine L_keepF [0] (T' := sl 6 [(0, c1 (vS x_))]) (by kernel_rfl) ?_
  refine L_seq ?_
  refine L_regS hb [0] (T' := sl 6 [(0, c1 (vS x_))]) (by kernel_rfl) ?_
  refine L_seq ?_
  refine L_regS hb [2] (T' := sl 6 [(2, c1 (vB (!decide (x_ = x_))))]) (by kernel_rfl) ?_
  refine L_ret ?_
  have h0 := Option.some.inj hq
  obtain rfl := h0
  exact end_ret (by kernel_rfl)
noncomputable def g_cmp_Less  (x_ : ByteArray) (y_ : ByteArray) : Option (Bool) :=
  (g_cmp_isNaN x_).bind fun y1 => bif y1 then (g_cmp_isNaN y_).bind fun y3 => bif (!y3) then some (true) else some (Op.bytesLess x_.toList y_.toList) else some (Op.bytesLess x_.toList y_.toList)
theorem g_cmp_Less_ok (hb : Base E E0 G) (he : ∀ w, E w → EnvV w)   (x_ : ByteArray) (y_ : ByteArray) (r_ : Bool) (hq : g_cmp_Less x_ y_ = some r_) :
    Pure E E0 Tryz.prog 95 [.cell (vS x_), .cell (vS y_)] (c1 (vB r_)) := by
  refine pure_L Tryz.func95 rfl ?_
  refine L_keepF [0, 1] (T' := sl 17 [(0, c1 (vS x_)), (1, c1 (vS y_))]) (by kernel_rfl) ?_
  refine L_seq ?_
  refine L_regS hb [0, 1] (T' := sl 17 [(0, c1 (vS x_)), (1, c1 (vS y_))]) (by kernel_rfl) ?_
  refine L_seq ?_
  refine L_regK hb [4] (fun R hR => ?_)
  refine runDS 1 [(5, c1 (vS x_))] (by kernel_rfl) ?_
  obtain ⟨y1, hy1, hq⟩ := bind_inv hq
  refine callF (d := some 6) (by kernel_rfl) (g_cmp_isNaN_ok hb he x_ y1 hy1) ?_
  refine runPS 1 [(6, c1 (vB y1)), (7, c1 (vB y1))] (by kernel_rfl) ?_
  refine partsD (y1) (fun zz => [(6, c1 (vB zz)), (7, c1 (vB zz))]) (by kernel_rfl) (fun hc2 => ?_) (fun hc2 => ?_)
  · replace hq := cond_t hc2 hq
    refine runDS 1 [(8, c1 (vS y_))] (by kernel_rfl) ?_
    obtain ⟨y3, hy3, hq⟩ := bind_inv hq
    refine callF (d := some 9) (by kernel_rfl) (g_cmp_isNaN_ok hb he y_ y3 hy3) ?_
    refine runPS 3 [(9, c1 (vB y3)), (10, c1 (vB (!y3))), (11, c1 (vB (!y3))), (12, c1 (vB (!y3)))] (by kernel_rfl) ?_
    refine partsD ((!y3)) (fun zz => [(10, c1 (vB zz)), (11, c1 (vB zz)), (12, c1 (vB zz))]) (by kernel_rfl) (fun hc4 => ?_) (fun hc4 => ?_)
    · replace hq := cond_t hc4 hq
      refine lastKS (T' := sl 17 [(4, c1 (vB true))]) (by kernel_rfl) hR ?_
      refine L_ret ?_
      have h0 := Option.some.inj hq
      obtain rfl := h0
      exact end_ret (by kernel_rfl)
    · replace hq := cond_f hc4 hq
      refine lastKS (T' := sl 17 [(4, c1 (vB (Op.bytesLess x_.toList y_.toList)))]) (by kernel_rfl) hR ?_
      refine L_ret ?_
      have h0 := Option.some.inj hq
      obtain rfl := h0
      exact end_ret (by kernel_rfl)
  · replace hq := cond_f hc2 hq
    refine lastKS (T' := sl 17 [(4, c1 (vB (Op.bytesLess x_.toList y_.toList)))]) (by kernel_rfl) hR ?_
    refine L_ret ?_
    have h0 := Option.some.inj hq
    obtain rfl := h0
    exact end_ret (by kernel_rfl)
noncomputable def g_slices_isNaN  (x_ : ByteArray) : Option (Bool) :=
  some (!decide (x_ = x_))
theorem g_slices_isNaN_ok (hb : Base E E0 G) (he : ∀ w, E w → EnvV w)   (x_ : ByteArray) (r_ : Bool) (hq : g_slices_isNaN x_ = some r_) :
    Pure E E0 Tryz.prog 96 [.cell (vS x_)] (c1 (vB r_)) := by
  refine pure_L Tryz.func96 rfl ?_
  refine L_keepF [0] (T' := sl 6 [(0, c1 (vS x_))]) (by kernel_rfl) ?_
  refine L_seq ?_
  refine L_regS hb [0] (T' := sl 6 [(0, c1 (vS x_))]) (by kernel_rfl) ?_
  refine L_seq ?_
  refine L_regS hb [2] (T' := sl 6 [(2, c1 (vB (!decide (x_ = x_))))]) (by kernel_rfl) ?_
  refine L_ret ?_
  have h0 := Option.some.inj hq
  obtain rfl := h0
  exact end_ret (by kernel_rfl)
noncomputable def g_slices_BinarySearch_L1 (x_ : List ByteArray) (target_ : ByteArray) (s1 : Int × Int) : Option ((Int × Int) ⊕ (Int × Bool)) :=
  bif (decide (s1.1 < s1.2)) then (idx x_ (IntKind.i64.wrap (Int.fdiv (IntKind.u64.wrap (IntKind.i64.wrap (s1.1 + s1.2))) (2 ^ (min (1 : Int).toNat IntKind.u64.bits))))).bind fun x2 => (g_cmp_Less x2 target_).bind fun y3 => bif y3 then some (.inl ((IntKind.i64.wrap ((IntKind.i64.wrap (Int.fdiv (IntKind.u64.wrap (IntKind.i64.wrap (s1.1 + s1.2))) (2 ^ (min (1 : Int).toNat IntKind.u64.bits)))) + 1)), s1.2)) else some (.inl (s1.1, (IntKind.i64.wrap (Int.fdiv (IntKind.u64.wrap (IntKind.i64.wrap (s1.1 + s1.2))) (2 ^ (min (1 : Int).toNat IntKind.u64.bits)))))) else bif (decide (s1.1 < (x_.length : Int))) then (idx x_ s1.1).bind fun x6 => bif (decide (x6 = target_)) then some (.inr (s1.1, true)) else (idx x_ s1.1).bind fun x8 => (g_slices_isNaN x8).bind fun y9 => bif y9 then (g_slices_isNaN target_).bind fun y11 => some (.inr (s1.1, y11)) else some (.inr (s1.1, false)) else some (.inr (s1.1, false))
noncomputable def g_slices_BinarySearch  (x_ : List ByteArray) (target_ : ByteArray) : Option (Int × Bool) :=
  loopO (g_slices_BinarySearch_L1 x_ target_) (0, (x_.length : Int))
theorem g_slices_BinarySearch_ok (hb : Base E E0 G) (he : ∀ w, E w → EnvV w)   (x_ : List ByteArray) (target_ : ByteArray) (r_ : Int × Bool) (hq : g_slices_BinarySearch x_ target_ = some r_) :
    Pure E E0 Tryz.prog 83 [.cell (vL flS x_), .cell (vS target_)] (.tup [.cell (vi r_.1), .cell (vB r_.2)]) := by
  refine pure_L Tryz.func83 rfl ?_
  refine L_keepF [0, 1] (T' := sl 54 [(0, c1 (vL flS x_)), (1, c1 (vS target_))]) (by kernel_rfl) ?_
  refine L_seq ?_
  refine L_regS hb [0, 1] (T' := sl 54 [(0, c1 (vL flS x_)), (1, c1 (vS target_))]) (by kernel_rfl) ?_
  refine L_seq ?_
  refine L_regS hb [0, 1, 6] (T' := sl 54 [(0, c1 (vL flS x_)), (1, c1 (vS target_)), (6, c1 (vi (x_.length : Int)))]) (by kernel_rfl) ?_
  refine L_seq ?_
  refine L_regS hb [0, 1, 6, 7, 8] (T' := sl 54 [(0, c1 (vL flS x_)), (1, c1 (vS target_)), (6, c1 (vi (x_.length : Int))), (7, c1 (vi 0)), (8, c1 (vi (x_.length : Int)))]) (by kernel_rfl) ?_
  refine L_seq (L_block (fun K1 hA1 hB1 hC1 hD1 => ?_))
  refine L_backF [0, 1, 6, 7, 8] [] 0 (T' := sl 54 [(0, c1 (vL flS x_)), (1, c1 (vS target_)), (6, c1 (vi (x_.length : Int))), (7, c1 (vi 0)), (8, c1 (vi (x_.length : Int)))]) (σ' := []) (by kernel_rfl) (by kernel_rfl) (by simp) (by kernel_rfl) trivial ?_
  refine L_as (by kernel_rfl) (by kernel_rfl) (L_loopO (body := (g_slices_BinarySearch_L1 x_ target_)) (fun s1 => sl 54 [(0, c1 (vL flS x_)), (1, c1 (vS target_)), (6, c1 (vi (x_.length : Int))), (7, c1 (vi s1.1)), (8, c1 (vi s1.2))]) (fun s1 => []) (s0 := (0, (x_.length : Int))) (fun s1 x1 hq hn1 he1 => ?_) hq)
  refine L_seq (L_seq ?_)
  refine L_regS hb [0, 1, 6, 7, 8, 15] (T' := sl 54 [(0, c1 (vL flS x_)), (1, c1 (vS target_)), (6, c1 (vi (x_.length : Int))), (7, c1 (vi s1.1)), (8, c1 (vi s1.2)), (15, c1 (vB (decide (s1.1 < s1.2))))]) (by kernel_rfl) ?_
  refine L_if hb (b := (decide (s1.1 < s1.2))) (by kernel_rfl) (fun hc1 => ?_) (fun hc1 => ?_)
  · replace hq := cond_t hc1 hq
    refine L_skip (L_block (fun K2 hA2 hB2 hC2 hD2 => (L_seq ?_)))
    refine L_regS hb [0, 1, 6, 7, 8, 9] (T' := sl 54 [(0, c1 (vL flS x_)), (1, c1 (vS target_)), (6, c1 (vi (x_.length : Int))), (7, c1 (vi s1.1)), (8, c1 (vi s1.2)), (9, c1 (vi (IntKind.i64.wrap (Int.fdiv (IntKind.u64.wrap (IntKind.i64.wrap (s1.1 + s1.2))) (2 ^ (min (1 : Int).toNat IntKind.u64.bits))))))]) (by kernel_rfl) ?_
    refine L_seq ?_
    refine L_regK hb [0, 1, 6, 7, 8, 9, 27] (fun R hR => ?_)
    refine runDS 2 [(22, c1 (vL flS x_)), (23, c1 (vi (IntKind.i64.wrap (Int.fdiv (IntKind.u64.wrap (IntKind.i64.wrap (s1.1 + s1.2))) (2 ^ (min (1 : Int).toNat IntKind.u64.bits))))))] (by kernel_rfl) ?_
    obtain ⟨x2, hx2, hq⟩ := bind_inv hq
    refine idxF flS (d := some 24) hx2 (by kernel_rfl) ?_
    refine runPS 2 [(24, c1 (.pv (.pp (flS.c x2 ++ flS.f (List.drop ((IntKind.i64.wrap (Int.fdiv (IntKind.u64.wrap (IntKind.i64.wrap (s1.1 + s1.2))) (2 ^ (min (1 : Int).toNat IntKind.u64.bits)))).toNat + 1) x_))))), (25, c1 (vS x2)), (26, c1 (vS target_))] (by kernel_rfl) ?_
    obtain ⟨y3, hy3, hq⟩ := bind_inv hq
    refine callF (d := some 27) (by kernel_rfl) (g_cmp_Less_ok hb he x2 target_ y3 hy3) ?_
    refine lastKS (T' := sl 54 [(0, c1 (vL flS x_)), (1, c1 (vS target_)), (6, c1 (vi (x_.length : Int))), (7, c1 (vi s1.1)), (8, c1 (vi s1.2)), (9, c1 (vi (IntKind.i64.wrap (Int.fdiv (IntKind.u64.wrap (IntKind.i64.wrap (s1.1 + s1.2))) (2 ^ (min (1 : Int).toNat IntKind.u64.bits)))))), (27, c1 (vB y3))]) (by kernel_rfl) hR ?_
    refine L_if hb (b := y3) (by kernel_rfl) (fun hc4 => ?_) (fun hc4 => ?_)
    · replace hq := cond_t hc4 hq
      refine L_regN hb (fun R hR => ?_)
      refine lastFS (T' := sl 54 [(0, c1 (vL flS x_)), (1, c1 (vS target_)), (6, c1 (vi (x_.length : Int))), (7, c1 (vi (IntKind.i64.wrap ((IntKind.i64.wrap (Int.fdiv (IntKind.u64.wrap (IntKind.i64.wrap (s1.1 + s1.2))) (2 ^ (min (1 : Int).toNat IntKind.u64.bits)))) + 1)))), (8, c1 (vi s1.2)), (9, c1 (vi (IntKind.i64.wrap (Int.fdiv (IntKind.u64.wrap (IntKind.i64.wrap (s1.1 + s1.2))) (2 ^ (min (1 : Int).toNat IntKind.u64.bits)))))), (27, c1 (vB y3)), (28, c1 (vi (IntKind.i64.wrap (Int.fdiv (IntKind.u64.wrap (IntKind.i64.wrap (s1.1 + s1.2))) (2 ^ (min (1 : Int).toNat IntKind.u64.bits)))))), (29, c1 (vi (IntKind.i64.wrap ((IntKind.i64.wrap (Int.fdiv (IntKind.u64.wrap (IntKind.i64.wrap (s1.1 + s1.2))) (2 ^ (min (1 : Int).toNat IntKind.u64.bits)))) + 1))))]) (by kernel_rfl) (hR _ _ ?_)
      refine L_nil (hA2 _ _ ?_)
      refine L_backF [0, 1, 6, 7, 8] [] 0 (T' := sl 54 [(0, c1 (vL flS x_)), (1, c1 (vS target_)), (6, c1 (vi (x_.length : Int))), (7, c1 (vi (IntKind.i64.wrap ((IntKind.i64.wrap (Int.fdiv (IntKind.u64.wrap (IntKind.i64.wrap (s1.1 + s1.2))) (2 ^ (min (1 : Int).toNat IntKind.u64.bits)))) + 1)))), (8, c1 (vi s1.2))]) (σ' := []) (by kernel_rfl) (by kernel_rfl) (by simp) (by kernel_rfl) trivial ?_
      have h0 := (Option.some.inj hq).symm
      exact L_as (by kernel_rfl) (by kernel_rfl) (hn1 _ h0)
    · replace hq := cond_f hc4 hq
      refine L_regN hb (fun R hR => ?_)
      refine lastFS (T' := sl 54 [(0, c1 (vL flS x_)), (1, c1 (vS target_)), (6, c1 (vi (x_.length : Int))), (7, c1 (vi s1.1)), (8, c1 (vi (IntKind.i64.wrap (Int.fdiv (IntKind.u64.wrap (IntKind.i64.wrap (s1.1 + s1.2))) (2 ^ (min (1 : Int).toNat IntKind.u64.bits)))))), (9, c1 (vi (IntKind.i64.wrap (Int.fdiv (IntKind.u64.wrap (IntKind.i64.wrap (s1.1 + s1.2))) (2 ^ (min (1 : Int).toNat IntKind.u64.bits)))))), (27, c1 (vB y3)), (30, c1 (vi (IntKind.i64.wrap (Int.fdiv (IntKind.u64.wrap (IntKind.i64.wrap (s1.1 + s1.2))) (2 ^ (min (1 : Int).toNat IntKind.u64.bits))))))]) (by kernel_rfl) (hR _ _ ?_)
      refine L_nil (hA2 _ _ ?_)
      refine L_backF [0, 1, 6, 7, 8] [] 0 (T' := sl 54 [(0, c1 (vL flS x_)), (1, c1 (vS target_)), (6, c1 (vi (x_.length : Int))), (7, c1 (vi s1.1)), (8, c1 (vi (IntKind.i64.wrap (Int.fdiv (IntKind.u64.wrap (IntKind.i64.wrap (s1.1 + s1.2))) (2 ^ (min (1 : Int).toNat IntKind.u64.bits))))))]) (σ' := []) (by kernel_rfl) (by kernel_rfl) (by simp) (by kernel_rfl) trivial ?_
      have h0 := (Option.some.inj hq).symm
      exact L_as (by kernel_rfl) (by kernel_rfl) (hn1 _ h0)
  · replace hq := cond_f hc1 hq
    refine L_exit (hB1 _ _ (L_seq ?_))
    refine L_regK hb [4, 5] (fun R hR => ?_)
    refine runDS 5 [(31, c1 (vi s1.1)), (32, c1 (vi s1.1)), (33, c1 (vi (x_.length : Int))), (34, c1 (vB (decide (s1.1 < (x_.length : Int))))), (35, c1 (vB (decide (s1.1 < (x_.length : Int)))))] (by kernel_rfl) ?_
    refine partsD ((decide (s1.1 < (x_.length : Int)))) (fun zz => [(34, c1 (vB zz)), (35, c1 (vB zz))]) (by kernel_rfl) (fun hc5 => ?_) (fun hc5 => ?_)
    · replace hq := cond_t hc5 hq
      refine runDS 2 [(36, c1 (vL flS x_)), (37, c1 (vi s1.1))] (by kernel_rfl) ?_
      obtain ⟨x6, hx6, hq⟩ := bind_inv hq
      refine idxF flS (d := some 38) hx6 (by kernel_rfl) ?_
      refine runPS 4 [(38, c1 (.pv (.pp (flS.c x6 ++ flS.f (List.drop (s1.1.toNat + 1) x_))))), (39, c1 (vS x6)), (40, c1 (vS target_)), (41, c1 (vB (decide (x6 = target_)))), (42, c1 (vB (decide (x6 = target_))))] (by kernel_rfl) ?_
      refine partsD ((decide (x6 = target_))) (fun zz => [(41, c1 (vB zz)), (42, c1 (vB zz))]) (by kernel_rfl) (fun hc7 => ?_) (fun hc7 => ?_)
      · replace hq := cond_t hc7 hq
        refine lastKS (T' := sl 54 [(4, c1 (vi s1.1)), (5, c1 (vB true))]) (by kernel_rfl) hR ?_
        refine L_ret ?_
        have h0 := (Option.some.inj hq).symm
        replace h0 := he1 _ h0
        obtain rfl := h0
        exact end_ret (by kernel_rfl)
      · replace hq := cond_f hc7 hq
        refine runDS 2 [(43, c1 (vL flS x_)), (44, c1 (vi s1.1))] (by kernel_rfl) ?_
        obtain ⟨x8, hx8, hq⟩ := bind_inv hq
        refine idxF flS (d := some 45) hx8 (by kernel_rfl) ?_
        refine runPS 1 [(45, c1 (.pv (.pp (flS.c x8 ++ flS.f (List.drop (s1.1.toNat + 1) x_))))), (46, c1 (vS x8))] (by kernel_rfl) ?_
        obtain ⟨y9, hy9, hq⟩ := bind_inv hq
        refine callF (d := some 47) (by kernel_rfl) (g_slices_isNaN_ok hb he x8 y9 hy9) ?_
        refine runPS 1 [(47, c1 (vB y9)), (48, c1 (vB y9))] (by kernel_rfl) ?_
        refine partsD (y9) (fun zz => [(47, c1 (vB zz)), (48, c1 (vB zz))]) (by kernel_rfl) (fun hc10 => ?_) (fun hc10 => ?_)
        · replace hq := cond_t hc10 hq
          refine runDS 1 [(49, c1 (vS target_))] (by kernel_rfl) ?_
          obtain ⟨y11, hy11, hq⟩ := bind_inv hq
          refine callF (d := some 50) (by kernel_rfl) (g_slices_isNaN_ok hb he target_ y11 hy11) ?_
          refine lastKS (T' := sl 54 [(4, c1 (vi s1.1)), (5, c1 (vB y11))]) (by kernel_rfl) hR ?_
          refine L_ret ?_
          have h0 := (Option.some.inj hq).symm
          replace h0 := he1 _ h0
          obtain rfl := h0
          exact end_ret (by kernel_rfl)
        · replace hq := cond_f hc10 hq
          refine lastKS (T' := sl 54 [(4, c1 (vi s1.1)), (5, c1 (vB false))]) (by kernel_rfl) hR ?_
          refine L_ret ?_
          have h0 := (Option.some.inj hq).symm
          replace h0 := he1 _ h0
          obtain rfl := h0
          exact end_ret (by kernel_rfl)
    · replace hq := cond_f hc5 hq
      refine lastKS (T' := sl 54 [(4, c1 (vi s1.1)), (5, c1 (vB false))]) (by kernel_rfl) hR ?_
      refine L_ret ?_
      have h0 := (Option.some.inj hq).symm
      replace h0 := he1 _ h0
      obtain rfl := h0
      exact end_ret (by kernel_rfl)
noncomputable def g_value_copies_L1 (r_value_copied : Val → Option (Val)) (l_ : List Val) (s1 : Int × List Val) : Option ((Int × List Val) ⊕ (List Val)) :=
  bif (decide (s1.1 < (l_.length : Int))) then (idx l_ s1.1).bind fun x4 => (r_value_copied x4).bind fun y5 => (app 80 s1.2 [y5]).bind fun l6 => some (.inl ((IntKind.i64.wrap (s1.1 + 1)), l6)) else some (.inr (s1.2))
noncomputable def g_value_copies (r_value_copied : Val → Option (Val)) (l_ : List Val) : Option (List Val) :=
  bif (decide ((l_.length : Int) = 0)) then some ([]) else (mkc 80 (l_.length : Int)).bind fun u2 => loopO (g_value_copies_L1 r_value_copied l_) (0, [])
theorem g_value_copies_ok (hb : Base E E0 G) (he : ∀ w, E w → EnvV w) (r_value_copied : Val → Option (Val)) (hr_value_copied : ∀ (a0 : Val) (r : Val), r_value_copied a0 = some r → Pure E E0 Tryz.prog 84 [.agg (aV a0)] (.one (.agg (aV r)))) (l_ : List Val) (r_ : List Val) (hq : g_value_copies r_value_copied l_ = some r_) :
    Pure E E0 Tryz.prog 97 [.cell (vL flV l_)] (c1 (vL flV r_)) := by
  refine pure_L Tryz.func97 rfl ?_
  refine L_keepF [0] (T' := sl 25 [(0, c1 (vL flV l_))]) (by kernel_rfl) ?_
  refine L_seq ?_
  refine L_regS hb [0] (T' := sl 25 [(0, c1 (vL flV l_))]) (by kernel_rfl) ?_
  refine L_seq (L_seq ?_)
  refine L_regS hb [0, 8] (T' := sl 25 [(0, c1 (vL flV l_)), (8, c1 (vB (decide ((l_.length : Int) = 0))))]) (by kernel_rfl) ?_
  refine L_if hb (b := (decide ((l_.length : Int) = 0))) (by kernel_rfl) (fun hc1 => ?_) (fun hc1 => ?_)
  · replace hq := cond_t hc1 hq
    refine L_seq ?_
    refine L_regS hb [2] (T' := sl 25 [(2, c1 (vN))]) (by kernel_rfl) ?_
    refine L_ret ?_
    have h0 := Option.some.inj hq
    obtain rfl := h0
    exact end_ret (by kernel_rfl)
  · replace hq := cond_f hc1 hq
    refine L_skip (L_seq ?_)
    refine L_regK hb [0, 3] (fun R hR => ?_)
    refine runDS 2 [(9, c1 (vL flV l_)), (10, c1 (vi (l_.length : Int)))] (by kernel_rfl) ?_
    obtain ⟨u2, hu2, hq⟩ := bind_inv hq
    refine mk0F flV (d := some 11) (zs := zV) hu2 (by kernel_rfl) ?_
    refine lastKS (T' := sl 25 [(0, c1 (vL flV l_)), (3, c1 (vO flV 0 []))]) (by kernel_rfl) hR ?_
    refine L_seq (L_seq ?_)
    refine L_regS hb [3, 12, 13, 14] (T' := sl 25 [(3, c1 (vO flV 0 [])), (12, c1 (vL flV l_)), (13, c1 (vi (l_.length : Int))), (14, c1 (vi 0))]) (by kernel_rfl) ?_
    refine L_block (fun K1 hA1 hB1 hC1 hD1 => ?_)
    refine L_mark 0 (nb := false) (cs := flV.f []) rfl (Nat.zero_le _) ?_
    refine L_backF [3, 12, 13, 14] [] 1 (T' := sl 25 [(3, c1 (vO flV 0 [])), (12, c1 (vL flV l_)), (13, c1 (vi (l_.length : Int))), (14, c1 (vi 0))]) (σ' := [some (arO false flV.sz ((flV.f []).length) (flV.f []))]) (by kernel_rfl) (by kernel_rfl) (by simp) (by kernel_rfl) ⟨(under_arO _ _ _ _ _), trivial⟩ ?_
    refine L_as (by kernel_rfl) (by kernel_rfl) (L_loopO (body := (g_value_copies_L1 r_value_copied l_)) (fun s1 => sl 25 [(3, c1 (vO flV 0 s1.2)), (12, c1 (vL flV l_)), (13, c1 (vi (l_.length : Int))), (14, c1 (vi s1.1))]) (fun s1 => [some (arO false flV.sz ((flV.f s1.2).length) (flV.f s1.2))]) (s0 := (0, [])) (fun s1 x1 hq hn1 he1 => ?_) hq)
    refine L_seq ?_
    refine L_regS hb [3, 12, 13, 14, 15] (T' := sl 25 [(3, c1 (vO flV 0 s1.2)), (12, c1 (vL flV l_)), (13, c1 (vi (l_.length : Int))), (14, c1 (vi s1.1)), (15, c1 (vB (decide (s1.1 < (l_.length : Int)))))]) (by kernel_rfl) ?_
    refine L_seq ?_
    refine L_if hb (b := (decide (s1.1 < (l_.length : Int)))) (by kernel_rfl) (fun hc3 => ?_) (fun hc3 => ?_)
    · replace hq := cond_t hc3 hq
      refine L_skip (L_seq (L_block (fun K2 hA2 hB2 hC2 hD2 => (L_seq ?_))))
      refine L_regK hb [3, 5, 12, 13, 14] (fun R hR => ?_)
      obtain ⟨x4, hx4, hq⟩ := bind_inv hq
      refine idxF flV (d := some 16) hx4 (by kernel_rfl) ?_
      refine lastK (T' := sl 25 [(3, c1 (vO flV 0 s1.2)), (5, pt 1), (12, c1 (vL flV l_)), (13, c1 (vi (l_.length : Int))), (14, c1 (vi s1.1))]) (σ' := [some (arO false flV.sz ((flV.f s1.2).length) (flV.f s1.2)), bx (aV x4)]) (by kernel_rfl) hR ?_
      refine L_regN hb (fun R hR => ?_)
      refine runDS 2 [(18, c1 (vO flV 0 s1.2)), (19, .one (.agg (aV x4)))] (by kernel_rfl) ?_
      obtain ⟨y5, hy5, hq⟩ := bind_inv hq
      refine callF (d := some 20) (by kernel_rfl) (hr_value_copied x4 y5 hy5) ?_
      refine runPS 1 [(20, .one (.agg (aV y5))), (21, c1 (.pv (.sl true 1 [pI .i64 y5.kind, pI .i64 y5.num, pS y5.str, pL flV y5.items, pL flS y5.keys])))] (by kernel_rfl) ?_
      obtain ⟨l6, hl6, hq⟩ := bind_inv hq
      refine appOwnF flV (d := some 22) (id := 0) (s := .pv (.sl true 1 [pI .i64 y5.kind, pI .i64 y5.num, pS y5.str, pL flV y5.items, pL flS y5.keys])) (nb := false) (fr := (flV.f s1.2).length) hl6 (by kernel_rfl) (src_lit flV (flV.one y5) rfl) (by kernel_rfl) (Nat.le_refl _) ?_
      refine lastFS (T' := sl 25 [(3, c1 (vO flV 0 l6)), (5, pt 1), (12, c1 (vL flV l_)), (13, c1 (vi (l_.length : Int))), (14, c1 (vi s1.1)), (18, c1 (vO flV 0 s1.2)), (19, .one (.agg (aV x4))), (20, .one (.agg (aV y5))), (21, c1 (.pv (.sl true 1 [pI .i64 y5.kind, pI .i64 y5.num, pS y5.str, pL flV y5.items, pL flS y5.keys]))), (22, c1 (vO flV 0 l6))]) (by kernel_rfl) (hR _ _ ?_)
      refine L_nil (hA2 _ _ ?_)
      refine L_regS hb [3, 12, 13, 14] (T' := sl 25 [(3, c1 (vO flV 0 l6)), (12, c1 (vL flV l_)), (13, c1 (vi (l_.length : Int))), (14, c1 (vi (IntKind.i64.wrap (s1.1 + 1))))]) (by kernel_rfl) ?_
      refine L_mark 0 (nb := false) (cs := flV.f l6) rfl (app_le flV hl6) ?_
      refine L_backF [3, 12, 13, 14] [] 1 (T' := sl 25 [(3, c1 (vO flV 0 l6)), (12, c1 (vL flV l_)), (13, c1 (vi (l_.length : Int))), (14, c1 (vi (IntKind.i64.wrap (s1.1 + 1))))]) (σ' := [some (arO false flV.sz ((flV.f l6).length) (flV.f l6))]) (by kernel_rfl) (by kernel_rfl) (by simp) (by kernel_rfl) ⟨(under_arO _ _ _ _ _), trivial⟩ ?_
      have h0 := (Option.some.inj hq).symm
      exact L_as (by kernel_rfl) (by kernel_rfl) (hn1 _ h0)
    · replace hq := cond_f hc3 hq
      refine L_exit (hB1 _ _ (L_seq ?_))
      refine L_regS hb [2] (T' := sl 25 [(2, c1 (vO flV 0 s1.2))]) (by kernel_rfl) ?_
      refine L_cellT 2 (c := vO flV 0 s1.2) (by kernel_rfl) (conv_own flV (nb := false) (id := 0) (xs := s1.2) (by kernel_rfl)) ?_
      refine L_ret ?_
      have h0 := (Option.some.inj hq).symm
      replace h0 := he1 _ h0
      obtain rfl := h0
      exact end_ret (by kernel_rfl)
noncomputable def g_value_copied (r_value_copies : List Val → Option (List Val)) (v_ : Val) : Option (Val) :=
  (clone 16 v_.keys).bind fun y1 => (r_value_copies v_.items).bind fun y2 => some (Val.mk v_.kind v_.num v_.str y2 y1)
theorem g_value_copied_ok (hb : Base E E0 G) (he : ∀ w, E w → EnvV w) (r_value_copies : List Val → Option (List Val)) (hr_value_copies : ∀ (a0 : List Val) (r : List Val), r_value_copies a0 = some r → Pure E E0 Tryz.prog 97 [.cell (vL flV a0)] (c1 (vL flV r))) (v_ : Val) (r_ : Val) (hq : g_value_copied r_value_copies v_ = some r_) :
    Pure E E0 Tryz.prog 84 [.agg (aV v_)] (.one (.agg (aV r_))) := by
  refine pure_L Tryz.func84 rfl ?_
  refine L_keepF [0] (T' := sl 12 [(0, .one (.agg (aV v_)))]) (by kernel_rfl) ?_
  refine L_seq ?_
  refine L_regF hb [1, 2] (T' := sl 12 [(1, pt 0), (2, pt 1)]) (σ' := [bx (aV v_), bx zV]) (by kernel_rfl) ?_
  refine L_seq ?_
  refine L_regK hb [1, 2] (fun R hR => ?_)
  refine runDS 2 [(3, c1 (.ptr 0 0 4)), (4, c1 (vL flS v_.keys))] (by kernel_rfl) ?_
  obtain ⟨y1, hy1, hq⟩ := bind_inv hq
  refine callF (d := some 5) (by kernel_rfl) (cloneK_g hb he v_.keys y1 hy1) ?_
  refine lastK (T' := sl 12 [(1, pt 0), (2, pt 1)]) (σ' := [bx [vi v_.kind, vi v_.num, vS v_.str, vL flV v_.items, vL flS y1], bx zV]) (by kernel_rfl) hR ?_
  refine L_seq ?_
  refine L_regK hb [1, 2] (fun R hR => ?_)
  refine runDS 2 [(7, c1 (.ptr 0 0 3)), (8, c1 (vL flV v_.items))] (by kernel_rfl) ?_
  obtain ⟨y2, hy2, hq⟩ := bind_inv hq
  refine callF (d := some 9) (by kernel_rfl) (hr_value_copies v_.items y2 hy2) ?_
  refine lastK (T' := sl 12 [(1, pt 0), (2, pt 1)]) (σ' := [bx [vi v_.kind, vi v_.num, vS v_.str, vL flV y2, vL flS y1], bx zV]) (by kernel_rfl) hR ?_
  refine L_seq ?_
  refine L_regF hb [2] (T' := sl 12 [(2, pt 1)]) (σ' := [bx [vi v_.kind, vi v_.num, vS v_.str, vL flV y2, vL flS y1], bx [vi v_.kind, vi v_.num, vS v_.str, vL flV y2, vL flS y1]]) (by kernel_rfl) ?_
  refine L_ret ?_
  have h0 := Option.some.inj hq
  obtain rfl := h0
  exact end_ret (by kernel_rfl)
noncomputable def t_value_copied_step (rec : Val → Unit → Option (Val)) (a : Val) (b : Unit) : Option (Val) :=
  g_value_copied (g_value_copies (fun a0 => rec a0 ())) a
noncomputable def t_value_copied (a0 : Val) : Option (Val) := tieF relV wfV t_value_copied_step a0 ()
theorem t_value_copied_ok (hb : Base E E0 G) (he : ∀ w, E w → EnvV w) (a0 : Val) (r : Val) (hq : t_value_copied a0 = some r) : Pure E E0 Tryz.prog 84 [.agg (aV a0)] (.one (.agg (aV r))) :=
  tieF_ok (C := fun a b r => Pure E E0 Tryz.prog 84 [.agg (aV a)] (.one (.agg (aV r)))) (fun rec hr a b r hq => g_value_copied_ok hb he (g_value_copies (fun a0 => rec a0 ())) (g_value_copies_ok hb he (fun a0 => rec a0 ()) (fun a0 r e => hr a0 () r e)) a r hq) a0 () r hq
noncomputable def t_value_copies (a0 : List Val) : Option (List Val) := (g_value_copies t_value_copied) a0
theorem t_value_copies_ok (hb : Base E E0 G) (he : ∀ w, E w → EnvV w) (a0 : List Val) (r : List Val) (hq : t_value_copies a0 = some r) : Pure E E0 Tryz.prog 97 [.cell (vL flV a0)] (c1 (vL flV r)) :=
  g_value_copies_ok hb he t_value_copied (t_value_copied_ok hb he) a0 r hq
noncomputable def g_value_Get  (v_ : Val) (key_ : ByteArray) : Option (Val × Bool) :=
  (g_slices_BinarySearch v_.keys key_).bind fun y1 => bif (!decide (v_.kind = 5)) then some ((Val.mk 0 0 eS [] []), false) else bif (!y1.2) then some ((Val.mk 0 0 eS [] []), false) else bif (decide (y1.1 ≥ (v_.items.length : Int))) then some ((Val.mk 0 0 eS [] []), false) else (idx v_.items y1.1).bind fun x5 => (t_value_copied x5).bind fun y6 => some (y6, true)
theorem g_value_Get_ok (hb : Base E E0 G) (he : ∀ w, E w → EnvV w)   (v_ : Val) (key_ : ByteArray) (r_ : Val × Bool) (hq : g_value_Get v_ key_ = some r_) :
    Pure E E0 Tryz.prog 60 [.agg (aV v_), .cell (vS key_)] (.tup [.agg (aV r_.1), .cell (vB r_.2)]) := by
  refine pure_L Tryz.func60 rfl ?_
  refine L_keepF [0, 1] (T' := sl 36 [(0, .one (.agg (aV v_))), (1, c1 (vS key_))]) (by kernel_rfl) ?_
  refine L_seq ?_
  refine L_regF hb [1, 2, 4] (T' := sl 36 [(1, c1 (vS key_)), (2, pt 0), (4, pt 1)]) (σ' := [bx (aV v_), bx zV]) (by kernel_rfl) ?_
  refine L_seq ?_
  refine L_regK hb [2, 4, 6, 7] (fun R hR => ?_)
  refine runDS 3 [(9, c1 (.ptr 0 0 4)), (10, c1 (vL flS v_.keys)), (11, c1 (vS key_))] (by kernel_rfl) ?_
  obtain ⟨y1, hy1, hq⟩ := bind_inv hq
  refine callF (d := some 12) (by kernel_rfl) (g_slices_BinarySearch_ok hb he v_.keys key_ y1 hy1) ?_
  refine lastKS (T' := sl 36 [(2, pt 0), (4, pt 1), (6, c1 (vi y1.1)), (7, c1 (vB y1.2))]) (by kernel_rfl) hR ?_
  refine L_seq (L_seq ?_)
  refine L_regK hb [2, 4, 6, 28] (fun R hR => ?_)
  refine runDS 4 [(15, pt 0), (16, c1 (vi v_.kind)), (17, c1 (vB (!decide (v_.kind = 5)))), (18, c1 (vB (!decide (v_.kind = 5))))] (by kernel_rfl) ?_
  refine partsD ((!decide (v_.kind = 5))) (fun zz => [(17, c1 (vB zz)), (18, c1 (vB zz))]) (by kernel_rfl) (fun hc2 => ?_) (fun hc2 => ?_)
  · replace hq := cond_t hc2 hq
    refine lastKS (T' := sl 36 [(2, pt 0), (4, pt 1), (6, c1 (vi y1.1)), (28, c1 (vB true))]) (by kernel_rfl) hR ?_
    refine L_true hb (by kernel_rfl) (L_seq ?_)
    refine L_regS hb [4, 5] (T' := sl 36 [(4, pt 1), (5, c1 (vB false))]) (by kernel_rfl) ?_
    refine L_ret ?_
    have h0 := Option.some.inj hq
    obtain rfl := h0
    exact end_ret (by kernel_rfl)
  · replace hq := cond_f hc2 hq
    refine runDS 4 [(19, c1 (vB y1.2)), (20, c1 (vB (!y1.2))), (21, c1 (vB (!y1.2))), (22, c1 (vB (!y1.2)))] (by kernel_rfl) ?_
    refine partsD ((!y1.2)) (fun zz => [(20, c1 (vB zz)), (21, c1 (vB zz)), (22, c1 (vB zz))]) (by kernel_rfl) (fun hc3 => ?_) (fun hc3 => ?_)
    · replace hq := cond_t hc3 hq
      refine lastKS (T' := sl 36 [(2, pt 0), (4, pt 1), (6, c1 (vi y1.1)), (28, c1 (vB true))]) (by kernel_rfl) hR ?_
      refine L_true hb (by kernel_rfl) (L_seq ?_)
      refine L_regS hb [4, 5] (T' := sl 36 [(4, pt 1), (5, c1 (vB false))]) (by kernel_rfl) ?_
      refine L_ret ?_
      have h0 := Option.some.inj hq
      obtain rfl := h0
      exact end_ret (by kernel_rfl)
    · replace hq := cond_f hc3 hq
      refine lastKS (T' := sl 36 [(2, pt 0), (4, pt 1), (6, c1 (vi y1.1)), (28, c1 (vB (decide (y1.1 ≥ (v_.items.length : Int)))))]) (by kernel_rfl) hR ?_
      refine L_if hb (b := (decide (y1.1 ≥ (v_.items.length : Int)))) (by kernel_rfl) (fun hc4 => ?_) (fun hc4 => ?_)
      · replace hq := cond_t hc4 hq
        refine L_seq ?_
        refine L_regS hb [4, 5] (T' := sl 36 [(4, pt 1), (5, c1 (vB false))]) (by kernel_rfl) ?_
        refine L_ret ?_
        have h0 := Option.some.inj hq
        obtain rfl := h0
        exact end_ret (by kernel_rfl)
      · replace hq := cond_f hc4 hq
        refine L_skip (L_seq ?_)
        refine L_regK hb [4, 5] (fun R hR => ?_)
        refine runDS 3 [(30, c1 (.ptr 0 0 3)), (31, c1 (vL flV v_.items)), (32, c1 (vi y1.1))] (by kernel_rfl) ?_
        obtain ⟨x5, hx5, hq⟩ := bind_inv hq
        refine idxF flV (d := some 33) hx5 (by kernel_rfl) ?_
        refine runPS 1 [(33, c1 (.pv (.pp (flV.c x5 ++ flV.f (List.drop (y1.1.toNat + 1) v_.items))))), (34, .one (.agg (aV x5)))] (by kernel_rfl) ?_
        obtain ⟨y6, hy6, hq⟩ := bind_inv hq
        refine callF (d := some 35) (by kernel_rfl) (t_value_copied_ok hb he x5 y6 hy6) ?_
        refine lastK (T' := sl 36 [(4, pt 1), (5, c1 (vB true))]) (σ' := [bx (aV v_), bx (aV y6)]) (by kernel_rfl) hR ?_
        refine L_ret ?_
        have h0 := Option.some.inj hq
        obtain rfl := h0
        exact end_ret (by kernel_rfl)
noncomputable def g_convert_each_L1 (r_convert_to : Val → Ty → Option (Val × Int)) (v_ : Val) (t_ : Ty) (y1 : List ByteArray) (s1 : Int × List Val) : Option ((Int × List Val) ⊕ (Val × Int)) :=
  bif (decide (s1.1 < (v_.items.length : Int))) then (idx v_.items s1.1).bind fun x3 => (r_convert_to x3 t_).bind fun y4 => bif (!decide (y4.2 = 0)) then some (.inr ((Val.mk 0 0 eS [] []), y4.2)) else (app 80 s1.2 [y4.1]).bind fun l6 => some (.inl ((IntKind.i64.wrap (s1.1 + 1)), l6)) else some (.inr ((Val.mk v_.kind 0 eS s1.2 y1), 0))
noncomputable def g_convert_each (r_convert_to : Val → Ty → Option (Val × Int)) (v_ : Val) (t_ : Ty) : Option (Val × Int) :=
  (clone 16 v_.keys).bind fun y1 => loopO (g_convert_each_L1 r_convert_to v_ t_ y1) (0, [])
theorem g_convert_each_ok (hb : Base E E0 G) (he : ∀ w, E w → EnvV w) (r_convert_to : Val → Ty → Option (Val × Int)) (hr_convert_to : ∀ (a0 : Val) (a1 : Ty) (r : Val × Int), r_convert_to a0 a1 = some r → Pure E E0 Tryz.prog 23 [.agg (aV a0), .agg (aT a1)] (.tup [.agg (aV r.1), .cell (vi r.2)])) (v_ : Val) (t_ : Ty) (r_ : Val × Int) (hq : g_convert_each r_convert_to v_ t_ = some r_) :
    Pure E E0 Tryz.prog 39 [.agg (aV v_), .agg (aT t_)] (.tup [.agg (aV r_.1), .cell (vi r_.2)]) := by
  refine pure_L Tryz.func39 rfl ?_
  refine L_keepF [0, 1] (T' := sl 42 [(0, .one (.agg (aV v_))), (1, .one (.agg (aT t_)))]) (by kernel_rfl) ?_
  refine L_seq ?_
  refine L_regF hb [2, 3, 4] (T' := sl 42 [(2, pt 0), (3, pt 1), (4, pt 2)]) (σ' := [bx (aV v_), bx (aT t_), bx zV]) (by kernel_rfl) ?_
  refine L_seq ?_
  refine L_drwK hb mixed [2, 3, 4, 6] 7 (by kernel_rfl) (by kernel_rfl) (fun R hR => ?_)
  refine runDS 4 [(11, pt 0), (12, c1 (vi v_.kind)), (13, c1 (.ptr 0 0 4)), (14, c1 (vL flS v_.keys))] (by kernel_rfl) ?_
  obtain ⟨y1, hy1, hq⟩ := bind_inv hq
  refine callF (d := some 15) (by kernel_rfl) (cloneK_g hb he v_.keys y1 hy1) ?_
  refine lastF (T' := sl 42 [(2, pt 0), (3, pt 1), (4, pt 2), (6, pt 3), (11, pt 0), (12, c1 (vi v_.kind)), (13, c1 (.ptr 0 0 4)), (14, c1 (vL flS v_.keys)), (15, c1 (vL flS y1)), (16, .one (.agg [vi v_.kind, vi 0, vS eS, vN, vL flS y1]))]) (σ' := [bx (aV v_), bx (aT t_), bx zV, bx zV]) (by kernel_rfl) ?_
  refine lastK (T' := sl 42 [(2, pt 0), (3, pt 1), (4, pt 2), (6, pt 3)]) (σ' := [bx (aV v_), bx (aT t_), bx zV, bx [vi v_.kind, vi 0, vS eS, vN, vL flS y1]]) (by kernel_rfl) hR ?_
  refine L_seq (L_seq ?_)
  refine L_regS hb [3, 4, 6, 18, 19, 20] (T' := sl 42 [(3, pt 1), (4, pt 2), (6, pt 3), (18, c1 (vL flV v_.items)), (19, c1 (vi (v_.items.length : Int))), (20, c1 (vi 0))]) (by kernel_rfl) ?_
  refine L_block (fun K1 hA1 hB1 hC1 hD1 => ?_)
  refine L_ownσ 3 3 5 (cs := [vi v_.kind, vi 0, vS eS, vN, vL flS y1]) (by kernel_rfl) (by kernel_rfl) rfl ?_
  refine L_backF [3, 4, 6, 18, 19, 20] [0] 5 (T' := sl 42 [(3, pt 1), (4, pt 2), (6, pt 3), (18, c1 (vL flV v_.items)), (19, c1 (vi (v_.items.length : Int))), (20, c1 (vi 0))]) (σ' := [none, bx (aT t_), bx zV, bx [vi v_.kind, vi 0, vS eS, vO flV 4 [], vL flS y1], some (arO true flV.sz ((flV.f []).length) (flV.f []))]) (by kernel_rfl) (by kernel_rfl) (by simp) (by kernel_rfl) ⟨rfl, (by kernel_rfl), (by kernel_rfl), (by kernel_rfl), (under_arO _ _ _ _ _), trivial⟩ ?_
  refine L_as (by kernel_rfl) (by kernel_rfl) (L_loopO (body := (g_convert_each_L1 r_convert_to v_ t_ y1)) (fun s1 => sl 42 [(3, pt 1), (4, pt 2), (6, pt 3), (18, c1 (vL flV v_.items)), (19, c1 (vi (v_.items.length : Int))), (20, c1 (vi s1.1))]) (fun s1 => [none, bx (aT t_), bx zV, bx [vi v_.kind, vi 0, vS eS, vO flV 4 s1.2, vL flS y1], some (arO true flV.sz ((flV.f s1.2).length) (flV.f s1.2))]) (s0 := (0, [])) (fun s1 x1 hq hn1 he1 => ?_) hq)
  refine L_seq ?_
  refine L_regS hb [3, 4, 6, 18, 19, 20, 21] (T' := sl 42 [(3, pt 1), (4, pt 2), (6, pt 3), (18, c1 (vL flV v_.items)), (19, c1 (vi (v_.items.length : Int))), (20, c1 (vi s1.1)), (21, c1 (vB (decide (s1.1 < (v_.items.length : Int)))))]) (by kernel_rfl) ?_
  refine L_seq ?_
  refine L_if hb (b := (decide (s1.1 < (v_.items.length : Int)))) (by kernel_rfl) (fun hc2 => ?_) (fun hc2 => ?_)
  · replace hq := cond_t hc2 hq
    refine L_skip (L_seq (L_block (fun K2 hA2 hB2 hC2 hD2 => (L_seq ?_))))
    refine L_regK hb [3, 4, 6, 8, 18, 19, 20] (fun R hR => ?_)
    obtain ⟨x3, hx3, hq⟩ := bind_inv hq
    refine idxF flV (d := some 22) hx3 (by kernel_rfl) ?_
    refine lastK (T' := sl 42 [(3, pt 1), (4, pt 2), (6, pt 3), (8, pt 5), (18, c1 (vL flV v_.items)), (19, c1 (vi (v_.items.length : Int))), (20, c1 (vi s1.1))]) (σ' := [none, bx (aT t_), bx zV, bx [vi v_.kind, vi 0, vS eS, vO flV 4 s1.2, vL flS y1], some (arO true flV.sz ((flV.f s1.2).length) (flV.f s1.2)), bx (aV x3)]) (by kernel_rfl) hR ?_
    refine L_seq ?_
    refine L_regK hb [3, 4, 6, 9, 10, 18, 19, 20] (fun R hR => ?_)
    refine runDS 2 [(25, .one (.agg (aV x3))), (26, .one (.agg (aT t_)))] (by kernel_rfl) ?_
    obtain ⟨y4, hy4, hq⟩ := bind_inv hq
    refine callF (d := some 27) (by kernel_rfl) (hr_convert_to x3 t_ y4 hy4) ?_
    refine lastK (T' := sl 42 [(3, pt 1), (4, pt 2), (6, pt 3), (9, pt 6), (10, c1 (vi y4.2)), (18, c1 (vL flV v_.items)), (19, c1 (vi (v_.items.length : Int))), (20, c1 (vi s1.1))]) (σ' := [none, bx (aT t_), bx zV, bx [vi v_.kind, vi 0, vS eS, vO flV 4 s1.2, vL flS y1], some (arO true flV.sz ((flV.f s1.2).length) (flV.f s1.2)), bx (aV x3), bx (aV y4.1)]) (by kernel_rfl) hR ?_
    refine L_seq (L_seq ?_)
    refine L_regS hb [3, 4, 6, 9, 10, 18, 19, 20, 31] (T' := sl 42 [(3, pt 1), (4, pt 2), (6, pt 3), (9, pt 6), (10, c1 (vi y4.2)), (18, c1 (vL flV v_.items)), (19, c1 (vi (v_.items.length : Int))), (20, c1 (vi s1.1)), (31, c1 (vB (!decide (y4.2 = 0))))]) (by kernel_rfl) ?_
    refine L_if hb (b := (!decide (y4.2 = 0))) (by kernel_rfl) (fun hc5 => ?_) (fun hc5 => ?_)
    · replace hq := cond_t hc5 hq
      refine L_seq ?_
      refine L_regS hb [4, 5] (T' := sl 42 [(4, pt 2), (5, c1 (vi y4.2))]) (by kernel_rfl) ?_
      refine L_ret (hD2 _ _ (hD1 _ _ ?_))
      have h0 := (Option.some.inj hq).symm
      replace h0 := he1 _ h0
      obtain rfl := h0
      exact end_ret (by kernel_rfl)
    · replace hq := cond_f hc5 hq
      refine L_skip ?_
      refine L_regN hb (fun R hR => ?_)
      refine runDS 4 [(34, c1 (.ptr 3 0 3)), (35, c1 (vO flV 4 s1.2)), (36, .one (.agg (aV y4.1))), (37, c1 (.pv (.sl true 1 [pI .i64 y4.1.kind, pI .i64 y4.1.num, pS y4.1.str, pL flV y4.1.items, pL flS y4.1.keys])))] (by kernel_rfl) ?_
      obtain ⟨l6, hl6, hq⟩ := bind_inv hq
      refine appOwnF flV (d := some 38) (id := 4) (s := .pv (.sl true 1 [pI .i64 y4.1.kind, pI .i64 y4.1.num, pS y4.1.str, pL flV y4.1.items, pL flS y4.1.keys])) (nb := true) (fr := (flV.f s1.2).length) hl6 (by kernel_rfl) (src_lit flV (flV.one y4.1) rfl) (by kernel_rfl) (Nat.le_refl _) ?_
      refine lastF (T' := sl 42 [(3, pt 1), (4, pt 2), (6, pt 3), (9, pt 6), (10, c1 (vi y4.2)), (18, c1 (vL flV v_.items)), (19, c1 (vi (v_.items.length : Int))), (20, c1 (vi s1.1)), (31, c1 (vB (!decide (y4.2 = 0)))), (34, c1 (.ptr 3 0 3)), (35, c1 (vO flV 4 s1.2)), (36, .one (.agg (aV y4.1))), (37, c1 (.pv (.sl true 1 [pI .i64 y4.1.kind, pI .i64 y4.1.num, pS y4.1.str, pL flV y4.1.items, pL flS y4.1.keys]))), (38, c1 (vO flV 4 l6)), (39, c1 (.ptr 3 0 3))]) (σ' := [none, bx (aT t_), bx zV, bx [vi v_.kind, vi 0, vS eS, vO flV 4 l6, vL flS y1], some (arO true flV.sz ((flV.f s1.2).length) (flV.f l6)), bx (aV x3), bx (aV y4.1)]) (by kernel_rfl) (hR _ _ ?_)
      refine L_nil (hA2 _ _ ?_)
      refine L_regS hb [3, 4, 6, 18, 19, 20] (T' := sl 42 [(3, pt 1), (4, pt 2), (6, pt 3), (18, c1 (vL flV v_.items)), (19, c1 (vi (v_.items.length : Int))), (20, c1 (vi (IntKind.i64.wrap (s1.1 + 1))))]) (by kernel_rfl) ?_
      refine L_mark 4 (nb := true) (cs := flV.f l6) rfl (app_le flV hl6) ?_
      refine L_backF [3, 4, 6, 18, 19, 20] [] 5 (T' := sl 42 [(3, pt 1), (4, pt 2), (6, pt 3), (18, c1 (vL flV v_.items)), (19, c1 (vi (v_.items.length : Int))), (20, c1 (vi (IntKind.i64.wrap (s1.1 + 1))))]) (σ' := [none, bx (aT t_), bx zV, bx [vi v_.kind, vi 0, vS eS, vO flV 4 l6, vL flS y1], some (arO true flV.sz ((flV.f l6).length) (flV.f l6))]) (by kernel_rfl) (by kernel_rfl) (by simp) (by kernel_rfl) ⟨rfl, (by kernel_rfl), (by kernel_rfl), (by kernel_rfl), (under_arO _ _ _ _ _), trivial⟩ ?_
      have h0 := (Option.some.inj hq).symm
      exact L_as (by kernel_rfl) (by kernel_rfl) (hn1 _ h0)
  · replace hq := cond_f hc2 hq
    refine L_exit (hB1 _ _ (L_seq ?_))
    refine L_regF hb [4, 5] (T' := sl 42 [(4, pt 2), (5, c1 (vi 0))]) (σ' := [none, bx (aT t_), bx [vi v_.kind, vi 0, vS eS, vO flV 4 s1.2, vL flS y1], bx [vi v_.kind, vi 0, vS eS, vO flV 4 s1.2, vL flS y1], some (arO true flV.sz ((flV.f s1.2).length) (flV.f s1.2))]) (by kernel_rfl) ?_
    refine L_cellσ 2 3 (cs := [vi v_.kind, vi 0, vS eS, vO flV 4 s1.2, vL flS y1]) (c := vO flV 4 s1.2) (by kernel_rfl) (by kernel_rfl) (conv_own flV (nb := true) (id := 4) (xs := s1.2) (by kernel_rfl)) ?_
    refine L_ret ?_
    have h0 := (Option.some.inj hq).symm
    replace h0 := he1 _ h0
    obtain rfl := h0
    exact end_ret (by kernel_rfl)
noncomputable def g_convert_toObject_L2 (r_convert_to : Val → Ty → Option (Val × Int)) (v_ : Val) (t_ : Ty) (y5 : List ByteArray) (s2 : Int × List Val) : Option ((Int × List Val) ⊕ ((Int) ⊕ (Val × Int))) :=
  bif (decide (s2.1 < (t_.names.length : Int))) then (idx t_.names s2.1).bind fun x7 => (g_value_Get v_ x7).bind fun y8 => (idx t_.elems s2.1).bind fun x9 => (r_convert_to y8.1 x9).bind fun y10 => bif (!decide (y10.2 = 0)) then some (.inr (.inr ((Val.mk 0 0 eS [] []), y10.2))) else (app 80 s2.2 [y10.1]).bind fun l12 => some (.inl ((IntKind.i64.wrap (s2.1 + 1)), l12)) else some (.inr (.inr ((Val.mk 5 0 eS s2.2 y5), 0)))
noncomputable def g_convert_toObject_L1 (r_convert_to : Val → Ty → Option (Val × Int)) (v_ : Val) (t_ : Ty) (s1 : Int) : Option ((Int) ⊕ (Val × Int)) :=
  bif (decide (s1 < (v_.keys.length : Int))) then (idx v_.keys s1).bind fun x2 => (g_slices_Contains t_.names x2).bind fun y3 => bif (!y3) then some (.inr ((Val.mk 0 0 eS [] []), 13)) else some (.inl (IntKind.i64.wrap (s1 + 1))) else (clone 16 t_.names).bind fun y5 => loopO (g_convert_toObject_L2 r_convert_to v_ t_ y5) (0, [])
noncomputable def g_convert_toObject (r_convert_to : Val → Ty → Option (Val × Int)) (v_ : Val) (t_ : Ty) : Option (Val × Int) :=
  loopO (g_convert_toObject_L1 r_convert_to v_ t_) 0
theorem g_convert_toObject_ok (hb : Base E E0 G) (he : ∀ w, E w → EnvV w) (r_convert_to : Val → Ty → Option (Val × Int)) (hr_convert_to : ∀ (a0 : Val) (a1 : Ty) (r : Val × Int), r_convert_to a0 a1 = some r → Pure E E0 Tryz.prog 23 [.agg (aV a0), .agg (aT a1)] (.tup [.agg (aV r.1), .cell (vi r.2)])) (v_ : Val) (t_ : Ty) (r_ : Val × Int) (hq : g_convert_toObject r_convert_to v_ t_ = some r_) :
    Pure E E0 Tryz.prog 40 [.agg (aV v_), .agg (aT t_)] (.tup [.agg (aV r_.1), .cell (vi r_.2)]) := by
  refine pure_L Tryz.func40 rfl ?_
  refine L_keepF [0, 1] (T' := sl 69 [(0, .one (.agg (aV v_))), (1, .one (.agg (aT t_)))]) (by kernel_rfl) ?_
  refine L_seq ?_
  refine L_regF hb [2, 3, 4] (T' := sl 69 [(2, pt 0), (3, pt 1), (4, pt 2)]) (σ' := [bx (aV v_), bx (aT t_), bx zV]) (by kernel_rfl) ?_
  refine L_seq (L_seq ?_)
  refine L_regS hb [2, 3, 4, 16, 17, 18] (T' := sl 69 [(2, pt 0), (3, pt 1), (4, pt 2), (16, c1 (vL flS v_.keys)), (17, c1 (vi (v_.keys.length : Int))), (18, c1 (vi 0))]) (by kernel_rfl) ?_
  refine L_block (fun K1 hA1 hB1 hC1 hD1 => ?_)
  refine L_backF [2, 3, 4, 16, 17, 18] [] 3 (T' := sl 69 [(2, pt 0), (3, pt 1), (4, pt 2), (16, c1 (vL flS v_.keys)), (17, c1 (vi (v_.keys.length : Int))), (18, c1 (vi 0))]) (σ' := [bx (aV v_), bx (aT t_), bx zV]) (by kernel_rfl) (by kernel_rfl) (by simp) (by kernel_rfl) ⟨(by kernel_rfl), (by kernel_rfl), (by kernel_rfl), trivial⟩ ?_
  refine L_as (by kernel_rfl) (by kernel_rfl) (L_loopO (body := (g_convert_toObject_L1 r_convert_to v_ t_)) (fun s1 => sl 69 [(2, pt 0), (3, pt 1), (4, pt 2), (16, c1 (vL flS v_.keys)), (17, c1 (vi (v_.keys.length : Int))), (18, c1 (vi s1))]) (fun s1 => [bx (aV v_), bx (aT t_), bx zV]) (s0 := 0) (fun s1 x1 hq hn1 he1 => ?_) hq)
  refine L_seq ?_
  refine L_regS hb [2, 3, 4, 16, 17, 18, 19] (T' := sl 69 [(2, pt 0), (3, pt 1), (4, pt 2), (16, c1 (vL flS v_.keys)), (17, c1 (vi (v_.keys.length : Int))), (18, c1 (vi s1)), (19, c1 (vB (decide (s1 < (v_.keys.length : Int)))))]) (by kernel_rfl) ?_
  refine L_seq ?_
  refine L_if hb (b := (decide (s1 < (v_.keys.length : Int)))) (by kernel_rfl) (fun hc1 => ?_) (fun hc1 => ?_)
  · replace hq := cond_t hc1 hq
    refine L_skip (L_seq (L_block (fun K2 hA2 hB2 hC2 hD2 => (L_seq ?_))))
    refine L_regK hb [2, 3, 4, 7, 16, 17, 18] (fun R hR => ?_)
    obtain ⟨x2, hx2, hq⟩ := bind_inv hq
    refine idxF flS (d := some 20) hx2 (by kernel_rfl) ?_
    refine lastKS (T' := sl 69 [(2, pt 0), (3, pt 1), (4, pt 2), (7, c1 (vS x2)), (16, c1 (vL flS v_.keys)), (17, c1 (vi (v_.keys.length : Int))), (18, c1 (vi s1))]) (by kernel_rfl) hR ?_
    refine L_seq ?_
    refine L_regK hb [2, 3, 4, 16, 17, 18, 26] (fun R hR => ?_)
    refine runDS 3 [(22, c1 (.ptr 1 0 2)), (23, c1 (vL flS t_.names)), (24, c1 (vS x2))] (by kernel_rfl) ?_
    obtain ⟨y3, hy3, hq⟩ := bind_inv hq
    refine callF (d := some 25) (by kernel_rfl) (g_slices_Contains_ok hb he t_.names x2 y3 hy3) ?_
    refine lastKS (T' := sl 69 [(2, pt 0), (3, pt 1), (4, pt 2), (16, c1 (vL flS v_.keys)), (17, c1 (vi (v_.keys.length : Int))), (18, c1 (vi s1)), (26, c1 (vB (!y3)))]) (by kernel_rfl) hR ?_
    refine L_if hb (b := (!y3)) (by kernel_rfl) (fun hc4 => ?_) (fun hc4 => ?_)
    · replace hq := cond_t hc4 hq
      refine L_seq ?_
      refine L_regS hb [4, 5] (T' := sl 69 [(4, pt 2), (5, c1 (vi 13))]) (by kernel_rfl) ?_
      refine L_ret (hD2 _ _ (hD1 _ _ ?_))
      have h0 := (Option.some.inj hq).symm
      replace h0 := he1 _ h0
      obtain rfl := h0
      exact end_ret (by kernel_rfl)
    · replace hq := cond_f hc4 hq
      refine L_skip (L_nil (hA2 _ _ ?_))
      refine L_regS hb [2, 3, 4, 16, 17, 18] (T' := sl 69 [(2, pt 0), (3, pt 1), (4, pt 2), (16, c1 (vL flS v_.keys)), (17, c1 (vi (v_.keys.length : Int))), (18, c1 (vi (IntKind.i64.wrap (s1 + 1))))]) (by kernel_rfl) ?_
      refine L_backF [2, 3, 4, 16, 17, 18] [] 3 (T' := sl 69 [(2, pt 0), (3, pt 1), (4, pt 2), (16, c1 (vL flS v_.keys)), (17, c1 (vi (v_.keys.length : Int))), (18, c1 (vi (IntKind.i64.wrap (s1 + 1))))]) (σ' := [bx (aV v_), bx (aT t_), bx zV]) (by kernel_rfl) (by kernel_rfl) (by simp) (by kernel_rfl) ⟨(by kernel_rfl), (by kernel_rfl), (by kernel_rfl), trivial⟩ ?_
      have h0 := (Option.some.inj hq).symm
      exact L_as (by kernel_rfl) (by kernel_rfl) (hn1 _ h0)
  · replace hq := cond_f hc1 hq
    refine L_exit (hB1 _ _ (L_seq ?_))
    refine L_regK hb [2, 3, 4, 8] (fun R hR => ?_)
    refine runDS 2 [(29, c1 (.ptr 1 0 2)), (30, c1 (vL flS t_.names))] (by kernel_rfl) ?_
    obtain ⟨y5, hy5, hq⟩ := bind_inv hq
    refine callF (d := some 31) (by kernel_rfl) (cloneK_g hb he t_.names y5 hy5) ?_
    refine lastK (T' := sl 69 [(2, pt 0), (3, pt 1), (4, pt 2), (8, pt 3)]) (σ' := [bx (aV v_), bx (aT t_), bx zV, bx [vi 5, vi 0, vS eS, vN, vL flS y5]]) (by kernel_rfl) hR ?_
    refine L_seq (L_seq ?_)
    refine L_regS hb [2, 3, 4, 8, 34, 35, 36] (T' := sl 69 [(2, pt 0), (3, pt 1), (4, pt 2), (8, pt 3), (34, c1 (vL flS t_.names)), (35, c1 (vi (t_.names.length : Int))), (36, c1 (vi 0))]) (by kernel_rfl) ?_
    refine L_block (fun K1 hA1 hB1 hC1 hD1 => ?_)
    refine L_ownσ 3 3 5 (cs := [vi 5, vi 0, vS eS, vN, vL flS y5]) (by kernel_rfl) (by kernel_rfl) rfl ?_
    refine L_backF [2, 3, 4, 8, 34, 35, 36] [] 5 (T' := sl 69 [(2, pt 0), (3, pt 1), (4, pt 2), (8, pt 3), (34, c1 (vL flS t_.names)), (35, c1 (vi (t_.names.length : Int))), (36, c1 (vi 0))]) (σ' := [bx (aV v_), bx (aT t_), bx zV, bx [vi 5, vi 0, vS eS, vO flV 4 [], vL flS y5], some (arO true flV.sz ((flV.f []).length) (flV.f []))]) (by kernel_rfl) (by kernel_rfl) (by simp) (by kernel_rfl) ⟨(by kernel_rfl), (by kernel_rfl), (by kernel_rfl), (by kernel_rfl), (under_arO _ _ _ _ _), trivial⟩ ?_
    refine L_as (by kernel_rfl) (by kernel_rfl) (L_loopO (body := (g_convert_toObject_L2 r_convert_to v_ t_ y5)) (fun s2 => sl 69 [(2, pt 0), (3, pt 1), (4, pt 2), (8, pt 3), (34, c1 (vL flS t_.names)), (35, c1 (vi (t_.names.length : Int))), (36, c1 (vi s2.1))]) (fun s2 => [bx (aV v_), bx (aT t_), bx zV, bx [vi 5, vi 0, vS eS, vO flV 4 s2.2, vL flS y5], some (arO true flV.sz ((flV.f s2.2).length) (flV.f s2.2))]) (s0 := (0, [])) (fun s2 x2 hq hn2 he2 => ?_) hq)
    refine L_seq ?_
    refine L_regS hb [2, 3, 4, 8, 34, 35, 36, 37] (T' := sl 69 [(2, pt 0), (3, pt 1), (4, pt 2), (8, pt 3), (34, c1 (vL flS t_.names)), (35, c1 (vi (t_.names.length : Int))), (36, c1 (vi s2.1)), (37, c1 (vB (decide (s2.1 < (t_.names.length : Int)))))]) (by kernel_rfl) ?_
    refine L_seq ?_
    refine L_if hb (b := (decide (s2.1 < (t_.names.length : Int)))) (by kernel_rfl) (fun hc6 => ?_) (fun hc6 => ?_)
    · replace hq := cond_t hc6 hq
      refine L_skip (L_seq (L_block (fun K2 hA2 hB2 hC2 hD2 => (L_seq ?_))))
      refine L_regK hb [2, 3, 4, 8, 9, 10, 34, 35, 36] (fun R hR => ?_)
      refine runDS 1 [(38, c1 (vi s2.1))] (by kernel_rfl) ?_
      obtain ⟨x7, hx7, hq⟩ := bind_inv hq
      refine idxF flS (d := some 39) hx7 (by kernel_rfl) ?_
      refine lastKS (T' := sl 69 [(2, pt 0), (3, pt 1), (4, pt 2), (8, pt 3), (9, c1 (vi s2.1)), (10, c1 (vS x7)), (34, c1 (vL flS t_.names)), (35, c1 (vi (t_.names.length : Int))), (36, c1 (vi s2.1))]) (by kernel_rfl) hR ?_
      refine L_seq ?_
      refine L_regK hb [2, 3, 4, 8, 9, 11, 34, 35, 36] (fun R hR => ?_)
      refine runDS 2 [(42, .one (.agg (aV v_))), (43, c1 (vS x7))] (by kernel_rfl) ?_
      obtain ⟨y8, hy8, hq⟩ := bind_inv hq
      refine callF (d := some 44) (by kernel_rfl) (g_value_Get_ok hb he v_ x7 y8 hy8) ?_
      refine lastK (T' := sl 69 [(2, pt 0), (3, pt 1), (4, pt 2), (8, pt 3), (9, c1 (vi s2.1)), (11, pt 5), (34, c1 (vL flS t_.names)), (35, c1 (vi (t_.names.length : Int))), (36, c1 (vi s2.1))]) (σ' := [bx (aV v_), bx (aT t_), bx zV, bx [vi 5, vi 0, vS eS, vO flV 4 s2.2, vL flS y5], some (arO true flV.sz ((flV.f s2.2).length) (flV.f s2.2)), bx (aV y8.1)]) (by kernel_rfl) hR ?_
      refine L_seq ?_
      refine L_drwK hb mixed [2, 3, 4, 8, 13, 14, 34, 35, 36] 11 (by kernel_rfl) (by kernel_rfl) (fun R hR => ?_)
      refine runDS 4 [(48, .one (.agg (aV y8.1))), (49, c1 (.ptr 1 0 1)), (50, c1 (vL flT t_.elems)), (51, c1 (vi s2.1))] (by kernel_rfl) ?_
      obtain ⟨x9, hx9, hq⟩ := bind_inv hq
      refine idxF flT (d := some 52) hx9 (by kernel_rfl) ?_
      refine runPS 1 [(52, c1 (.pv (.pp (flT.c x9 ++ flT.f (List.drop (s2.1.toNat + 1) t_.elems))))), (53, .one (.agg (aT x9)))] (by kernel_rfl) ?_
      obtain ⟨y10, hy10, hq⟩ := bind_inv hq
      refine callF (d := some 54) (by kernel_rfl) (hr_convert_to y8.1 x9 y10 hy10) ?_
      refine lastF (T' := sl 69 [(2, pt 0), (3, pt 1), (4, pt 2), (8, pt 3), (9, c1 (vi s2.1)), (11, pt 5), (13, pt 6), (34, c1 (vL flS t_.names)), (35, c1 (vi (t_.names.length : Int))), (36, c1 (vi s2.1)), (47, .tup [.agg (aV y10.1), .cell (vi y10.2)]), (48, .one (.agg (aV y8.1))), (49, c1 (.ptr 1 0 1)), (50, c1 (vL flT t_.elems)), (51, c1 (vi s2.1)), (52, c1 (.pv (.pp (flT.c x9 ++ flT.f (List.drop (s2.1.toNat + 1) t_.elems))))), (53, .one (.agg (aT x9))), (54, .tup [.agg (aV y10.1), .cell (vi y10.2)]), (55, .one (.agg (aV y10.1))), (56, c1 (vi y10.2))]) (σ' := [bx (aV v_), bx (aT t_), bx zV, bx [vi 5, vi 0, vS eS, vO flV 4 s2.2, vL flS y5], some (arO true flV.sz ((flV.f s2.2).length) (flV.f s2.2)), bx (aV y8.1), bx zV]) (by kernel_rfl) ?_
      refine lastK (T' := sl 69 [(2, pt 0), (3, pt 1), (4, pt 2), (8, pt 3), (13, pt 6), (14, c1 (vi y10.2)), (34, c1 (vL flS t_.names)), (35, c1 (vi (t_.names.length : Int))), (36, c1 (vi s2.1))]) (σ' := [bx (aV v_), bx (aT t_), bx zV, bx [vi 5, vi 0, vS eS, vO flV 4 s2.2, vL flS y5], some (arO true flV.sz ((flV.f s2.2).length) (flV.f s2.2)), bx (aV y8.1), bx (aV y10.1)]) (by kernel_rfl) hR ?_
      refine L_seq (L_seq ?_)
      refine L_regS hb [2, 3, 4, 8, 13, 14, 34, 35, 36, 58] (T' := sl 69 [(2, pt 0), (3, pt 1), (4, pt 2), (8, pt 3), (13, pt 6), (14, c1 (vi y10.2)), (34, c1 (vL flS t_.names)), (35, c1 (vi (t_.names.length : Int))), (36, c1 (vi s2.1)), (58, c1 (vB (!decide (y10.2 = 0))))]) (by kernel_rfl) ?_
      refine L_if hb (b := (!decide (y10.2 = 0))) (by kernel_rfl) (fun hc11 => ?_) (fun hc11 => ?_)
      · replace hq := cond_t hc11 hq
        refine L_seq ?_
        refine L_regS hb [4, 5] (T' := sl 69 [(4, pt 2), (5, c1 (vi y10.2))]) (by kernel_rfl) ?_
        refine L_ret (hD2 _ _ (hD1 _ _ ?_))
        have h0 := (Option.some.inj hq).symm
        replace h0 := he2 _ h0
        replace h0 := h0.symm
        replace h0 := he1 _ h0
        obtain rfl := h0
        exact end_ret (by kernel_rfl)
      · replace hq := cond_f hc11 hq
        refine L_skip ?_
        refine L_regN hb (fun R hR => ?_)
        refine runDS 4 [(61, c1 (.ptr 3 0 3)), (62, c1 (vO flV 4 s2.2)), (63, .one (.agg (aV y10.1))), (64, c1 (.pv (.sl true 1 [pI .i64 y10.1.kind, pI .i64 y10.1.num, pS y10.1.str, pL flV y10.1.items, pL flS y10.1.keys])))] (by kernel_rfl) ?_
        obtain ⟨l12, hl12, hq⟩ := bind_inv hq
        refine appOwnF flV (d := some 65) (id := 4) (s := .pv (.sl true 1 [pI .i64 y10.1.kind, pI .i64 y10.1.num, pS y10.1.str, pL flV y10.1.items, pL flS y10.1.keys])) (nb := true) (fr := (flV.f s2.2).length) hl12 (by kernel_rfl) (src_lit flV (flV.one y10.1) rfl) (by kernel_rfl) (Nat.le_refl _) ?_
        refine lastF (T' := sl 69 [(2, pt 0), (3, pt 1), (4, pt 2), (8, pt 3), (13, pt 6), (14, c1 (vi y10.2)), (34, c1 (vL flS t_.names)), (35, c1 (vi (t_.names.length : Int))), (36, c1 (vi s2.1)), (58, c1 (vB (!decide (y10.2 = 0)))), (61, c1 (.ptr 3 0 3)), (62, c1 (vO flV 4 s2.2)), (63, .one (.agg (aV y10.1))), (64, c1 (.pv (.sl true 1 [pI .i64 y10.1.kind, pI .i64 y10.1.num, pS y10.1.str, pL flV y10.1.items, pL flS y10.1.keys]))), (65, c1 (vO flV 4 l12)), (66, c1 (.ptr 3 0 3))]) (σ' := [bx (aV v_), bx (aT t_), bx zV, bx [vi 5, vi 0, vS eS, vO flV 4 l12, vL flS y5], some (arO true flV.sz ((flV.f s2.2).length) (flV.f l12)), bx (aV y8.1), bx (aV y10.1)]) (by kernel_rfl) (hR _ _ ?_)
        refine L_nil (hA2 _ _ ?_)
        refine L_regS hb [2, 3, 4, 8, 34, 35, 36] (T' := sl 69 [(2, pt 0), (3, pt 1), (4, pt 2), (8, pt 3), (34, c1 (vL flS t_.names)), (35, c1 (vi (t_.names.length : Int))), (36, c1 (vi (IntKind.i64.wrap (s2.1 + 1))))]) (by kernel_rfl) ?_
        refine L_mark 4 (nb := true) (cs := flV.f l12) rfl (app_le flV hl12) ?_
        refine L_backF [2, 3, 4, 8, 34, 35, 36] [] 5 (T' := sl 69 [(2, pt 0), (3, pt 1), (4, pt 2), (8, pt 3), (34, c1 (vL flS t_.names)), (35, c1 (vi (t_.names.length : Int))), (36, c1 (vi (IntKind.i64.wrap (s2.1 + 1))))]) (σ' := [bx (aV v_), bx (aT t_), bx zV, bx [vi 5, vi 0, vS eS, vO flV 4 l12, vL flS y5], some (arO true flV.sz ((flV.f l12).length) (flV.f l12))]) (by kernel_rfl) (by kernel_rfl) (by simp) (by kernel_rfl) ⟨(by kernel_rfl), (by kernel_rfl), (by kernel_rfl), (by kernel_rfl), (under_arO _ _ _ _ _), trivial⟩ ?_
        have h0 := (Option.some.inj hq).symm
        exact L_as (by kernel_rfl) (by kernel_rfl) (hn2 _ h0)
    · replace hq := cond_f hc6 hq
      refine L_exit (hB1 _ _ (L_seq ?_))
      refine L_regF hb [4, 5] (T' := sl 69 [(4, pt 2), (5, c1 (vi 0))]) (σ' := [bx (aV v_), bx (aT t_), bx [vi 5, vi 0, vS eS, vO flV 4 s2.2, vL flS y5], bx [vi 5, vi 0, vS eS, vO flV 4 s2.2, vL flS y5], some (arO true flV.sz ((flV.f s2.2).length) (flV.f s2.2))]) (by kernel_rfl) ?_
      refine L_cellσ 2 3 (cs := [vi 5, vi 0, vS eS, vO flV 4 s2.2, vL flS y5]) (c := vO flV 4 s2.2) (by kernel_rfl) (by kernel_rfl) (conv_own flV (nb := true) (id := 4) (xs := s2.2) (by kernel_rfl)) ?_
      refine L_ret ?_
      have h0 := (Option.some.inj hq).symm
      replace h0 := he2 _ h0
      replace h0 := h0.symm
      replace h0 := he1 _ h0
      obtain rfl := h0
      exact end_ret (by kernel_rfl)
end Abs
end Go.Proofs.YtkmhhboihgckcaaGreatDoor
