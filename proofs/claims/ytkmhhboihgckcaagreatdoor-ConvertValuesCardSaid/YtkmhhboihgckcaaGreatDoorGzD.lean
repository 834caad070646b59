/-
  Convert: Go functions as functions over plain values, with the proof that the code computes them; printed by gen.py.
-/
import Derived.Test.YtkmhhboihgckcaaGreatDoorGzC
import Derived.Test.YtkmhhboihgckcaaGreatDoorAbsZ
namespace Go.Proofs.YtkmhhboihgckcaaGreatDoor
namespace Abs
open Go.RowKit
variable {E : World → Prop} {E0 : Nat} {G : Nat → Option (List PV)}
set_option maxRecDepth 100000
set_option linter.unusedVariables false
set_option linter.unusedSimpArgs false
attribute [local irreducible] asqX awpL awp asq asqD Pure Ok asqF sl loopO
noncomputable def g_r10_common_L1 (r_r10_of : Val → Int → Option (Ty)) (l_ : List Val) (level_ : Int) (s1 : Int × List Ty × List ByteArray × Bool × Int) : Option ((Int × List Ty × List ByteArray × Bool × Int) ⊕ (Ty)) :=
  bif (decide (s1.2.2.2.2 < (l_.length : Int))) then (idx l_ s1.2.2.2.2).bind fun x2 => bif (decide (x2.kind = 0)) then some (.inl (s1.1, s1.2.1, s1.2.2.1, s1.2.2.2.1, (IntKind.i64.wrap (s1.2.2.2.2 + 1)))) else (idx l_ s1.2.2.2.2).bind fun x4 => bif (decide (x4.kind = 6)) then some (.inl (s1.1, s1.2.1, s1.2.2.1, s1.2.2.2.1, (IntKind.i64.wrap (s1.2.2.2.2 + 1)))) else (idx l_ s1.2.2.2.2).bind fun x6 => (r_r10_of x6 level_).bind fun y7 => bif s1.2.2.2.1 then some (.inl (y7.kind, y7.elems, y7.names, false, (IntKind.i64.wrap (s1.2.2.2.2 + 1)))) else (t_r10_Unify (Ty.mk s1.1 s1.2.1 s1.2.2.1) y7).bind fun y9 => some (.inl (y9.kind, y9.elems, y9.names, false, (IntKind.i64.wrap (s1.2.2.2.2 + 1)))) else some (.inr (Ty.mk s1.1 s1.2.1 s1.2.2.1))
noncomputable def g_r10_common (r_r10_of : Val → Int → Option (Ty)) (l_ : List Val) (level_ : Int) : Option (Ty) :=
  loopO (g_r10_common_L1 r_r10_of l_ level_) (0, [], [], true, 0)
theorem g_r10_common_ok (hb : Base E E0 G) (he : ∀ w, E w → EnvV w) (r_r10_of : Val → Int → Option (Ty)) (hr_r10_of : ∀ (a0 : Val) (a1 : Int) (r : Ty), r_r10_of a0 a1 = some r → Pure E E0 Tryz.prog 48 [.agg (aV a0), .cell (vi a1)] (.one (.agg (aT r)))) (l_ : List Val) (level_ : Int) (r_ : Ty) (hq : g_r10_common r_r10_of l_ level_ = some r_) :
    Pure E E0 Tryz.prog 73 [.cell (vL flV l_), .cell (vi level_)] (.one (.agg (aT r_))) := by
  refine pure_L Tryz.func73 rfl ?_
  refine L_keepF [0, 1] (T' := sl 41 [(0, c1 (vL flV l_)), (1, c1 (vi level_))]) (by kernel_rfl) ?_
  refine L_seq ?_
  refine L_regF hb [0, 1, 4] (T' := sl 41 [(0, c1 (vL flV l_)), (1, c1 (vi level_)), (4, pt 0)]) (σ' := [bx [vi 0, vN, vN]]) (by kernel_rfl) ?_
  refine L_seq ?_
  refine L_regF hb [0, 1, 4, 5] (T' := sl 41 [(0, c1 (vL flV l_)), (1, c1 (vi level_)), (4, pt 0), (5, pt 1)]) (σ' := [bx [vi 0, vN, vN], bx [vi 0, vN, vN]]) (by kernel_rfl) ?_
  refine L_seq ?_
  refine L_regS hb [0, 1, 4, 5, 6] (T' := sl 41 [(0, c1 (vL flV l_)), (1, c1 (vi level_)), (4, pt 0), (5, pt 1), (6, c1 (vB true))]) (by kernel_rfl) ?_
  refine L_seq (L_seq ?_)
  refine L_regS hb [0, 1, 4, 5, 6, 7] (T' := sl 41 [(0, c1 (vL flV l_)), (1, c1 (vi level_)), (4, pt 0), (5, pt 1), (6, c1 (vB true)), (7, c1 (vi 0))]) (by kernel_rfl) ?_
  refine L_block (fun K1 hA1 hB1 hC1 hD1 => ?_)
  refine L_cellσ 1 1 (cs := [vi 0, vN, vN]) (c := vN) (by kernel_rfl) (by kernel_rfl) (conv_nil flT) ?_
  refine L_cellσ 1 2 (cs := [vi 0, vL flT [], vN]) (c := vN) (by kernel_rfl) (by kernel_rfl) (conv_nil flS) ?_
  refine L_backF [0, 1, 4, 5, 6, 7] [] 2 (T' := sl 41 [(0, c1 (vL flV l_)), (1, c1 (vi level_)), (4, pt 0), (5, pt 1), (6, c1 (vB true)), (7, c1 (vi 0))]) (σ' := [bx [vi 0, vN, vN], bx [vi 0, vL flT [], vL flS []]]) (by kernel_rfl) (by kernel_rfl) (by simp) (by kernel_rfl) ⟨(by kernel_rfl), (by kernel_rfl), trivial⟩ ?_
  refine L_as (by kernel_rfl) (by kernel_rfl) (L_loopO (body := (g_r10_common_L1 r_r10_of l_ level_)) (fun s1 => sl 41 [(0, c1 (vL flV l_)), (1, c1 (vi level_)), (4, pt 0), (5, pt 1), (6, c1 (vB s1.2.2.2.1)), (7, c1 (vi s1.2.2.2.2))]) (fun s1 => [bx [vi 0, vN, vN], bx [vi s1.1, vL flT s1.2.1, vL flS s1.2.2.1]]) (s0 := (0, [], [], true, 0)) (fun s1 x1 hq hn1 he1 => ?_) hq)
  refine L_seq (L_seq ?_)
  refine L_regS hb [0, 1, 4, 5, 6, 7, 12] (T' := sl 41 [(0, c1 (vL flV l_)), (1, c1 (vi level_)), (4, pt 0), (5, pt 1), (6, c1 (vB s1.2.2.2.1)), (7, c1 (vi s1.2.2.2.2)), (12, c1 (vB (decide (s1.2.2.2.2 < (l_.length : Int)))))]) (by kernel_rfl) ?_
  refine L_if hb (b := (decide (s1.2.2.2.2 < (l_.length : Int)))) (by kernel_rfl) (fun hc1 => ?_) (fun hc1 => ?_)
  · replace hq := cond_t hc1 hq
    refine L_skip (L_seq (L_block (fun K2 hA2 hB2 hC2 hD2 => (L_seq (L_seq ?_)))))
    refine L_regK hb [0, 1, 4, 5, 6, 7, 28] (fun R hR => ?_)
    refine runDS 2 [(15, c1 (vL flV l_)), (16, c1 (vi s1.2.2.2.2))] (by kernel_rfl) ?_
    obtain ⟨x2, hx2, hq⟩ := bind_inv hq
    refine idxF flV (d := some 17) hx2 (by kernel_rfl) ?_
    refine runPS 4 [(17, c1 (.pv (.pp (flV.c x2 ++ flV.f (List.drop (s1.2.2.2.2.toNat + 1) l_))))), (18, c1 (.pv (.pp (List.drop 0 (flV.c x2 ++ flV.f (List.drop (s1.2.2.2.2.toNat + 1) l_)))))), (19, c1 (vi x2.kind)), (20, c1 (vB (decide (x2.kind = 0)))), (21, c1 (vB (decide (x2.kind = 0))))] (by kernel_rfl) ?_
    refine partsD ((decide (x2.kind = 0))) (fun zz => [(20, c1 (vB zz)), (21, c1 (vB zz))]) (by kernel_rfl) (fun hc3 => ?_) (fun hc3 => ?_)
    · replace hq := cond_t hc3 hq
      refine lastKS (T' := sl 41 [(0, c1 (vL flV l_)), (1, c1 (vi level_)), (4, pt 0), (5, pt 1), (6, c1 (vB s1.2.2.2.1)), (7, c1 (vi s1.2.2.2.2)), (28, c1 (vB true))]) (by kernel_rfl) hR ?_
      refine L_true hb (by kernel_rfl) (L_exit (hB2 _ _ ?_))
      refine L_regS hb [0, 1, 4, 5, 6, 7] (T' := sl 41 [(0, c1 (vL flV l_)), (1, c1 (vi level_)), (4, pt 0), (5, pt 1), (6, c1 (vB s1.2.2.2.1)), (7, c1 (vi (IntKind.i64.wrap (s1.2.2.2.2 + 1))))]) (by kernel_rfl) ?_
      refine L_backF [0, 1, 4, 5, 6, 7] [] 2 (T' := sl 41 [(0, c1 (vL flV l_)), (1, c1 (vi level_)), (4, pt 0), (5, pt 1), (6, c1 (vB s1.2.2.2.1)), (7, c1 (vi (IntKind.i64.wrap (s1.2.2.2.2 + 1))))]) (σ' := [bx [vi 0, vN, vN], bx [vi s1.1, vL flT s1.2.1, vL flS s1.2.2.1]]) (by kernel_rfl) (by kernel_rfl) (by simp) (by kernel_rfl) ⟨(by kernel_rfl), (by kernel_rfl), trivial⟩ ?_
      have h0 := (Option.some.inj hq).symm
      exact L_as (by kernel_rfl) (by kernel_rfl) (hn1 _ h0)
    · replace hq := cond_f hc3 hq
      refine runDS 2 [(22, c1 (vL flV l_)), (23, c1 (vi s1.2.2.2.2))] (by kernel_rfl) ?_
      obtain ⟨x4, hx4, hq⟩ := bind_inv hq
      refine idxF flV (d := some 24) hx4 (by kernel_rfl) ?_
      refine lastKS (T' := sl 41 [(0, c1 (vL flV l_)), (1, c1 (vi level_)), (4, pt 0), (5, pt 1), (6, c1 (vB s1.2.2.2.1)), (7, c1 (vi s1.2.2.2.2)), (28, c1 (vB (decide (x4.kind = 6))))]) (by kernel_rfl) hR ?_
      refine L_if hb (b := (decide (x4.kind = 6))) (by kernel_rfl) (fun hc5 => ?_) (fun hc5 => ?_)
      · replace hq := cond_t hc5 hq
        refine L_exit (hB2 _ _ ?_)
        refine L_regS hb [0, 1, 4, 5, 6, 7] (T' := sl 41 [(0, c1 (vL flV l_)), (1, c1 (vi level_)), (4, pt 0), (5, pt 1), (6, c1 (vB s1.2.2.2.1)), (7, c1 (vi (IntKind.i64.wrap (s1.2.2.2.2 + 1))))]) (by kernel_rfl) ?_
        refine L_backF [0, 1, 4, 5, 6, 7] [] 2 (T' := sl 41 [(0, c1 (vL flV l_)), (1, c1 (vi level_)), (4, pt 0), (5, pt 1), (6, c1 (vB s1.2.2.2.1)), (7, c1 (vi (IntKind.i64.wrap (s1.2.2.2.2 + 1))))]) (σ' := [bx [vi 0, vN, vN], bx [vi s1.1, vL flT s1.2.1, vL flS s1.2.2.1]]) (by kernel_rfl) (by kernel_rfl) (by simp) (by kernel_rfl) ⟨(by kernel_rfl), (by kernel_rfl), trivial⟩ ?_
        have h0 := (Option.some.inj hq).symm
        exact L_as (by kernel_rfl) (by kernel_rfl) (hn1 _ h0)
      · replace hq := cond_f hc5 hq
        refine L_skip (L_seq ?_)
        refine L_regK hb [0, 1, 4, 5, 6, 7, 8] (fun R hR => ?_)
        refine runDS 2 [(29, c1 (vL flV l_)), (30, c1 (vi s1.2.2.2.2))] (by kernel_rfl) ?_
        obtain ⟨x6, hx6, hq⟩ := bind_inv hq
        refine idxF flV (d := some 31) hx6 (by kernel_rfl) ?_
        refine runPS 2 [(31, c1 (.pv (.pp (flV.c x6 ++ flV.f (List.drop (s1.2.2.2.2.toNat + 1) l_))))), (32, .one (.agg (aV x6))), (33, c1 (vi level_))] (by kernel_rfl) ?_
        obtain ⟨y7, hy7, hq⟩ := bind_inv hq
        refine callF (d := some 34) (by kernel_rfl) (hr_r10_of x6 level_ y7 hy7) ?_
        refine lastK (T' := sl 41 [(0, c1 (vL flV l_)), (1, c1 (vi level_)), (4, pt 0), (5, pt 1), (6, c1 (vB s1.2.2.2.1)), (7, c1 (vi s1.2.2.2.2)), (8, pt 2)]) (σ' := [bx [vi 0, vN, vN], bx [vi s1.1, vL flT s1.2.1, vL flS s1.2.2.1], bx (aT y7)]) (by kernel_rfl) hR ?_
        refine L_seq (L_seq ?_)
        refine L_regS hb [0, 1, 4, 5, 7, 8, 35] (T' := sl 41 [(0, c1 (vL flV l_)), (1, c1 (vi level_)), (4, pt 0), (5, pt 1), (7, c1 (vi s1.2.2.2.2)), (8, pt 2), (35, c1 (vB s1.2.2.2.1))]) (by kernel_rfl) ?_
        refine L_if hb (b := s1.2.2.2.1) (by kernel_rfl) (fun hc8 => ?_) (fun hc8 => ?_)
        · replace hq := cond_t hc8 hq
          refine L_regF hb [0, 1, 4, 5, 7] (T' := sl 41 [(0, c1 (vL flV l_)), (1, c1 (vi level_)), (4, pt 0), (5, pt 1), (7, c1 (vi s1.2.2.2.2))]) (σ' := [bx [vi 0, vN, vN], bx (aT y7), bx (aT y7)]) (by kernel_rfl) ?_
          refine L_regN hb (fun R hR => ?_)
          refine lastFS (T' := sl 41 [(0, c1 (vL flV l_)), (1, c1 (vi level_)), (4, pt 0), (5, pt 1), (6, c1 (vB false)), (7, c1 (vi s1.2.2.2.2))]) (by kernel_rfl) (hR _ _ ?_)
          refine L_nil (hA2 _ _ ?_)
          refine L_regS hb [0, 1, 4, 5, 6, 7] (T' := sl 41 [(0, c1 (vL flV l_)), (1, c1 (vi level_)), (4, pt 0), (5, pt 1), (6, c1 (vB false)), (7, c1 (vi (IntKind.i64.wrap (s1.2.2.2.2 + 1))))]) (by kernel_rfl) ?_
          refine L_backF [0, 1, 4, 5, 6, 7] [] 2 (T' := sl 41 [(0, c1 (vL flV l_)), (1, c1 (vi level_)), (4, pt 0), (5, pt 1), (6, c1 (vB false)), (7, c1 (vi (IntKind.i64.wrap (s1.2.2.2.2 + 1))))]) (σ' := [bx [vi 0, vN, vN], bx (aT y7)]) (by kernel_rfl) (by kernel_rfl) (by simp) (by kernel_rfl) ⟨(by kernel_rfl), (by kernel_rfl), trivial⟩ ?_
          have h0 := (Option.some.inj hq).symm
          exact L_as (by kernel_rfl) (by kernel_rfl) (hn1 _ h0)
        · replace hq := cond_f hc8 hq
          refine L_regK hb [0, 1, 4, 5, 7] (fun R hR => ?_)
          refine runDS 2 [(37, .one (.agg [vi s1.1, vL flT s1.2.1, vL flS s1.2.2.1])), (38, .one (.agg (aT y7)))] (by kernel_rfl) ?_
          obtain ⟨y9, hy9, hq⟩ := bind_inv hq
          refine callF (d := some 39) (by kernel_rfl) (t_r10_Unify_ok hb he (Ty.mk s1.1 s1.2.1 s1.2.2.1) y7 y9 hy9) ?_
          refine lastK (T' := sl 41 [(0, c1 (vL flV l_)), (1, c1 (vi level_)), (4, pt 0), (5, pt 1), (7, c1 (vi s1.2.2.2.2))]) (σ' := [bx [vi 0, vN, vN], bx (aT y9), bx (aT y7)]) (by kernel_rfl) hR ?_
          refine L_regN hb (fun R hR => ?_)
          refine lastFS (T' := sl 41 [(0, c1 (vL flV l_)), (1, c1 (vi level_)), (4, pt 0), (5, pt 1), (6, c1 (vB false)), (7, c1 (vi s1.2.2.2.2))]) (by kernel_rfl) (hR _ _ ?_)
          refine L_nil (hA2 _ _ ?_)
          refine L_regS hb [0, 1, 4, 5, 6, 7] (T' := sl 41 [(0, c1 (vL flV l_)), (1, c1 (vi level_)), (4, pt 0), (5, pt 1), (6, c1 (vB false)), (7, c1 (vi (IntKind.i64.wrap (s1.2.2.2.2 + 1))))]) (by kernel_rfl) ?_
          refine L_backF [0, 1, 4, 5, 6, 7] [] 2 (T' := sl 41 [(0, c1 (vL flV l_)), (1, c1 (vi level_)), (4, pt 0), (5, pt 1), (6, c1 (vB false)), (7, c1 (vi (IntKind.i64.wrap (s1.2.2.2.2 + 1))))]) (σ' := [bx [vi 0, vN, vN], bx (aT y9)]) (by kernel_rfl) (by kernel_rfl) (by simp) (by kernel_rfl) ⟨(by kernel_rfl), (by kernel_rfl), trivial⟩ ?_
          have h0 := (Option.some.inj hq).symm
          exact L_as (by kernel_rfl) (by kernel_rfl) (hn1 _ h0)
  · replace hq := cond_f hc1 hq
    refine L_exit (hB1 _ _ (L_seq ?_))
    refine L_regF hb [4] (T' := sl 41 [(4, pt 0)]) (σ' := [bx [vi s1.1, vL flT s1.2.1, vL flS s1.2.2.1], bx [vi s1.1, vL flT s1.2.1, vL flS s1.2.2.1]]) (by kernel_rfl) ?_
    refine L_ret ?_
    have h0 := (Option.some.inj hq).symm
    replace h0 := he1 _ h0
    obtain rfl := h0
    exact end_ret (by kernel_rfl)
noncomputable def g_r10_of_L1 (r_r10_of : Val → Int → Option (Ty)) (v_ : Val) (level_ : Int) (s1 : Int × List Ty) : Option ((Int × List Ty) ⊕ (Ty)) :=
  bif (decide (s1.1 < (v_.items.length : Int))) then (idx v_.items s1.1).bind fun x13 => (r_r10_of x13 (IntKind.i64.wrap (level_ + 1))).bind fun y14 => (app 56 s1.2 [y14]).bind fun l15 => some (.inl ((IntKind.i64.wrap (s1.1 + 1)), l15)) else some (.inr (Ty.mk 6 s1.2 v_.keys))
noncomputable def g_r10_of (r_r10_common : List Val → Int → Option (Ty)) (r_r10_of : Val → Int → Option (Ty)) (v_ : Val) (level_ : Int) : Option (Ty) :=
  bif (decide (v_.kind = 1)) then some (Ty.mk 1 [] []) else bif (decide (v_.kind = 2)) then some (Ty.mk 2 [] []) else bif (decide (v_.kind = 3)) then some (Ty.mk 3 [] []) else bif (decide (v_.kind = 0)) then some (Ty.mk 0 [] []) else bif (decide (v_.kind = 6)) then some (Ty.mk 0 [] []) else bif (decide (level_ ≥ 32)) then some (Ty.mk 0 [] []) else bif (decide (v_.kind = 4)) then (r_r10_common v_.items (IntKind.i64.wrap (level_ + 1))).bind fun y8 => some (Ty.mk 4 [y8] []) else (g_r10_identifiers v_.keys).bind fun y9 => bif (!y9) then (r_r10_common v_.items (IntKind.i64.wrap (level_ + 1))).bind fun y11 => some (Ty.mk 5 [y11] []) else loopO (g_r10_of_L1 r_r10_of v_ level_) (0, [])
theorem g_r10_of_ok (hb : Base E E0 G) (he : ∀ w, E w → EnvV w) (r_r10_common : List Val → Int → Option (Ty)) (r_r10_of : Val → Int → Option (Ty)) (hr_r10_common : ∀ (a0 : List Val) (a1 : Int) (r : Ty), r_r10_common a0 a1 = some r → Pure E E0 Tryz.prog 73 [.cell (vL flV a0), .cell (vi a1)] (.one (.agg (aT r)))) (hr_r10_of : ∀ (a0 : Val) (a1 : Int) (r : Ty), r_r10_of a0 a1 = some r → Pure E E0 Tryz.prog 48 [.agg (aV a0), .cell (vi a1)] (.one (.agg (aT r)))) (v_ : Val) (level_ : Int) (r_ : Ty) (hq : g_r10_of r_r10_common r_r10_of v_ level_ = some r_) :
    Pure E E0 Tryz.prog 48 [.agg (aV v_), .cell (vi level_)] (.one (.agg (aT r_))) := by
  refine pure_L Tryz.func48 rfl ?_
  refine L_keepF [0, 1] (T' := sl 76 [(0, .one (.agg (aV v_))), (1, c1 (vi level_))]) (by kernel_rfl) ?_
  refine L_seq ?_
  refine L_regF hb [1, 2, 4] (T' := sl 76 [(1, c1 (vi level_)), (2, pt 0), (4, pt 1)]) (σ' := [bx (aV v_), bx [vi 0, vN, vN]]) (by kernel_rfl) ?_
  refine L_seq (L_seq ?_)
  refine L_regS hb [1, 2, 4, 8] (T' := sl 76 [(1, c1 (vi level_)), (2, pt 0), (4, pt 1), (8, c1 (vi v_.kind))]) (by kernel_rfl) ?_
  refine L_block (fun K1 hA1 hB1 hC1 hD1 => (L_seq ?_))
  refine L_regS hb [1, 2, 4, 8, 9] (T' := sl 76 [(1, c1 (vi level_)), (2, pt 0), (4, pt 1), (8, c1 (vi v_.kind)), (9, c1 (vB (decide (v_.kind = 1))))]) (by kernel_rfl) ?_
  refine L_if hb (b := (decide (v_.kind = 1))) (by kernel_rfl) (fun hc1 => ?_) (fun hc1 => ?_)
  · replace hq := cond_t hc1 hq
    refine L_seq ?_
    refine L_regF hb [4] (T' := sl 76 [(4, pt 1)]) (σ' := [bx (aV v_), bx [vi 1, vN, vN]]) (by kernel_rfl) ?_
    refine L_ret (hD1 _ _ ?_)
    have h0 := Option.some.inj hq
    obtain rfl := h0
    exact end_ret (by kernel_rfl)
  · replace hq := cond_f hc1 hq
    refine L_seq ?_
    refine L_regS hb [1, 2, 4, 8, 12] (T' := sl 76 [(1, c1 (vi level_)), (2, pt 0), (4, pt 1), (8, c1 (vi v_.kind)), (12, c1 (vB (decide (v_.kind = 2))))]) (by kernel_rfl) ?_
    refine L_if hb (b := (decide (v_.kind = 2))) (by kernel_rfl) (fun hc2 => ?_) (fun hc2 => ?_)
    · replace hq := cond_t hc2 hq
      refine L_seq ?_
      refine L_regF hb [4] (T' := sl 76 [(4, pt 1)]) (σ' := [bx (aV v_), bx [vi 2, vN, vN]]) (by kernel_rfl) ?_
      refine L_ret (hD1 _ _ ?_)
      have h0 := Option.some.inj hq
      obtain rfl := h0
      exact end_ret (by kernel_rfl)
    · replace hq := cond_f hc2 hq
      refine L_seq ?_
      refine L_regS hb [1, 2, 4, 15] (T' := sl 76 [(1, c1 (vi level_)), (2, pt 0), (4, pt 1), (15, c1 (vB (decide (v_.kind = 3))))]) (by kernel_rfl) ?_
      refine L_if hb (b := (decide (v_.kind = 3))) (by kernel_rfl) (fun hc3 => ?_) (fun hc3 => ?_)
      · replace hq := cond_t hc3 hq
        refine L_seq ?_
        refine L_regF hb [4] (T' := sl 76 [(4, pt 1)]) (σ' := [bx (aV v_), bx [vi 3, vN, vN]]) (by kernel_rfl) ?_
        refine L_ret (hD1 _ _ ?_)
        have h0 := Option.some.inj hq
        obtain rfl := h0
        exact end_ret (by kernel_rfl)
      · replace hq := cond_f hc3 hq
        refine L_skip (L_nil (hA1 _ _ (L_seq (L_seq ?_))))
        refine L_regK hb [1, 2, 4, 29] (fun R hR => ?_)
        refine runDS 4 [(18, pt 0), (19, c1 (vi v_.kind)), (20, c1 (vB (decide (v_.kind = 0)))), (21, c1 (vB (decide (v_.kind = 0))))] (by kernel_rfl) ?_
        refine partsD ((decide (v_.kind = 0))) (fun zz => [(20, c1 (vB zz)), (21, c1 (vB zz))]) (by kernel_rfl) (fun hc4 => ?_) (fun hc4 => ?_)
        · replace hq := cond_t hc4 hq
          refine lastKS (T' := sl 76 [(1, c1 (vi level_)), (2, pt 0), (4, pt 1), (29, c1 (vB true))]) (by kernel_rfl) hR ?_
          refine L_true hb (by kernel_rfl) (L_seq ?_)
          refine L_regS hb [4] (T' := sl 76 [(4, pt 1)]) (by kernel_rfl) ?_
          refine L_ret ?_
          have h0 := Option.some.inj hq
          obtain rfl := h0
          exact end_ret (by kernel_rfl)
        · replace hq := cond_f hc4 hq
          refine runDS 5 [(22, pt 0), (23, c1 (vi v_.kind)), (24, c1 (vB (decide (v_.kind = 6)))), (25, c1 (vB (decide (v_.kind = 6)))), (26, c1 (vB (decide (v_.kind = 6))))] (by kernel_rfl) ?_
          refine partsD ((decide (v_.kind = 6))) (fun zz => [(24, c1 (vB zz)), (25, c1 (vB zz)), (26, c1 (vB zz))]) (by kernel_rfl) (fun hc5 => ?_) (fun hc5 => ?_)
          · replace hq := cond_t hc5 hq
            refine lastKS (T' := sl 76 [(1, c1 (vi level_)), (2, pt 0), (4, pt 1), (29, c1 (vB true))]) (by kernel_rfl) hR ?_
            refine L_true hb (by kernel_rfl) (L_seq ?_)
            refine L_regS hb [4] (T' := sl 76 [(4, pt 1)]) (by kernel_rfl) ?_
            refine L_ret ?_
            have h0 := Option.some.inj hq
            obtain rfl := h0
            exact end_ret (by kernel_rfl)
          · replace hq := cond_f hc5 hq
            refine lastKS (T' := sl 76 [(1, c1 (vi level_)), (2, pt 0), (4, pt 1), (29, c1 (vB (decide (level_ ≥ 32))))]) (by kernel_rfl) hR ?_
            refine L_if hb (b := (decide (level_ ≥ 32))) (by kernel_rfl) (fun hc6 => ?_) (fun hc6 => ?_)
            · replace hq := cond_t hc6 hq
              refine L_seq ?_
              refine L_regS hb [4] (T' := sl 76 [(4, pt 1)]) (by kernel_rfl) ?_
              refine L_ret ?_
              have h0 := Option.some.inj hq
              obtain rfl := h0
              exact end_ret (by kernel_rfl)
            · replace hq := cond_f hc6 hq
              refine L_skip (L_seq (L_seq ?_))
              refine L_regS hb [1, 2, 4, 33] (T' := sl 76 [(1, c1 (vi level_)), (2, pt 0), (4, pt 1), (33, c1 (vB (decide (v_.kind = 4))))]) (by kernel_rfl) ?_
              refine L_if hb (b := (decide (v_.kind = 4))) (by kernel_rfl) (fun hc7 => ?_) (fun hc7 => ?_)
              · replace hq := cond_t hc7 hq
                refine L_seq ?_
                refine L_regK hb [4] (fun R hR => ?_)
                refine runDS 4 [(34, c1 (.ptr 0 0 3)), (35, c1 (vL flV v_.items)), (36, c1 (vi level_)), (37, c1 (vi (IntKind.i64.wrap (level_ + 1))))] (by kernel_rfl) ?_
                obtain ⟨y8, hy8, hq⟩ := bind_inv hq
                refine callF (d := some 38) (by kernel_rfl) (hr_r10_common v_.items (IntKind.i64.wrap (level_ + 1)) y8 hy8) ?_
                refine lastK (T' := sl 76 [(4, pt 1)]) (σ' := [bx (aV v_), bx [vi 4, .pv (.sl true 1 [pI .i64 y8.kind, pL flT y8.elems, pL flS y8.names]), vN]]) (by kernel_rfl) hR ?_
                refine L_cellσ 1 1 (cs := [vi 4, .pv (.sl true 1 [pI .i64 y8.kind, pL flT y8.elems, pL flS y8.names]), vN]) (c := .pv (.sl true 1 [pI .i64 y8.kind, pL flT y8.elems, pL flS y8.names])) (by kernel_rfl) (by kernel_rfl) (conv_lit flT (flT.one y8).symm) ?_
                refine L_ret ?_
                have h0 := Option.some.inj hq
                obtain rfl := h0
                exact end_ret (by kernel_rfl)
              · replace hq := cond_f hc7 hq
                refine L_skip (L_seq (L_seq ?_))
                refine L_regK hb [1, 2, 4, 44] (fun R hR => ?_)
                refine runDS 2 [(41, c1 (.ptr 0 0 4)), (42, c1 (vL flS v_.keys))] (by kernel_rfl) ?_
                obtain ⟨y9, hy9, hq⟩ := bind_inv hq
                refine callF (d := some 43) (by kernel_rfl) (g_r10_identifiers_ok hb he v_.keys y9 hy9) ?_
                refine lastKS (T' := sl 76 [(1, c1 (vi level_)), (2, pt 0), (4, pt 1), (44, c1 (vB (!y9)))]) (by kernel_rfl) hR ?_
                refine L_if hb (b := (!y9)) (by kernel_rfl) (fun hc10 => ?_) (fun hc10 => ?_)
                · replace hq := cond_t hc10 hq
                  refine L_seq ?_
                  refine L_regK hb [4] (fun R hR => ?_)
                  refine runDS 4 [(45, c1 (.ptr 0 0 3)), (46, c1 (vL flV v_.items)), (47, c1 (vi level_)), (48, c1 (vi (IntKind.i64.wrap (level_ + 1))))] (by kernel_rfl) ?_
                  obtain ⟨y11, hy11, hq⟩ := bind_inv hq
                  refine callF (d := some 49) (by kernel_rfl) (hr_r10_common v_.items (IntKind.i64.wrap (level_ + 1)) y11 hy11) ?_
                  refine lastK (T' := sl 76 [(4, pt 1)]) (σ' := [bx (aV v_), bx [vi 5, .pv (.sl true 1 [pI .i64 y11.kind, pL flT y11.elems, pL flS y11.names]), vN]]) (by kernel_rfl) hR ?_
                  refine L_cellσ 1 1 (cs := [vi 5, .pv (.sl true 1 [pI .i64 y11.kind, pL flT y11.elems, pL flS y11.names]), vN]) (c := .pv (.sl true 1 [pI .i64 y11.kind, pL flT y11.elems, pL flS y11.names])) (by kernel_rfl) (by kernel_rfl) (conv_lit flT (flT.one y11).symm) ?_
                  refine L_ret ?_
                  have h0 := Option.some.inj hq
                  obtain rfl := h0
                  exact end_ret (by kernel_rfl)
                · replace hq := cond_f hc10 hq
                  refine L_skip (L_seq ?_)
                  refine L_regF hb [1, 2, 4, 5] (T' := sl 76 [(1, c1 (vi level_)), (2, pt 0), (4, pt 1), (5, pt 2)]) (σ' := [bx (aV v_), bx [vi 0, vN, vN], bx [vi 6, vN, vL flS v_.keys]]) (by kernel_rfl) ?_
                  refine L_seq (L_seq ?_)
                  refine L_regS hb [1, 2, 4, 5, 6] (T' := sl 76 [(1, c1 (vi level_)), (2, pt 0), (4, pt 1), (5, pt 2), (6, c1 (vi 0))]) (by kernel_rfl) ?_
                  refine L_block (fun K1 hA1 hB1 hC1 hD1 => ?_)
                  refine L_ownσ 2 1 3 (cs := [vi 6, vN, vL flS v_.keys]) (by kernel_rfl) (by kernel_rfl) rfl ?_
                  refine L_backF [1, 2, 4, 5, 6] [] 4 (T' := sl 76 [(1, c1 (vi level_)), (2, pt 0), (4, pt 1), (5, pt 2), (6, c1 (vi 0))]) (σ' := [bx (aV v_), bx [vi 0, vN, vN], bx [vi 6, vO flT 3 [], vL flS v_.keys], some (arO true flT.sz ((flT.f []).length) (flT.f []))]) (by kernel_rfl) (by kernel_rfl) (by simp) (by kernel_rfl) ⟨(by kernel_rfl), (by kernel_rfl), (by kernel_rfl), (under_arO _ _ _ _ _), trivial⟩ ?_
                  refine L_as (by kernel_rfl) (by kernel_rfl) (L_loopO (body := (g_r10_of_L1 r_r10_of v_ level_)) (fun s1 => sl 76 [(1, c1 (vi level_)), (2, pt 0), (4, pt 1), (5, pt 2), (6, c1 (vi s1.1))]) (fun s1 => [bx (aV v_), bx [vi 0, vN, vN], bx [vi 6, vO flT 3 s1.2, vL flS v_.keys], some (arO true flT.sz ((flT.f s1.2).length) (flT.f s1.2))]) (s0 := (0, [])) (fun s1 x1 hq hn1 he1 => ?_) hq)
                  refine L_seq (L_seq ?_)
                  refine L_regS hb [1, 2, 4, 5, 6, 59] (T' := sl 76 [(1, c1 (vi level_)), (2, pt 0), (4, pt 1), (5, pt 2), (6, c1 (vi s1.1)), (59, c1 (vB (decide (s1.1 < (v_.items.length : Int)))))]) (by kernel_rfl) ?_
                  refine L_if hb (b := (decide (s1.1 < (v_.items.length : Int)))) (by kernel_rfl) (fun hc12 => ?_) (fun hc12 => ?_)
                  · replace hq := cond_t hc12 hq
                    refine L_skip (L_seq (L_block (fun K2 hA2 hB2 hC2 hD2 => ?_)))
                    refine L_drwN hb mixed 11 (by kernel_rfl) (by kernel_rfl) (fun R hR => ?_)
                    refine runDS 5 [(62, c1 (.ptr 2 0 1)), (63, c1 (vO flT 3 s1.2)), (64, c1 (.ptr 0 0 3)), (65, c1 (vL flV v_.items)), (66, c1 (vi s1.1))] (by kernel_rfl) ?_
                    obtain ⟨x13, hx13, hq⟩ := bind_inv hq
                    refine idxF flV (d := some 67) hx13 (by kernel_rfl) ?_
                    refine runPS 3 [(67, c1 (.pv (.pp (flV.c x13 ++ flV.f (List.drop (s1.1.toNat + 1) v_.items))))), (68, .one (.agg (aV x13))), (69, c1 (vi level_)), (70, c1 (vi (IntKind.i64.wrap (level_ + 1))))] (by kernel_rfl) ?_
                    obtain ⟨y14, hy14, hq⟩ := bind_inv hq
                    refine callF (d := some 71) (by kernel_rfl) (hr_r10_of x13 (IntKind.i64.wrap (level_ + 1)) y14 hy14) ?_
                    refine lastFS (T' := sl 76 [(1, c1 (vi level_)), (2, pt 0), (4, pt 1), (5, pt 2), (6, c1 (vi s1.1)), (59, c1 (vB (decide (s1.1 < (v_.items.length : Int))))), (62, c1 (.ptr 2 0 1)), (63, c1 (vO flT 3 s1.2)), (64, c1 (.ptr 0 0 3)), (65, c1 (vL flV v_.items)), (66, c1 (vi s1.1)), (67, c1 (.pv (.pp (flV.c x13 ++ flV.f (List.drop (s1.1.toNat + 1) v_.items))))), (68, .one (.agg (aV x13))), (69, c1 (vi level_)), (70, c1 (vi (IntKind.i64.wrap (level_ + 1)))), (71, .one (.agg (aT y14))), (72, c1 (.pv (.sl true 1 [pI .i64 y14.kind, pL flT y14.elems, pL flS y14.names])))]) (by kernel_rfl) ?_
                    obtain ⟨l15, hl15, hq⟩ := bind_inv hq
                    refine appOwnF flT (d := some 73) (id := 3) (s := .pv (.sl true 1 [pI .i64 y14.kind, pL flT y14.elems, pL flS y14.names])) (nb := true) (fr := (flT.f s1.2).length) hl15 (by kernel_rfl) (src_lit flT (flT.one y14) rfl) (by kernel_rfl) (Nat.le_refl _) ?_
                    refine lastF (T' := sl 76 [(1, c1 (vi level_)), (2, pt 0), (4, pt 1), (5, pt 2), (6, c1 (vi s1.1)), (59, c1 (vB (decide (s1.1 < (v_.items.length : Int))))), (62, c1 (.ptr 2 0 1)), (63, c1 (vO flT 3 s1.2)), (64, c1 (.ptr 0 0 3)), (65, c1 (vL flV v_.items)), (66, c1 (vi s1.1)), (67, c1 (.pv (.pp (flV.c x13 ++ flV.f (List.drop (s1.1.toNat + 1) v_.items))))), (68, .one (.agg (aV x13))), (69, c1 (vi level_)), (70, c1 (vi (IntKind.i64.wrap (level_ + 1)))), (71, .one (.agg (aT y14))), (72, c1 (.pv (.sl true 1 [pI .i64 y14.kind, pL flT y14.elems, pL flS y14.names]))), (73, c1 (vO flT 3 l15)), (74, c1 (.ptr 2 0 1))]) (σ' := [bx (aV v_), bx [vi 0, vN, vN], bx [vi 6, vO flT 3 l15, vL flS v_.keys], some (arO true flT.sz ((flT.f s1.2).length) (flT.f l15))]) (by kernel_rfl) (hR _ _ ?_)
                    refine L_nil (hA2 _ _ ?_)
                    refine L_regS hb [1, 2, 4, 5, 6] (T' := sl 76 [(1, c1 (vi level_)), (2, pt 0), (4, pt 1), (5, pt 2), (6, c1 (vi (IntKind.i64.wrap (s1.1 + 1))))]) (by kernel_rfl) ?_
                    refine L_mark 3 (nb := true) (cs := flT.f l15) rfl (app_le flT hl15) ?_
                    refine L_backF [1, 2, 4, 5, 6] [] 4 (T' := sl 76 [(1, c1 (vi level_)), (2, pt 0), (4, pt 1), (5, pt 2), (6, c1 (vi (IntKind.i64.wrap (s1.1 + 1))))]) (σ' := [bx (aV v_), bx [vi 0, vN, vN], bx [vi 6, vO flT 3 l15, vL flS v_.keys], some (arO true flT.sz ((flT.f l15).length) (flT.f l15))]) (by kernel_rfl) (by kernel_rfl) (by simp) (by kernel_rfl) ⟨(by kernel_rfl), (by kernel_rfl), (by kernel_rfl), (under_arO _ _ _ _ _), trivial⟩ ?_
                    have h0 := (Option.some.inj hq).symm
                    exact L_as (by kernel_rfl) (by kernel_rfl) (hn1 _ h0)
                  · replace hq := cond_f hc12 hq
                    refine L_exit (hB1 _ _ (L_seq ?_))
                    refine L_regF hb [4] (T' := sl 76 [(4, pt 1)]) (σ' := [bx (aV v_), bx [vi 6, vO flT 3 s1.2, vL flS v_.keys], bx [vi 6, vO flT 3 s1.2, vL flS v_.keys], some (arO true flT.sz ((flT.f s1.2).length) (flT.f s1.2))]) (by kernel_rfl) ?_
                    refine L_cellσ 1 1 (cs := [vi 6, vO flT 3 s1.2, vL flS v_.keys]) (c := vO flT 3 s1.2) (by kernel_rfl) (by kernel_rfl) (conv_own flT (nb := true) (id := 3) (xs := s1.2) (by kernel_rfl)) ?_
                    refine L_ret ?_
                    have h0 := (Option.some.inj hq).symm
                    replace h0 := he1 _ h0
                    obtain rfl := h0
                    exact end_ret (by kernel_rfl)
noncomputable def t_r10_of_step (rec : Val → Int → Option (Ty)) (a : Val) (b : Int) : Option (Ty) :=
  g_r10_of (g_r10_common (fun a0 a1 => rec a0 a1)) (fun a0 a1 => rec a0 a1) a b
noncomputable def t_r10_of (a0 : Val) (a1 : Int) : Option (Ty) := tieF relV wfV t_r10_of_step a0 a1
theorem t_r10_of_ok (hb : Base E E0 G) (he : ∀ w, E w → EnvV w) (a0 : Val) (a1 : Int) (r : Ty) (hq : t_r10_of a0 a1 = some r) : Pure E E0 Tryz.prog 48 [.agg (aV a0), .cell (vi a1)] (.one (.agg (aT r))) :=
  tieF_ok (C := fun a b r => Pure E E0 Tryz.prog 48 [.agg (aV a), .cell (vi b)] (.one (.agg (aT r)))) (fun rec hr a b r hq => g_r10_of_ok hb he (g_r10_common (fun a0 a1 => rec a0 a1)) (fun a0 a1 => rec a0 a1) (g_r10_common_ok hb he (fun a0 a1 => rec a0 a1) (fun a0 a1 r e => hr a0 a1 r e)) (fun a0 a1 r e => hr a0 a1 r e) a b r hq) a0 a1 r hq
noncomputable def t_r10_common (a0 : List Val) (a1 : Int) : Option (Ty) := (g_r10_common t_r10_of) a0 a1
theorem t_r10_common_ok (hb : Base E E0 G) (he : ∀ w, E w → EnvV w) (a0 : List Val) (a1 : Int) (r : Ty) (hq : t_r10_common a0 a1 = some r) : Pure E E0 Tryz.prog 73 [.cell (vL flV a0), .cell (vi a1)] (.one (.agg (aT r))) :=
  g_r10_common_ok hb he t_r10_of (t_r10_of_ok hb he) a0 a1 r hq
noncomputable def g_r10_Of  (v_ : Val) : Option (Ty) :=
  (t_r10_of v_ 1).bind fun y1 => some (y1)
theorem g_r10_Of_ok (hb : Base E E0 G) (he : ∀ w, E w → EnvV w)   (v_ : Val) (r_ : Ty) (hq : g_r10_Of v_ = some r_) :
    Pure E E0 Tryz.prog 28 [.agg (aV v_)] (.one (.agg (aT r_))) := by
  refine pure_L Tryz.func28 rfl ?_
  refine L_keepF [0] (T' := sl 5 [(0, .one (.agg (aV v_)))]) (by kernel_rfl) ?_
  refine L_seq ?_
  refine L_regF hb [1, 2] (T' := sl 5 [(1, pt 0), (2, pt 1)]) (σ' := [bx (aV v_), bx [vi 0, vN, vN]]) (by kernel_rfl) ?_
  refine L_seq ?_
  refine L_regK hb [2] (fun R hR => ?_)
  refine runDS 1 [(3, .one (.agg (aV v_)))] (by kernel_rfl) ?_
  obtain ⟨y1, hy1, hq⟩ := bind_inv hq
  refine callF (d := some 4) (by kernel_rfl) (t_r10_of_ok hb he v_ 1 y1 hy1) ?_
  refine lastK (T' := sl 5 [(2, pt 1)]) (σ' := [bx (aV v_), bx (aT y1)]) (by kernel_rfl) hR ?_
  refine L_ret ?_
  have h0 := Option.some.inj hq
  obtain rfl := h0
  exact end_ret (by kernel_rfl)
noncomputable def g_r11_Lossless  (v_ : Val) (t_ : Ty) : Option (Bool) :=
  (g_r11_To v_ t_).bind fun y1 => bif (!decide (y1.2 = 0)) then some (false) else (g_r10_Of v_).bind fun y3 => (g_r11_To y1.1 y3).bind fun y4 => bif (decide (y4.2 = 0)) then (t_r07_Equal v_ y4.1).bind fun y6 => some (y6) else some (false)
theorem g_r11_Lossless_ok (hb : Base E E0 G) (he : ∀ w, E w → EnvV w)   (v_ : Val) (t_ : Ty) (r_ : Bool) (hq : g_r11_Lossless v_ t_ = some r_) :
    Pure E E0 Tryz.prog 15 [.agg (aV v_), .agg (aT t_)] (c1 (vB r_)) := by
  refine pure_L Tryz.func15 rfl ?_
  refine L_keepF [0, 1] (T' := sl 31 [(0, .one (.agg (aV v_))), (1, .one (.agg (aT t_)))]) (by kernel_rfl) ?_
  refine L_seq ?_
  refine L_regF hb [2, 3] (T' := sl 31 [(2, pt 0), (3, pt 1)]) (σ' := [bx (aV v_), bx (aT t_)]) (by kernel_rfl) ?_
  refine L_seq ?_
  refine L_regK hb [2, 5, 6] (fun R hR => ?_)
  refine runDS 2 [(10, .one (.agg (aV v_))), (11, .one (.agg (aT t_)))] (by kernel_rfl) ?_
  obtain ⟨y1, hy1, hq⟩ := bind_inv hq
  refine callF (d := some 12) (by kernel_rfl) (g_r11_To_ok hb he v_ t_ y1 hy1) ?_
  refine lastK (T' := sl 31 [(2, pt 0), (5, pt 2), (6, c1 (vi y1.2))]) (σ' := [bx (aV v_), bx (aT t_), bx (aV y1.1)]) (by kernel_rfl) hR ?_
  refine L_seq (L_seq ?_)
  refine L_regS hb [2, 5, 16] (T' := sl 31 [(2, pt 0), (5, pt 2), (16, c1 (vB (!decide (y1.2 = 0))))]) (by kernel_rfl) ?_
  refine L_if hb (b := (!decide (y1.2 = 0))) (by kernel_rfl) (fun hc2 => ?_) (fun hc2 => ?_)
  · replace hq := cond_t hc2 hq
    refine L_seq ?_
    refine L_regS hb [4] (T' := sl 31 [(4, c1 (vB false))]) (by kernel_rfl) ?_
    refine L_ret ?_
    have h0 := Option.some.inj hq
    obtain rfl := h0
    exact end_ret (by kernel_rfl)
  · replace hq := cond_f hc2 hq
    refine L_skip (L_seq ?_)
    refine L_drwK hb mixed [2, 7, 8] 8 (by kernel_rfl) (by kernel_rfl) (fun R hR => ?_)
    refine runDS 2 [(18, .one (.agg (aV y1.1))), (19, .one (.agg (aV v_)))] (by kernel_rfl) ?_
    obtain ⟨y3, hy3, hq⟩ := bind_inv hq
    refine callF (d := some 20) (by kernel_rfl) (g_r10_Of_ok hb he v_ y3 hy3) ?_
    obtain ⟨y4, hy4, hq⟩ := bind_inv hq
    refine callF (d := some 21) (by kernel_rfl) (g_r11_To_ok hb he y1.1 y3 y4 hy4) ?_
    refine lastF (T' := sl 31 [(2, pt 0), (5, pt 2), (7, pt 3), (16, c1 (vB (!decide (y1.2 = 0)))), (17, .tup [.agg (aV y4.1), .cell (vi y4.2)]), (18, .one (.agg (aV y1.1))), (19, .one (.agg (aV v_))), (20, .one (.agg (aT y3))), (21, .tup [.agg (aV y4.1), .cell (vi y4.2)]), (22, .one (.agg (aV y4.1))), (23, c1 (vi y4.2))]) (σ' := [bx (aV v_), bx (aT t_), bx (aV y1.1), bx zV]) (by kernel_rfl) ?_
    refine lastK (T' := sl 31 [(2, pt 0), (7, pt 3), (8, c1 (vi y4.2))]) (σ' := [bx (aV v_), bx (aT t_), bx (aV y1.1), bx (aV y4.1)]) (by kernel_rfl) hR ?_
    refine L_seq ?_
    refine L_regK hb [4] (fun R hR => ?_)
    refine runDS 3 [(24, c1 (vi y4.2)), (25, c1 (vB (decide (y4.2 = 0)))), (26, c1 (vB (decide (y4.2 = 0))))] (by kernel_rfl) ?_
    refine partsD ((decide (y4.2 = 0))) (fun zz => [(25, c1 (vB zz)), (26, c1 (vB zz))]) (by kernel_rfl) (fun hc5 => ?_) (fun hc5 => ?_)
    · replace hq := cond_t hc5 hq
      refine runDS 2 [(27, .one (.agg (aV v_))), (28, .one (.agg (aV y4.1)))] (by kernel_rfl) ?_
      obtain ⟨y6, hy6, hq⟩ := bind_inv hq
      refine callF (d := some 29) (by kernel_rfl) (t_r07_Equal_ok hb he v_ y4.1 y6 hy6) ?_
      refine lastKS (T' := sl 31 [(4, c1 (vB y6))]) (by kernel_rfl) hR ?_
      refine L_ret ?_
      have h0 := Option.some.inj hq
      obtain rfl := h0
      exact end_ret (by kernel_rfl)
    · replace hq := cond_f hc5 hq
      refine lastKS (T' := sl 31 [(4, c1 (vB false))]) (by kernel_rfl) hR ?_
      refine L_ret ?_
      have h0 := Option.some.inj hq
      obtain rfl := h0
      exact end_ret (by kernel_rfl)
noncomputable def g_l11_ConvertValues  (v_ : Val) (t_ : Ty) : Option (Bool) :=
  (g_l11_right v_ t_).bind fun y1 => bif (!y1) then (g_l11_awake).bind fun y3 => some (y3) else (g_convert_To v_ t_).bind fun y4 => (g_r11_To v_ t_).bind fun y5 => bif (decide (y4.2 = y5.2)) then (t_r07_Equal y4.1 y5.1).bind fun y7 => bif y7 then (g_convert_Lossless v_ t_).bind fun y9 => (g_r11_Lossless v_ t_).bind fun y10 => bif (y9 == y10) then (g_l11_awake).bind fun y12 => some (y12) else some (false) else some (false) else some (false)
theorem g_l11_ConvertValues_ok (hb : Base E E0 G) (he : ∀ w, E w → EnvV w)   (v_ : Val) (t_ : Ty) (r_ : Bool) (hq : g_l11_ConvertValues v_ t_ = some r_) :
    Pure E E0 Tryz.prog 4 [.agg (aV v_), .agg (aT t_)] (c1 (vB r_)) := by
  refine pure_L Tryz.func4 rfl ?_
  refine L_keepF [0, 1] (T' := sl 46 [(0, .one (.agg (aV v_))), (1, .one (.agg (aT t_)))]) (by kernel_rfl) ?_
  refine L_seq ?_
  refine L_regF hb [2, 3] (T' := sl 46 [(2, pt 0), (3, pt 1)]) (σ' := [bx (aV v_), bx (aT t_)]) (by kernel_rfl) ?_
  refine L_seq (L_seq ?_)
  refine L_regK hb [2, 3, 12] (fun R hR => ?_)
  refine runDS 2 [(9, .one (.agg (aV v_))), (10, .one (.agg (aT t_)))] (by kernel_rfl) ?_
  obtain ⟨y1, hy1, hq⟩ := bind_inv hq
  refine callF (d := some 11) (by kernel_rfl) (g_l11_right_ok hb he v_ t_ y1 hy1) ?_
  refine lastKS (T' := sl 46 [(2, pt 0), (3, pt 1), (12, c1 (vB (!y1)))]) (by kernel_rfl) hR ?_
  refine L_if hb (b := (!y1)) (by kernel_rfl) (fun hc2 => ?_) (fun hc2 => ?_)
  · replace hq := cond_t hc2 hq
    refine L_seq ?_
    refine L_regK hb [4] (fun R hR => ?_)
    obtain ⟨y3, hy3, hq⟩ := bind_inv hq
    refine callF (d := some 13) (by kernel_rfl) (g_l11_awake_ok hb he  y3 hy3) ?_
    refine lastKS (T' := sl 46 [(4, c1 (vB y3))]) (by kernel_rfl) hR ?_
    refine L_ret ?_
    have h0 := Option.some.inj hq
    obtain rfl := h0
    exact end_ret (by kernel_rfl)
  · replace hq := cond_f hc2 hq
    refine L_skip (L_seq ?_)
    refine L_regK hb [2, 3, 5, 6] (fun R hR => ?_)
    refine runDS 2 [(15, .one (.agg (aV v_))), (16, .one (.agg (aT t_)))] (by kernel_rfl) ?_
    obtain ⟨y4, hy4, hq⟩ := bind_inv hq
    refine callF (d := some 17) (by kernel_rfl) (g_convert_To_ok hb he v_ t_ y4 hy4) ?_
    refine lastK (T' := sl 46 [(2, pt 0), (3, pt 1), (5, pt 2), (6, c1 (vi y4.2))]) (σ' := [bx (aV v_), bx (aT t_), bx (aV y4.1)]) (by kernel_rfl) hR ?_
    refine L_seq ?_
    refine L_regK hb [2, 3, 5, 6, 7, 8] (fun R hR => ?_)
    refine runDS 2 [(21, .one (.agg (aV v_))), (22, .one (.agg (aT t_)))] (by kernel_rfl) ?_
    obtain ⟨y5, hy5, hq⟩ := bind_inv hq
    refine callF (d := some 23) (by kernel_rfl) (g_r11_To_ok hb he v_ t_ y5 hy5) ?_
    refine lastK (T' := sl 46 [(2, pt 0), (3, pt 1), (5, pt 2), (6, c1 (vi y4.2)), (7, pt 3), (8, c1 (vi y5.2))]) (σ' := [bx (aV v_), bx (aT t_), bx (aV y4.1), bx (aV y5.1)]) (by kernel_rfl) hR ?_
    refine L_seq ?_
    refine L_drwK hb mixed [4] 14 (by kernel_rfl) (by kernel_rfl) (fun R hR => ?_)
    refine runDS 4 [(26, c1 (vi y4.2)), (27, c1 (vi y5.2)), (28, c1 (vB (decide (y4.2 = y5.2)))), (29, c1 (vB (decide (y4.2 = y5.2))))] (by kernel_rfl) ?_
    refine partsD ((decide (y4.2 = y5.2))) (fun zz => [(28, c1 (vB zz)), (29, c1 (vB zz))]) (by kernel_rfl) (fun hc6 => ?_) (fun hc6 => ?_)
    · replace hq := cond_t hc6 hq
      refine runDS 2 [(30, .one (.agg (aV y4.1))), (31, .one (.agg (aV y5.1)))] (by kernel_rfl) ?_
      obtain ⟨y7, hy7, hq⟩ := bind_inv hq
      refine callF (d := some 32) (by kernel_rfl) (t_r07_Equal_ok hb he y4.1 y5.1 y7 hy7) ?_
      refine runPS 2 [(32, c1 (vB y7)), (33, c1 (vB y7)), (34, c1 (vB y7))] (by kernel_rfl) ?_
      refine partsD (y7) (fun zz => [(32, c1 (vB zz)), (33, c1 (vB zz)), (34, c1 (vB zz))]) (by kernel_rfl) (fun hc8 => ?_) (fun hc8 => ?_)
      · replace hq := cond_t hc8 hq
        refine runDS 2 [(35, .one (.agg (aV v_))), (36, .one (.agg (aT t_)))] (by kernel_rfl) ?_
        obtain ⟨y9, hy9, hq⟩ := bind_inv hq
        refine callF (d := some 37) (by kernel_rfl) (g_convert_Lossless_ok hb he v_ t_ y9 hy9) ?_
        refine lastFS (T' := sl 46 [(2, pt 0), (3, pt 1), (5, pt 2), (6, c1 (vi y4.2)), (7, pt 3), (8, c1 (vi y5.2)), (26, c1 (vi y4.2)), (27, c1 (vi y5.2)), (28, c1 (vB true)), (29, c1 (vB true)), (30, .one (.agg (aV y4.1))), (31, .one (.agg (aV y5.1))), (32, c1 (vB true)), (33, c1 (vB true)), (34, c1 (vB true)), (35, .one (.agg (aV v_))), (36, .one (.agg (aT t_))), (37, c1 (vB y9)), (38, .one (.agg (aV v_))), (39, .one (.agg (aT t_)))]) (by kernel_rfl) ?_
        obtain ⟨y10, hy10, hq⟩ := bind_inv hq
        refine callF (d := some 40) (by kernel_rfl) (g_r11_Lossless_ok hb he v_ t_ y10 hy10) ?_
        refine runPS 3 [(40, c1 (vB y10)), (41, c1 (vB (y9 == y10))), (42, c1 (vB (y9 == y10))), (43, c1 (vB (y9 == y10)))] (by kernel_rfl) ?_
        refine partsD ((y9 == y10)) (fun zz => [(41, c1 (vB zz)), (42, c1 (vB zz)), (43, c1 (vB zz))]) (by kernel_rfl) (fun hc11 => ?_) (fun hc11 => ?_)
        · replace hq := cond_t hc11 hq
          obtain ⟨y12, hy12, hq⟩ := bind_inv hq
          refine callF (d := some 44) (by kernel_rfl) (g_l11_awake_ok hb he  y12 hy12) ?_
          refine lastKS (T' := sl 46 [(4, c1 (vB y12))]) (by kernel_rfl) hR ?_
          refine L_ret ?_
          have h0 := Option.some.inj hq
          obtain rfl := h0
          exact end_ret (by kernel_rfl)
        · replace hq := cond_f hc11 hq
          refine lastKS (T' := sl 46 [(4, c1 (vB false))]) (by kernel_rfl) hR ?_
          refine L_ret ?_
          have h0 := Option.some.inj hq
          obtain rfl := h0
          exact end_ret (by kernel_rfl)
      · replace hq := cond_f hc8 hq
        refine lastFS (T' := sl 46 [(2, pt 0), (3, pt 1), (5, pt 2), (6, c1 (vi y4.2)), (7, pt 3), (8, c1 (vi y5.2)), (26, c1 (vi y4.2)), (27, c1 (vi y5.2)), (28, c1 (vB true)), (29, c1 (vB true)), (30, .one (.agg (aV y4.1))), (31, .one (.agg (aV y5.1))), (32, c1 (vB false)), (33, c1 (vB false)), (34, c1 (vB false)), (35, c1 (.undef)), (36, c1 (.undef)), (37, c1 (.undef)), (38, c1 (.undef)), (39, c1 (.undef))]) (by kernel_rfl) ?_
        refine lastKS (T' := sl 46 [(4, c1 (vB false))]) (by kernel_rfl) hR ?_
        refine L_ret ?_
        have h0 := Option.some.inj hq
        obtain rfl := h0
        exact end_ret (by kernel_rfl)
    · replace hq := cond_f hc6 hq
      refine lastFS (T' := sl 46 [(2, pt 0), (3, pt 1), (5, pt 2), (6, c1 (vi y4.2)), (7, pt 3), (8, c1 (vi y5.2)), (26, c1 (vi y4.2)), (27, c1 (vi y5.2)), (28, c1 (vB false)), (29, c1 (vB false)), (30, c1 (.undef)), (31, c1 (.undef)), (32, c1 (.undef)), (33, c1 (vB false)), (34, c1 (vB false)), (35, c1 (.undef)), (36, c1 (.undef)), (37, c1 (.undef)), (38, c1 (.undef)), (39, c1 (.undef))]) (by kernel_rfl) ?_
      refine lastKS (T' := sl 46 [(4, c1 (vB false))]) (by kernel_rfl) hR ?_
      refine L_ret ?_
      have h0 := Option.some.inj hq
      obtain rfl := h0
      exact end_ret (by kernel_rfl)
end Abs
end Go.Proofs.YtkmhhboihgckcaaGreatDoor
