/-
  Convert: Go functions as functions over plain values, with the proof that the code computes them; printed by gen.py.
-/
import Derived.Test.YtkmhhboihgckcaaGreatDoorGzB
import Derived.Test.YtkmhhboihgckcaaGreatDoorAbsZ
namespace Go.Proofs.YtkmhhboihgckcaaGreatDoor
namespace Abs
open Go.RowKit
variable {E : World → Prop} {E0 : Nat} {G : Nat → Option (List PV)}
set_option maxRecDepth 100000
set_option linter.unusedVariables false
set_option linter.unusedSimpArgs false
attribute [local irreducible] asqX awpL awp asq asqD Pure Ok asqF sl loopO
noncomputable def g_r07_Equal_L2 (r_r07_Equal : Val → Val → Option (Bool)) (a_ : Val) (b_ : Val) (s2 : Int) : Option ((Int) ⊕ ((Int) ⊕ (Bool))) :=
  bif (decide (s2 < (a_.items.length : Int))) then (idx a_.items s2).bind fun x11 => (idx b_.items s2).bind fun x12 => (r_r07_Equal x11 x12).bind fun y13 => bif (!y13) then some (.inr (.inr (false))) else some (.inl (IntKind.i64.wrap (s2 + 1))) else some (.inr (.inr (true)))
noncomputable def g_r07_Equal_L1 (r_r07_Equal : Val → Val → Option (Bool)) (a_ : Val) (b_ : Val) (s1 : Int) : Option ((Int) ⊕ (Bool)) :=
  bif (decide (s1 < (a_.keys.length : Int))) then (idx a_.keys s1).bind fun x7 => (idx b_.keys s1).bind fun x8 => bif (!decide (x7 = x8)) then some (.inr (false)) else some (.inl (IntKind.i64.wrap (s1 + 1))) else loopO (g_r07_Equal_L2 r_r07_Equal a_ b_) 0
noncomputable def g_r07_Equal (r_r07_Equal : Val → Val → Option (Bool)) (a_ : Val) (b_ : Val) : Option (Bool) :=
  bif (!decide (a_.kind = b_.kind)) then some (false) else bif (!decide (a_.num = b_.num)) then some (false) else bif (!decide (a_.str = b_.str)) then some (false) else bif (!decide ((a_.items.length : Int) = (b_.items.length : Int))) then some (false) else bif (!decide ((a_.keys.length : Int) = (b_.keys.length : Int))) then some (false) else loopO (g_r07_Equal_L1 r_r07_Equal a_ b_) 0
theorem g_r07_Equal_ok (hb : Base E E0 G) (he : ∀ w, E w → EnvV w) (r_r07_Equal : Val → Val → Option (Bool)) (hr_r07_Equal : ∀ (a0 : Val) (a1 : Val) (r : Bool), r_r07_Equal a0 a1 = some r → Pure E E0 Tryz.prog 11 [.agg (aV a0), .agg (aV a1)] (c1 (vB r))) (a_ : Val) (b_ : Val) (r_ : Bool) (hq : g_r07_Equal r_r07_Equal a_ b_ = some r_) :
    Pure E E0 Tryz.prog 11 [.agg (aV a_), .agg (aV b_)] (c1 (vB r_)) := by
  refine pure_L Tryz.func11 rfl ?_
  refine L_keepF [0, 1] (T' := sl 81 [(0, .one (.agg (aV a_))), (1, .one (.agg (aV b_)))]) (by kernel_rfl) ?_
  refine L_seq ?_
  refine L_regF hb [2, 3] (T' := sl 81 [(2, pt 0), (3, pt 1)]) (σ' := [bx (aV a_), bx (aV b_)]) (by kernel_rfl) ?_
  refine L_seq (L_seq ?_)
  refine L_regK hb [2, 3, 43] (fun R hR => ?_)
  refine runDS 6 [(7, pt 0), (8, c1 (vi a_.kind)), (9, pt 1), (10, c1 (vi b_.kind)), (11, c1 (vB (!decide (a_.kind = b_.kind)))), (12, c1 (vB (!decide (a_.kind = b_.kind))))] (by kernel_rfl) ?_
  refine partsD ((!decide (a_.kind = b_.kind))) (fun zz => [(11, c1 (vB zz)), (12, c1 (vB zz))]) (by kernel_rfl) (fun hc1 => ?_) (fun hc1 => ?_)
  · replace hq := cond_t hc1 hq
    refine lastKS (T' := sl 81 [(2, pt 0), (3, pt 1), (43, c1 (vB true))]) (by kernel_rfl) hR ?_
    refine L_true hb (by kernel_rfl) (L_seq ?_)
    refine L_regS hb [4] (T' := sl 81 [(4, c1 (vB false))]) (by kernel_rfl) ?_
    refine L_ret ?_
    have h0 := Option.some.inj hq
    obtain rfl := h0
    exact end_ret (by kernel_rfl)
  · replace hq := cond_f hc1 hq
    refine runDS 7 [(13, c1 (.ptr 0 0 1)), (14, c1 (vi a_.num)), (15, c1 (.ptr 1 0 1)), (16, c1 (vi b_.num)), (17, c1 (vB (!decide (a_.num = b_.num)))), (18, c1 (vB (!decide (a_.num = b_.num)))), (19, c1 (vB (!decide (a_.num = b_.num))))] (by kernel_rfl) ?_
    refine partsD ((!decide (a_.num = b_.num))) (fun zz => [(17, c1 (vB zz)), (18, c1 (vB zz)), (19, c1 (vB zz))]) (by kernel_rfl) (fun hc2 => ?_) (fun hc2 => ?_)
    · replace hq := cond_t hc2 hq
      refine lastKS (T' := sl 81 [(2, pt 0), (3, pt 1), (43, c1 (vB true))]) (by kernel_rfl) hR ?_
      refine L_true hb (by kernel_rfl) (L_seq ?_)
      refine L_regS hb [4] (T' := sl 81 [(4, c1 (vB false))]) (by kernel_rfl) ?_
      refine L_ret ?_
      have h0 := Option.some.inj hq
      obtain rfl := h0
      exact end_ret (by kernel_rfl)
    · replace hq := cond_f hc2 hq
      refine runDS 7 [(20, c1 (.ptr 0 0 2)), (21, c1 (vS a_.str)), (22, c1 (.ptr 1 0 2)), (23, c1 (vS b_.str)), (24, c1 (vB (!decide (a_.str = b_.str)))), (25, c1 (vB (!decide (a_.str = b_.str)))), (26, c1 (vB (!decide (a_.str = b_.str))))] (by kernel_rfl) ?_
      refine partsD ((!decide (a_.str = b_.str))) (fun zz => [(24, c1 (vB zz)), (25, c1 (vB zz)), (26, c1 (vB zz))]) (by kernel_rfl) (fun hc3 => ?_) (fun hc3 => ?_)
      · replace hq := cond_t hc3 hq
        refine lastKS (T' := sl 81 [(2, pt 0), (3, pt 1), (43, c1 (vB true))]) (by kernel_rfl) hR ?_
        refine L_true hb (by kernel_rfl) (L_seq ?_)
        refine L_regS hb [4] (T' := sl 81 [(4, c1 (vB false))]) (by kernel_rfl) ?_
        refine L_ret ?_
        have h0 := Option.some.inj hq
        obtain rfl := h0
        exact end_ret (by kernel_rfl)
      · replace hq := cond_f hc3 hq
        refine runDS 9 [(27, c1 (.ptr 0 0 3)), (28, c1 (vL flV a_.items)), (29, c1 (vi (a_.items.length : Int))), (30, c1 (.ptr 1 0 3)), (31, c1 (vL flV b_.items)), (32, c1 (vi (b_.items.length : Int))), (33, c1 (vB (!decide ((a_.items.length : Int) = (b_.items.length : Int))))), (34, c1 (vB (!decide ((a_.items.length : Int) = (b_.items.length : Int))))), (35, c1 (vB (!decide ((a_.items.length : Int) = (b_.items.length : Int)))))] (by kernel_rfl) ?_
        refine partsD ((!decide ((a_.items.length : Int) = (b_.items.length : Int)))) (fun zz => [(33, c1 (vB zz)), (34, c1 (vB zz)), (35, c1 (vB zz))]) (by kernel_rfl) (fun hc4 => ?_) (fun hc4 => ?_)
        · replace hq := cond_t hc4 hq
          refine lastKS (T' := sl 81 [(2, pt 0), (3, pt 1), (43, c1 (vB true))]) (by kernel_rfl) hR ?_
          refine L_true hb (by kernel_rfl) (L_seq ?_)
          refine L_regS hb [4] (T' := sl 81 [(4, c1 (vB false))]) (by kernel_rfl) ?_
          refine L_ret ?_
          have h0 := Option.some.inj hq
          obtain rfl := h0
          exact end_ret (by kernel_rfl)
        · replace hq := cond_f hc4 hq
          refine lastKS (T' := sl 81 [(2, pt 0), (3, pt 1), (43, c1 (vB (!decide ((a_.keys.length : Int) = (b_.keys.length : Int)))))]) (by kernel_rfl) hR ?_
          refine L_if hb (b := (!decide ((a_.keys.length : Int) = (b_.keys.length : Int)))) (by kernel_rfl) (fun hc5 => ?_) (fun hc5 => ?_)
          · replace hq := cond_t hc5 hq
            refine L_seq ?_
            refine L_regS hb [4] (T' := sl 81 [(4, c1 (vB false))]) (by kernel_rfl) ?_
            refine L_ret ?_
            have h0 := Option.some.inj hq
            obtain rfl := h0
            exact end_ret (by kernel_rfl)
          · replace hq := cond_f hc5 hq
            refine L_skip (L_seq (L_seq ?_))
            refine L_regS hb [2, 3, 5] (T' := sl 81 [(2, pt 0), (3, pt 1), (5, c1 (vi 0))]) (by kernel_rfl) ?_
            refine L_block (fun K1 hA1 hB1 hC1 hD1 => ?_)
            refine L_backF [2, 3, 5] [] 2 (T' := sl 81 [(2, pt 0), (3, pt 1), (5, c1 (vi 0))]) (σ' := [bx (aV a_), bx (aV b_)]) (by kernel_rfl) (by kernel_rfl) (by simp) (by kernel_rfl) ⟨(by kernel_rfl), (by kernel_rfl), trivial⟩ ?_
            refine L_as (by kernel_rfl) (by kernel_rfl) (L_loopO (body := (g_r07_Equal_L1 r_r07_Equal a_ b_)) (fun s1 => sl 81 [(2, pt 0), (3, pt 1), (5, c1 (vi s1))]) (fun s1 => [bx (aV a_), bx (aV b_)]) (s0 := 0) (fun s1 x1 hq hn1 he1 => ?_) hq)
            refine L_seq (L_seq ?_)
            refine L_regS hb [2, 3, 5, 48] (T' := sl 81 [(2, pt 0), (3, pt 1), (5, c1 (vi s1)), (48, c1 (vB (decide (s1 < (a_.keys.length : Int)))))]) (by kernel_rfl) ?_
            refine L_if hb (b := (decide (s1 < (a_.keys.length : Int)))) (by kernel_rfl) (fun hc6 => ?_) (fun hc6 => ?_)
            · replace hq := cond_t hc6 hq
              refine L_skip (L_seq (L_block (fun K2 hA2 hB2 hC2 hD2 => (L_seq ?_))))
              refine L_drwK hb mixed [2, 3, 5, 61] 10 (by kernel_rfl) (by kernel_rfl) (fun R hR => ?_)
              refine runDS 3 [(51, c1 (.ptr 0 0 4)), (52, c1 (vL flS a_.keys)), (53, c1 (vi s1))] (by kernel_rfl) ?_
              obtain ⟨x7, hx7, hq⟩ := bind_inv hq
              refine idxF flS (d := some 54) hx7 (by kernel_rfl) ?_
              refine runPS 4 [(54, c1 (.pv (.pp (flS.c x7 ++ flS.f (List.drop (s1.toNat + 1) a_.keys))))), (55, c1 (vS x7)), (56, c1 (.ptr 1 0 4)), (57, c1 (vL flS b_.keys)), (58, c1 (vi s1))] (by kernel_rfl) ?_
              obtain ⟨x8, hx8, hq⟩ := bind_inv hq
              refine idxF flS (d := some 59) hx8 (by kernel_rfl) ?_
              refine lastFS (T' := sl 81 [(2, pt 0), (3, pt 1), (5, c1 (vi s1)), (48, c1 (vB (decide (s1 < (a_.keys.length : Int))))), (51, c1 (.ptr 0 0 4)), (52, c1 (vL flS a_.keys)), (53, c1 (vi s1)), (54, c1 (.pv (.pp (flS.c x7 ++ flS.f (List.drop (s1.toNat + 1) a_.keys))))), (55, c1 (vS x7)), (56, c1 (.ptr 1 0 4)), (57, c1 (vL flS b_.keys)), (58, c1 (vi s1)), (59, c1 (.pv (.pp (flS.c x8 ++ flS.f (List.drop (s1.toNat + 1) b_.keys))))), (60, c1 (vS x8))]) (by kernel_rfl) ?_
              refine lastKS (T' := sl 81 [(2, pt 0), (3, pt 1), (5, c1 (vi s1)), (61, c1 (vB (!decide (x7 = x8))))]) (by kernel_rfl) hR ?_
              refine L_if hb (b := (!decide (x7 = x8))) (by kernel_rfl) (fun hc9 => ?_) (fun hc9 => ?_)
              · replace hq := cond_t hc9 hq
                refine L_seq ?_
                refine L_regS hb [4] (T' := sl 81 [(4, c1 (vB false))]) (by kernel_rfl) ?_
                refine L_ret (hD2 _ _ (hD1 _ _ ?_))
                have h0 := (Option.some.inj hq).symm
                replace h0 := he1 _ h0
                obtain rfl := h0
                exact end_ret (by kernel_rfl)
              · replace hq := cond_f hc9 hq
                refine L_skip (L_nil (hA2 _ _ ?_))
                refine L_regS hb [2, 3, 5] (T' := sl 81 [(2, pt 0), (3, pt 1), (5, c1 (vi (IntKind.i64.wrap (s1 + 1))))]) (by kernel_rfl) ?_
                refine L_backF [2, 3, 5] [] 2 (T' := sl 81 [(2, pt 0), (3, pt 1), (5, c1 (vi (IntKind.i64.wrap (s1 + 1))))]) (σ' := [bx (aV a_), bx (aV b_)]) (by kernel_rfl) (by kernel_rfl) (by simp) (by kernel_rfl) ⟨(by kernel_rfl), (by kernel_rfl), trivial⟩ ?_
                have h0 := (Option.some.inj hq).symm
                exact L_as (by kernel_rfl) (by kernel_rfl) (hn1 _ h0)
            · replace hq := cond_f hc6 hq
              refine L_exit (hB1 _ _ (L_seq (L_seq ?_)))
              refine L_regS hb [2, 3, 6] (T' := sl 81 [(2, pt 0), (3, pt 1), (6, c1 (vi 0))]) (by kernel_rfl) ?_
              refine L_block (fun K1 hA1 hB1 hC1 hD1 => ?_)
              refine L_backF [2, 3, 6] [] 2 (T' := sl 81 [(2, pt 0), (3, pt 1), (6, c1 (vi 0))]) (σ' := [bx (aV a_), bx (aV b_)]) (by kernel_rfl) (by kernel_rfl) (by simp) (by kernel_rfl) ⟨(by kernel_rfl), (by kernel_rfl), trivial⟩ ?_
              refine L_as (by kernel_rfl) (by kernel_rfl) (L_loopO (body := (g_r07_Equal_L2 r_r07_Equal a_ b_)) (fun s2 => sl 81 [(2, pt 0), (3, pt 1), (6, c1 (vi s2))]) (fun s2 => [bx (aV a_), bx (aV b_)]) (s0 := 0) (fun s2 x2 hq hn2 he2 => ?_) hq)
              refine L_seq (L_seq ?_)
              refine L_regS hb [2, 3, 6, 66] (T' := sl 81 [(2, pt 0), (3, pt 1), (6, c1 (vi s2)), (66, c1 (vB (decide (s2 < (a_.items.length : Int)))))]) (by kernel_rfl) ?_
              refine L_if hb (b := (decide (s2 < (a_.items.length : Int)))) (by kernel_rfl) (fun hc10 => ?_) (fun hc10 => ?_)
              · replace hq := cond_t hc10 hq
                refine L_skip (L_seq (L_block (fun K2 hA2 hB2 hC2 hD2 => (L_seq ?_))))
                refine L_drwK hb mixed [2, 3, 6, 80] 10 (by kernel_rfl) (by kernel_rfl) (fun R hR => ?_)
                refine runDS 3 [(69, c1 (.ptr 0 0 3)), (70, c1 (vL flV a_.items)), (71, c1 (vi s2))] (by kernel_rfl) ?_
                obtain ⟨x11, hx11, hq⟩ := bind_inv hq
                refine idxF flV (d := some 72) hx11 (by kernel_rfl) ?_
                refine runPS 4 [(72, c1 (.pv (.pp (flV.c x11 ++ flV.f (List.drop (s2.toNat + 1) a_.items))))), (73, .one (.agg (aV x11))), (74, c1 (.ptr 1 0 3)), (75, c1 (vL flV b_.items)), (76, c1 (vi s2))] (by kernel_rfl) ?_
                obtain ⟨x12, hx12, hq⟩ := bind_inv hq
                refine idxF flV (d := some 77) hx12 (by kernel_rfl) ?_
                refine lastFS (T' := sl 81 [(2, pt 0), (3, pt 1), (6, c1 (vi s2)), (66, c1 (vB (decide (s2 < (a_.items.length : Int))))), (69, c1 (.ptr 0 0 3)), (70, c1 (vL flV a_.items)), (71, c1 (vi s2)), (72, c1 (.pv (.pp (flV.c x11 ++ flV.f (List.drop (s2.toNat + 1) a_.items))))), (73, .one (.agg (aV x11))), (74, c1 (.ptr 1 0 3)), (75, c1 (vL flV b_.items)), (76, c1 (vi s2)), (77, c1 (.pv (.pp (flV.c x12 ++ flV.f (List.drop (s2.toNat + 1) b_.items))))), (78, .one (.agg (aV x12)))]) (by kernel_rfl) ?_
                obtain ⟨y13, hy13, hq⟩ := bind_inv hq
                refine callF (d := some 79) (by kernel_rfl) (hr_r07_Equal x11 x12 y13 hy13) ?_
                refine lastKS (T' := sl 81 [(2, pt 0), (3, pt 1), (6, c1 (vi s2)), (80, c1 (vB (!y13)))]) (by kernel_rfl) hR ?_
                refine L_if hb (b := (!y13)) (by kernel_rfl) (fun hc14 => ?_) (fun hc14 => ?_)
                · replace hq := cond_t hc14 hq
                  refine L_seq ?_
                  refine L_regS hb [4] (T' := sl 81 [(4, c1 (vB false))]) (by kernel_rfl) ?_
                  refine L_ret (hD2 _ _ (hD1 _ _ ?_))
                  have h0 := (Option.some.inj hq).symm
                  replace h0 := he2 _ h0
                  replace h0 := h0.symm
                  replace h0 := he1 _ h0
                  obtain rfl := h0
                  exact end_ret (by kernel_rfl)
                · replace hq := cond_f hc14 hq
                  refine L_skip (L_nil (hA2 _ _ ?_))
                  refine L_regS hb [2, 3, 6] (T' := sl 81 [(2, pt 0), (3, pt 1), (6, c1 (vi (IntKind.i64.wrap (s2 + 1))))]) (by kernel_rfl) ?_
                  refine L_backF [2, 3, 6] [] 2 (T' := sl 81 [(2, pt 0), (3, pt 1), (6, c1 (vi (IntKind.i64.wrap (s2 + 1))))]) (σ' := [bx (aV a_), bx (aV b_)]) (by kernel_rfl) (by kernel_rfl) (by simp) (by kernel_rfl) ⟨(by kernel_rfl), (by kernel_rfl), trivial⟩ ?_
                  have h0 := (Option.some.inj hq).symm
                  exact L_as (by kernel_rfl) (by kernel_rfl) (hn2 _ h0)
              · replace hq := cond_f hc10 hq
                refine L_exit (hB1 _ _ (L_seq ?_))
                refine L_regS hb [4] (T' := sl 81 [(4, c1 (vB true))]) (by kernel_rfl) ?_
                refine L_ret ?_
                have h0 := (Option.some.inj hq).symm
                replace h0 := he2 _ h0
                replace h0 := h0.symm
                replace h0 := he1 _ h0
                obtain rfl := h0
                exact end_ret (by kernel_rfl)
noncomputable def t_r07_Equal_step (rec : Val → Val → Option (Bool)) (a : Val) (b : Val) : Option (Bool) :=
  g_r07_Equal (fun a0 a1 => rec a0 a1) a b
noncomputable def t_r07_Equal (a0 : Val) (a1 : Val) : Option (Bool) := tieF relV wfV t_r07_Equal_step a0 a1
theorem t_r07_Equal_ok (hb : Base E E0 G) (he : ∀ w, E w → EnvV w) (a0 : Val) (a1 : Val) (r : Bool) (hq : t_r07_Equal a0 a1 = some r) : Pure E E0 Tryz.prog 11 [.agg (aV a0), .agg (aV a1)] (c1 (vB r)) :=
  tieF_ok (C := fun a b r => Pure E E0 Tryz.prog 11 [.agg (aV a), .agg (aV b)] (c1 (vB r))) (fun rec hr a b r hq => g_r07_Equal_ok hb he (fun a0 a1 => rec a0 a1) (fun a0 a1 r e => hr a0 a1 r e) a b r hq) a0 a1 r hq
noncomputable def g_l11_ConvertWords  (v_ : Val) : Option (Bool) :=
  (g_l11_right v_ (Ty.mk 0 [] [])).bind fun y1 => bif (!y1) then (g_l11_awake).bind fun y3 => some (y3) else (g_convert_Text v_).bind fun y4 => (g_r11_Text v_).bind fun y5 => (g_convert_Truth v_).bind fun y6 => (g_r11_Truth v_).bind fun y7 => bif (decide (y4.2 = y5.2)) then (t_r07_Equal y4.1 y5.1).bind fun y9 => bif y9 then bif (decide (y6.2 = y7.2)) then (t_r07_Equal y6.1 y7.1).bind fun y12 => bif y12 then (g_l11_awake).bind fun y14 => some (y14) else some (false) else some (false) else some (false) else some (false)
theorem g_l11_ConvertWords_ok (hb : Base E E0 G) (he : ∀ w, E w → EnvV w)   (v_ : Val) (r_ : Bool) (hq : g_l11_ConvertWords v_ = some r_) :
    Pure E E0 Tryz.prog 3 [.agg (aV v_)] (c1 (vB r_)) := by
  refine pure_L Tryz.func3 rfl ?_
  refine L_keepF [0] (T' := sl 57 [(0, .one (.agg (aV v_)))]) (by kernel_rfl) ?_
  refine L_seq ?_
  refine L_regF hb [1] (T' := sl 57 [(1, pt 0)]) (σ' := [bx (aV v_)]) (by kernel_rfl) ?_
  refine L_seq (L_seq ?_)
  refine L_regK hb [1, 14] (fun R hR => ?_)
  refine runDS 2 [(11, .one (.agg (aV v_))), (12, .one (.agg [vi 0, vN, vN]))] (by kernel_rfl) ?_
  obtain ⟨y1, hy1, hq⟩ := bind_inv hq
  refine callF (d := some 13) (by kernel_rfl) (g_l11_right_ok hb he v_ (Ty.mk 0 [] []) y1 hy1) ?_
  refine lastKS (T' := sl 57 [(1, pt 0), (14, c1 (vB (!y1)))]) (by kernel_rfl) hR ?_
  refine L_if hb (b := (!y1)) (by kernel_rfl) (fun hc2 => ?_) (fun hc2 => ?_)
  · replace hq := cond_t hc2 hq
    refine L_seq ?_
    refine L_regK hb [2] (fun R hR => ?_)
    obtain ⟨y3, hy3, hq⟩ := bind_inv hq
    refine callF (d := some 15) (by kernel_rfl) (g_l11_awake_ok hb he  y3 hy3) ?_
    refine lastKS (T' := sl 57 [(2, c1 (vB y3))]) (by kernel_rfl) hR ?_
    refine L_ret ?_
    have h0 := Option.some.inj hq
    obtain rfl := h0
    exact end_ret (by kernel_rfl)
  · replace hq := cond_f hc2 hq
    refine L_skip (L_seq ?_)
    refine L_regK hb [1, 3, 4] (fun R hR => ?_)
    refine runDS 1 [(17, .one (.agg (aV v_)))] (by kernel_rfl) ?_
    obtain ⟨y4, hy4, hq⟩ := bind_inv hq
    refine callF (d := some 18) (by kernel_rfl) (g_convert_Text_ok hb he v_ y4 hy4) ?_
    refine lastK (T' := sl 57 [(1, pt 0), (3, pt 1), (4, c1 (vi y4.2))]) (σ' := [bx (aV v_), bx (aV y4.1)]) (by kernel_rfl) hR ?_
    refine L_seq ?_
    refine L_regK hb [1, 3, 4, 5, 6] (fun R hR => ?_)
    refine runDS 1 [(22, .one (.agg (aV v_)))] (by kernel_rfl) ?_
    obtain ⟨y5, hy5, hq⟩ := bind_inv hq
    refine callF (d := some 23) (by kernel_rfl) (g_r11_Text_ok hb he v_ y5 hy5) ?_
    refine lastK (T' := sl 57 [(1, pt 0), (3, pt 1), (4, c1 (vi y4.2)), (5, pt 2), (6, c1 (vi y5.2))]) (σ' := [bx (aV v_), bx (aV y4.1), bx (aV y5.1)]) (by kernel_rfl) hR ?_
    refine L_seq ?_
    refine L_regK hb [1, 3, 4, 5, 6, 7, 8] (fun R hR => ?_)
    refine runDS 1 [(27, .one (.agg (aV v_)))] (by kernel_rfl) ?_
    obtain ⟨y6, hy6, hq⟩ := bind_inv hq
    refine callF (d := some 28) (by kernel_rfl) (g_convert_Truth_ok hb he v_ y6 hy6) ?_
    refine lastK (T' := sl 57 [(1, pt 0), (3, pt 1), (4, c1 (vi y4.2)), (5, pt 2), (6, c1 (vi y5.2)), (7, pt 3), (8, c1 (vi y6.2))]) (σ' := [bx (aV v_), bx (aV y4.1), bx (aV y5.1), bx (aV y6.1)]) (by kernel_rfl) hR ?_
    refine L_seq ?_
    refine L_regK hb [3, 4, 5, 6, 7, 8, 9, 10] (fun R hR => ?_)
    refine runDS 1 [(32, .one (.agg (aV v_)))] (by kernel_rfl) ?_
    obtain ⟨y7, hy7, hq⟩ := bind_inv hq
    refine callF (d := some 33) (by kernel_rfl) (g_r11_Truth_ok hb he v_ y7 hy7) ?_
    refine lastK (T' := sl 57 [(3, pt 1), (4, c1 (vi y4.2)), (5, pt 2), (6, c1 (vi y5.2)), (7, pt 3), (8, c1 (vi y6.2)), (9, pt 4), (10, c1 (vi y7.2))]) (σ' := [bx (aV v_), bx (aV y4.1), bx (aV y5.1), bx (aV y6.1), bx (aV y7.1)]) (by kernel_rfl) hR ?_
    refine L_seq ?_
    refine L_regK hb [2] (fun R hR => ?_)
    refine runDS 4 [(36, c1 (vi y4.2)), (37, c1 (vi y5.2)), (38, c1 (vB (decide (y4.2 = y5.2)))), (39, c1 (vB (decide (y4.2 = y5.2))))] (by kernel_rfl) ?_
    refine partsD ((decide (y4.2 = y5.2))) (fun zz => [(38, c1 (vB zz)), (39, c1 (vB zz))]) (by kernel_rfl) (fun hc8 => ?_) (fun hc8 => ?_)
    · replace hq := cond_t hc8 hq
      refine runDS 2 [(40, .one (.agg (aV y4.1))), (41, .one (.agg (aV y5.1)))] (by kernel_rfl) ?_
      obtain ⟨y9, hy9, hq⟩ := bind_inv hq
      refine callF (d := some 42) (by kernel_rfl) (t_r07_Equal_ok hb he y4.1 y5.1 y9 hy9) ?_
      refine runPS 2 [(42, c1 (vB y9)), (43, c1 (vB y9)), (44, c1 (vB y9))] (by kernel_rfl) ?_
      refine partsD (y9) (fun zz => [(42, c1 (vB zz)), (43, c1 (vB zz)), (44, c1 (vB zz))]) (by kernel_rfl) (fun hc10 => ?_) (fun hc10 => ?_)
      · replace hq := cond_t hc10 hq
        refine runDS 5 [(45, c1 (vi y6.2)), (46, c1 (vi y7.2)), (47, c1 (vB (decide (y6.2 = y7.2)))), (48, c1 (vB (decide (y6.2 = y7.2)))), (49, c1 (vB (decide (y6.2 = y7.2))))] (by kernel_rfl) ?_
        refine partsD ((decide (y6.2 = y7.2))) (fun zz => [(47, c1 (vB zz)), (48, c1 (vB zz)), (49, c1 (vB zz))]) (by kernel_rfl) (fun hc11 => ?_) (fun hc11 => ?_)
        · replace hq := cond_t hc11 hq
          refine runDS 2 [(50, .one (.agg (aV y6.1))), (51, .one (.agg (aV y7.1)))] (by kernel_rfl) ?_
          obtain ⟨y12, hy12, hq⟩ := bind_inv hq
          refine callF (d := some 52) (by kernel_rfl) (t_r07_Equal_ok hb he y6.1 y7.1 y12 hy12) ?_
          refine runPS 2 [(52, c1 (vB y12)), (53, c1 (vB y12)), (54, c1 (vB y12))] (by kernel_rfl) ?_
          refine partsD (y12) (fun zz => [(52, c1 (vB zz)), (53, c1 (vB zz)), (54, c1 (vB zz))]) (by kernel_rfl) (fun hc13 => ?_) (fun hc13 => ?_)
          · replace hq := cond_t hc13 hq
            obtain ⟨y14, hy14, hq⟩ := bind_inv hq
            refine callF (d := some 55) (by kernel_rfl) (g_l11_awake_ok hb he  y14 hy14) ?_
            refine lastKS (T' := sl 57 [(2, c1 (vB y14))]) (by kernel_rfl) hR ?_
            refine L_ret ?_
            have h0 := Option.some.inj hq
            obtain rfl := h0
            exact end_ret (by kernel_rfl)
          · replace hq := cond_f hc13 hq
            refine lastKS (T' := sl 57 [(2, c1 (vB false))]) (by kernel_rfl) hR ?_
            refine L_ret ?_
            have h0 := Option.some.inj hq
            obtain rfl := h0
            exact end_ret (by kernel_rfl)
        · replace hq := cond_f hc11 hq
          refine lastKS (T' := sl 57 [(2, c1 (vB false))]) (by kernel_rfl) hR ?_
          refine L_ret ?_
          have h0 := Option.some.inj hq
          obtain rfl := h0
          exact end_ret (by kernel_rfl)
      · replace hq := cond_f hc10 hq
        refine lastKS (T' := sl 57 [(2, c1 (vB false))]) (by kernel_rfl) hR ?_
        refine L_ret ?_
        have h0 := Option.some.inj hq
        obtain rfl := h0
        exact end_ret (by kernel_rfl)
    · replace hq := cond_f hc8 hq
      refine lastKS (T' := sl 57 [(2, c1 (vB false))]) (by kernel_rfl) hR ?_
      refine L_ret ?_
      have h0 := Option.some.inj hq
      obtain rfl := h0
      exact end_ret (by kernel_rfl)
noncomputable def g_r11_To  (v_ : Val) (t_ : Ty) : Option (Val × Int) :=
  (t_r11_to v_ t_).bind fun y1 => bif (!decide (y1.2 = 0)) then some ((Val.mk 0 0 eS [] []), y1.2) else (m_checkE y1.1).bind fun y3 => bif (!decide (y3 = 0)) then some ((Val.mk 0 0 eS [] []), y3) else some (y1.1, 0)
theorem g_r11_To_ok (hb : Base E E0 G) (he : ∀ w, E w → EnvV w)   (v_ : Val) (t_ : Ty) (r_ : Val × Int) (hq : g_r11_To v_ t_ = some r_) :
    Pure E E0 Tryz.prog 13 [.agg (aV v_), .agg (aT t_)] (.tup [.agg (aV r_.1), .cell (vi r_.2)]) := by
  refine pure_L Tryz.func13 rfl ?_
  refine L_keepF [0, 1] (T' := sl 25 [(0, .one (.agg (aV v_))), (1, .one (.agg (aT t_)))]) (by kernel_rfl) ?_
  refine L_seq ?_
  refine L_regF hb [2, 3, 4] (T' := sl 25 [(2, pt 0), (3, pt 1), (4, pt 2)]) (σ' := [bx (aV v_), bx (aT t_), bx zV]) (by kernel_rfl) ?_
  refine L_seq ?_
  refine L_regK hb [4, 6, 7] (fun R hR => ?_)
  refine runDS 2 [(9, .one (.agg (aV v_))), (10, .one (.agg (aT t_)))] (by kernel_rfl) ?_
  obtain ⟨y1, hy1, hq⟩ := bind_inv hq
  refine callF (d := some 11) (by kernel_rfl) (t_r11_to_ok hb he v_ t_ y1 hy1) ?_
  refine lastK (T' := sl 25 [(4, pt 2), (6, pt 3), (7, c1 (vi y1.2))]) (σ' := [bx (aV v_), bx (aT t_), bx zV, bx (aV y1.1)]) (by kernel_rfl) hR ?_
  refine L_seq (L_seq ?_)
  refine L_regS hb [4, 6, 7, 15] (T' := sl 25 [(4, pt 2), (6, pt 3), (7, c1 (vi y1.2)), (15, c1 (vB (!decide (y1.2 = 0))))]) (by kernel_rfl) ?_
  refine L_if hb (b := (!decide (y1.2 = 0))) (by kernel_rfl) (fun hc2 => ?_) (fun hc2 => ?_)
  · replace hq := cond_t hc2 hq
    refine L_seq ?_
    refine L_regS hb [4, 5] (T' := sl 25 [(4, pt 2), (5, c1 (vi y1.2))]) (by kernel_rfl) ?_
    refine L_ret ?_
    have h0 := Option.some.inj hq
    obtain rfl := h0
    exact end_ret (by kernel_rfl)
  · replace hq := cond_f hc2 hq
    refine L_skip (L_seq ?_)
    refine L_regK hb [4, 6, 7] (fun R hR => ?_)
    refine runDS 1 [(18, .one (.agg (aV y1.1)))] (by kernel_rfl) ?_
    obtain ⟨y3, hy3, hq⟩ := bind_inv hq
    refine callF (d := some 19) (by kernel_rfl) (rCheck_g hb he y1.1 y3 hy3) ?_
    refine lastKS (T' := sl 25 [(4, pt 2), (6, pt 3), (7, c1 (vi y3))]) (by kernel_rfl) hR ?_
    refine L_seq (L_seq ?_)
    refine L_regS hb [4, 6, 7, 21] (T' := sl 25 [(4, pt 2), (6, pt 3), (7, c1 (vi y3)), (21, c1 (vB (!decide (y3 = 0))))]) (by kernel_rfl) ?_
    refine L_if hb (b := (!decide (y3 = 0))) (by kernel_rfl) (fun hc4 => ?_) (fun hc4 => ?_)
    · replace hq := cond_t hc4 hq
      refine L_seq ?_
      refine L_regS hb [4, 5] (T' := sl 25 [(4, pt 2), (5, c1 (vi y3))]) (by kernel_rfl) ?_
      refine L_ret ?_
      have h0 := Option.some.inj hq
      obtain rfl := h0
      exact end_ret (by kernel_rfl)
    · replace hq := cond_f hc4 hq
      refine L_skip (L_seq ?_)
      refine L_regF hb [4, 5] (T' := sl 25 [(4, pt 2), (5, c1 (vi 0))]) (σ' := [bx (aV v_), bx (aT t_), bx (aV y1.1), bx (aV y1.1)]) (by kernel_rfl) ?_
      refine L_ret ?_
      have h0 := Option.some.inj hq
      obtain rfl := h0
      exact end_ret (by kernel_rfl)
noncomputable def g_types_one  (k_ : Int) (t_ : Ty) : Option (Ty) :=
  some (Ty.mk k_ [t_] [])
theorem g_types_one_ok (hb : Base E E0 G) (he : ∀ w, E w → EnvV w)   (k_ : Int) (t_ : Ty) (r_ : Ty) (hq : g_types_one k_ t_ = some r_) :
    Pure E E0 Tryz.prog 68 [.cell (vi k_), .agg (aT t_)] (.one (.agg (aT r_))) := by
  refine pure_L Tryz.func68 rfl ?_
  refine L_keepF [0, 1] (T' := sl 9 [(0, c1 (vi k_)), (1, .one (.agg (aT t_)))]) (by kernel_rfl) ?_
  refine L_seq ?_
  refine L_regF hb [0, 3, 4] (T' := sl 9 [(0, c1 (vi k_)), (3, pt 0), (4, pt 1)]) (σ' := [bx (aT t_), bx [vi 0, vN, vN]]) (by kernel_rfl) ?_
  refine L_seq ?_
  refine L_regF hb [4] (T' := sl 9 [(4, pt 1)]) (σ' := [bx (aT t_), bx [vi k_, .pv (.sl true 1 [pI .i64 t_.kind, pL flT t_.elems, pL flS t_.names]), vN]]) (by kernel_rfl) ?_
  refine L_cellσ 1 1 (cs := [vi k_, .pv (.sl true 1 [pI .i64 t_.kind, pL flT t_.elems, pL flS t_.names]), vN]) (c := .pv (.sl true 1 [pI .i64 t_.kind, pL flT t_.elems, pL flS t_.names])) (by kernel_rfl) (by kernel_rfl) (conv_lit flT (flT.one t_).symm) ?_
  refine L_ret ?_
  have h0 := Option.some.inj hq
  obtain rfl := h0
  exact end_ret (by kernel_rfl)
noncomputable def g_slices_Equal_L1 (s1_ : List ByteArray) (s2_ : List ByteArray) (s1 : Int) : Option ((Int) ⊕ (Bool)) :=
  bif (decide (s1 < (s1_.length : Int))) then (idx s1_ s1).bind fun x3 => (idx s2_ s1).bind fun x4 => bif (!decide (x3 = x4)) then some (.inr (false)) else some (.inl (IntKind.i64.wrap (s1 + 1))) else some (.inr (true))
noncomputable def g_slices_Equal  (s1_ : List ByteArray) (s2_ : List ByteArray) : Option (Bool) :=
  bif (!decide ((s1_.length : Int) = (s2_.length : Int))) then some (false) else loopO (g_slices_Equal_L1 s1_ s2_) 0
theorem g_slices_Equal_ok (hb : Base E E0 G) (he : ∀ w, E w → EnvV w)   (s1_ : List ByteArray) (s2_ : List ByteArray) (r_ : Bool) (hq : g_slices_Equal s1_ s2_ = some r_) :
    Pure E E0 Tryz.prog 46 [.cell (vL flS s1_), .cell (vL flS s2_)] (c1 (vB r_)) := by
  refine pure_L Tryz.func46 rfl ?_
  refine L_keepF [0, 1] (T' := sl 26 [(0, c1 (vL flS s1_)), (1, c1 (vL flS s2_))]) (by kernel_rfl) ?_
  refine L_seq ?_
  refine L_regS hb [0, 1] (T' := sl 26 [(0, c1 (vL flS s1_)), (1, c1 (vL flS s2_))]) (by kernel_rfl) ?_
  refine L_seq (L_seq ?_)
  refine L_regS hb [0, 1, 10] (T' := sl 26 [(0, c1 (vL flS s1_)), (1, c1 (vL flS s2_)), (10, c1 (vB (!decide ((s1_.length : Int) = (s2_.length : Int)))))]) (by kernel_rfl) ?_
  refine L_if hb (b := (!decide ((s1_.length : Int) = (s2_.length : Int)))) (by kernel_rfl) (fun hc1 => ?_) (fun hc1 => ?_)
  · replace hq := cond_t hc1 hq
    refine L_seq ?_
    refine L_regS hb [4] (T' := sl 26 [(4, c1 (vB false))]) (by kernel_rfl) ?_
    refine L_ret ?_
    have h0 := Option.some.inj hq
    obtain rfl := h0
    exact end_ret (by kernel_rfl)
  · replace hq := cond_f hc1 hq
    refine L_skip (L_seq (L_seq ?_))
    refine L_regS hb [0, 1, 12, 13] (T' := sl 26 [(0, c1 (vL flS s1_)), (1, c1 (vL flS s2_)), (12, c1 (vi (s1_.length : Int))), (13, c1 (vi 0))]) (by kernel_rfl) ?_
    refine L_block (fun K1 hA1 hB1 hC1 hD1 => ?_)
    refine L_backF [0, 1, 12, 13] [] 0 (T' := sl 26 [(0, c1 (vL flS s1_)), (1, c1 (vL flS s2_)), (12, c1 (vi (s1_.length : Int))), (13, c1 (vi 0))]) (σ' := []) (by kernel_rfl) (by kernel_rfl) (by simp) (by kernel_rfl) trivial ?_
    refine L_as (by kernel_rfl) (by kernel_rfl) (L_loopO (body := (g_slices_Equal_L1 s1_ s2_)) (fun s1 => sl 26 [(0, c1 (vL flS s1_)), (1, c1 (vL flS s2_)), (12, c1 (vi (s1_.length : Int))), (13, c1 (vi s1))]) (fun s1 => []) (s0 := 0) (fun s1 x1 hq hn1 he1 => ?_) hq)
    refine L_seq ?_
    refine L_regS hb [0, 1, 12, 13, 14] (T' := sl 26 [(0, c1 (vL flS s1_)), (1, c1 (vL flS s2_)), (12, c1 (vi (s1_.length : Int))), (13, c1 (vi s1)), (14, c1 (vB (decide (s1 < (s1_.length : Int)))))]) (by kernel_rfl) ?_
    refine L_seq ?_
    refine L_if hb (b := (decide (s1 < (s1_.length : Int)))) (by kernel_rfl) (fun hc2 => ?_) (fun hc2 => ?_)
    · replace hq := cond_t hc2 hq
      refine L_skip (L_seq (L_block (fun K2 hA2 hB2 hC2 hD2 => (L_seq ?_))))
      refine L_regS hb [0, 1, 5, 12, 13] (T' := sl 26 [(0, c1 (vL flS s1_)), (1, c1 (vL flS s2_)), (5, c1 (vi s1)), (12, c1 (vi (s1_.length : Int))), (13, c1 (vi s1))]) (by kernel_rfl) ?_
      refine L_seq ?_
      refine L_drwK hb mixed [0, 1, 12, 13, 24] 8 (by kernel_rfl) (by kernel_rfl) (fun R hR => ?_)
      refine runDS 2 [(16, c1 (vL flS s1_)), (17, c1 (vi s1))] (by kernel_rfl) ?_
      obtain ⟨x3, hx3, hq⟩ := bind_inv hq
      refine idxF flS (d := some 18) hx3 (by kernel_rfl) ?_
      refine runPS 3 [(18, c1 (.pv (.pp (flS.c x3 ++ flS.f (List.drop (s1.toNat + 1) s1_))))), (19, c1 (vS x3)), (20, c1 (vL flS s2_)), (21, c1 (vi s1))] (by kernel_rfl) ?_
      obtain ⟨x4, hx4, hq⟩ := bind_inv hq
      refine idxF flS (d := some 22) hx4 (by kernel_rfl) ?_
      refine lastFS (T' := sl 26 [(0, c1 (vL flS s1_)), (1, c1 (vL flS s2_)), (5, c1 (vi s1)), (12, c1 (vi (s1_.length : Int))), (13, c1 (vi s1)), (16, c1 (vL flS s1_)), (17, c1 (vi s1)), (18, c1 (.pv (.pp (flS.c x3 ++ flS.f (List.drop (s1.toNat + 1) s1_))))), (19, c1 (vS x3)), (20, c1 (vL flS s2_)), (21, c1 (vi s1)), (22, c1 (.pv (.pp (flS.c x4 ++ flS.f (List.drop (s1.toNat + 1) s2_))))), (23, c1 (vS x4))]) (by kernel_rfl) ?_
      refine lastKS (T' := sl 26 [(0, c1 (vL flS s1_)), (1, c1 (vL flS s2_)), (12, c1 (vi (s1_.length : Int))), (13, c1 (vi s1)), (24, c1 (vB (!decide (x3 = x4))))]) (by kernel_rfl) hR ?_
      refine L_if hb (b := (!decide (x3 = x4))) (by kernel_rfl) (fun hc5 => ?_) (fun hc5 => ?_)
      · replace hq := cond_t hc5 hq
        refine L_seq ?_
        refine L_regS hb [4] (T' := sl 26 [(4, c1 (vB false))]) (by kernel_rfl) ?_
        refine L_ret (hD2 _ _ (hD1 _ _ ?_))
        have h0 := (Option.some.inj hq).symm
        replace h0 := he1 _ h0
        obtain rfl := h0
        exact end_ret (by kernel_rfl)
      · replace hq := cond_f hc5 hq
        refine L_skip (L_nil (hA2 _ _ ?_))
        refine L_regS hb [0, 1, 12, 13] (T' := sl 26 [(0, c1 (vL flS s1_)), (1, c1 (vL flS s2_)), (12, c1 (vi (s1_.length : Int))), (13, c1 (vi (IntKind.i64.wrap (s1 + 1))))]) (by kernel_rfl) ?_
        refine L_backF [0, 1, 12, 13] [] 0 (T' := sl 26 [(0, c1 (vL flS s1_)), (1, c1 (vL flS s2_)), (12, c1 (vi (s1_.length : Int))), (13, c1 (vi (IntKind.i64.wrap (s1 + 1))))]) (σ' := []) (by kernel_rfl) (by kernel_rfl) (by simp) (by kernel_rfl) trivial ?_
        have h0 := (Option.some.inj hq).symm
        exact L_as (by kernel_rfl) (by kernel_rfl) (hn1 _ h0)
    · replace hq := cond_f hc2 hq
      refine L_exit (hB1 _ _ (L_seq ?_))
      refine L_regS hb [4] (T' := sl 26 [(4, c1 (vB true))]) (by kernel_rfl) ?_
      refine L_ret ?_
      have h0 := (Option.some.inj hq).symm
      replace h0 := he1 _ h0
      obtain rfl := h0
      exact end_ret (by kernel_rfl)
noncomputable def g_types_Unify_L1 (r_types_Unify : Ty → Ty → Option (Ty)) (a_ : Ty) (b_ : Ty) (y5 : List ByteArray) (s1 : Int × List Ty) : Option ((Int × List Ty) ⊕ (Ty)) :=
  bif (decide (s1.1 < (a_.elems.length : Int))) then (idx a_.elems s1.1).bind fun x7 => (idx b_.elems s1.1).bind fun x8 => (r_types_Unify x7 x8).bind fun y9 => (app 56 s1.2 [y9]).bind fun l10 => some (.inl ((IntKind.i64.wrap (s1.1 + 1)), l10)) else some (.inr (Ty.mk a_.kind s1.2 y5))
noncomputable def g_types_Unify (r_types_Unify : Ty → Ty → Option (Ty)) (a_ : Ty) (b_ : Ty) : Option (Ty) :=
  bif (!decide (a_.kind = b_.kind)) then some (Ty.mk 0 [] []) else (g_slices_Equal a_.names b_.names).bind fun y2 => bif (!y2) then some (Ty.mk 0 [] []) else bif (!decide ((a_.elems.length : Int) = (b_.elems.length : Int))) then some (Ty.mk 0 [] []) else (clone 16 a_.names).bind fun y5 => loopO (g_types_Unify_L1 r_types_Unify a_ b_ y5) (0, [])
theorem g_types_Unify_ok (hb : Base E E0 G) (he : ∀ w, E w → EnvV w) (r_types_Unify : Ty → Ty → Option (Ty)) (hr_types_Unify : ∀ (a0 : Ty) (a1 : Ty) (r : Ty), r_types_Unify a0 a1 = some r → Pure E E0 Tryz.prog 88 [.agg (aT a0), .agg (aT a1)] (.one (.agg (aT r)))) (a_ : Ty) (b_ : Ty) (r_ : Ty) (hq : g_types_Unify r_types_Unify a_ b_ = some r_) :
    Pure E E0 Tryz.prog 88 [.agg (aT a_), .agg (aT b_)] (.one (.agg (aT r_))) := by
  refine pure_L Tryz.func88 rfl ?_
  refine L_keepF [0, 1] (T' := sl 60 [(0, .one (.agg (aT a_))), (1, .one (.agg (aT b_)))]) (by kernel_rfl) ?_
  refine L_seq ?_
  refine L_regF hb [2, 3, 4] (T' := sl 60 [(2, pt 0), (3, pt 1), (4, pt 2)]) (σ' := [bx (aT a_), bx (aT b_), bx [vi 0, vN, vN]]) (by kernel_rfl) ?_
  refine L_seq (L_seq ?_)
  refine L_regK hb [2, 3, 4, 28] (fun R hR => ?_)
  refine runDS 6 [(7, pt 0), (8, c1 (vi a_.kind)), (9, pt 1), (10, c1 (vi b_.kind)), (11, c1 (vB (!decide (a_.kind = b_.kind)))), (12, c1 (vB (!decide (a_.kind = b_.kind))))] (by kernel_rfl) ?_
  refine partsD ((!decide (a_.kind = b_.kind))) (fun zz => [(11, c1 (vB zz)), (12, c1 (vB zz))]) (by kernel_rfl) (fun hc1 => ?_) (fun hc1 => ?_)
  · replace hq := cond_t hc1 hq
    refine lastKS (T' := sl 60 [(2, pt 0), (3, pt 1), (4, pt 2), (28, c1 (vB true))]) (by kernel_rfl) hR ?_
    refine L_true hb (by kernel_rfl) (L_seq ?_)
    refine L_regS hb [4] (T' := sl 60 [(4, pt 2)]) (by kernel_rfl) ?_
    refine L_ret ?_
    have h0 := Option.some.inj hq
    obtain rfl := h0
    exact end_ret (by kernel_rfl)
  · replace hq := cond_f hc1 hq
    refine runDS 4 [(13, c1 (.ptr 0 0 2)), (14, c1 (vL flS a_.names)), (15, c1 (.ptr 1 0 2)), (16, c1 (vL flS b_.names))] (by kernel_rfl) ?_
    obtain ⟨y2, hy2, hq⟩ := bind_inv hq
    refine callF (d := some 17) (by kernel_rfl) (g_slices_Equal_ok hb he a_.names b_.names y2 hy2) ?_
    refine runPS 3 [(17, c1 (vB y2)), (18, c1 (vB (!y2))), (19, c1 (vB (!y2))), (20, c1 (vB (!y2)))] (by kernel_rfl) ?_
    refine partsD ((!y2)) (fun zz => [(18, c1 (vB zz)), (19, c1 (vB zz)), (20, c1 (vB zz))]) (by kernel_rfl) (fun hc3 => ?_) (fun hc3 => ?_)
    · replace hq := cond_t hc3 hq
      refine lastKS (T' := sl 60 [(2, pt 0), (3, pt 1), (4, pt 2), (28, c1 (vB true))]) (by kernel_rfl) hR ?_
      refine L_true hb (by kernel_rfl) (L_seq ?_)
      refine L_regS hb [4] (T' := sl 60 [(4, pt 2)]) (by kernel_rfl) ?_
      refine L_ret ?_
      have h0 := Option.some.inj hq
      obtain rfl := h0
      exact end_ret (by kernel_rfl)
    · replace hq := cond_f hc3 hq
      refine lastKS (T' := sl 60 [(2, pt 0), (3, pt 1), (4, pt 2), (28, c1 (vB (!decide ((a_.elems.length : Int) = (b_.elems.length : Int)))))]) (by kernel_rfl) hR ?_
      refine L_if hb (b := (!decide ((a_.elems.length : Int) = (b_.elems.length : Int)))) (by kernel_rfl) (fun hc4 => ?_) (fun hc4 => ?_)
      · replace hq := cond_t hc4 hq
        refine L_seq ?_
        refine L_regS hb [4] (T' := sl 60 [(4, pt 2)]) (by kernel_rfl) ?_
        refine L_ret ?_
        have h0 := Option.some.inj hq
        obtain rfl := h0
        exact end_ret (by kernel_rfl)
      · replace hq := cond_f hc4 hq
        refine L_skip (L_seq ?_)
        refine L_drwK hb mixed [2, 3, 4, 5] 7 (by kernel_rfl) (by kernel_rfl) (fun R hR => ?_)
        refine runDS 4 [(30, pt 0), (31, c1 (vi a_.kind)), (32, c1 (.ptr 0 0 2)), (33, c1 (vL flS a_.names))] (by kernel_rfl) ?_
        obtain ⟨y5, hy5, hq⟩ := bind_inv hq
        refine callF (d := some 34) (by kernel_rfl) (cloneK_g hb he a_.names y5 hy5) ?_
        refine lastF (T' := sl 60 [(2, pt 0), (3, pt 1), (4, pt 2), (5, pt 3), (28, c1 (vB (!decide ((a_.elems.length : Int) = (b_.elems.length : Int))))), (30, pt 0), (31, c1 (vi a_.kind)), (32, c1 (.ptr 0 0 2)), (33, c1 (vL flS a_.names)), (34, c1 (vL flS y5)), (35, .one (.agg [vi a_.kind, vN, vL flS y5]))]) (σ' := [bx (aT a_), bx (aT b_), bx [vi 0, vN, vN], bx [vi 0, vN, vN]]) (by kernel_rfl) ?_
        refine lastK (T' := sl 60 [(2, pt 0), (3, pt 1), (4, pt 2), (5, pt 3)]) (σ' := [bx (aT a_), bx (aT b_), bx [vi 0, vN, vN], bx [vi a_.kind, vN, vL flS y5]]) (by kernel_rfl) hR ?_
        refine L_seq (L_seq ?_)
        refine L_regS hb [2, 3, 4, 5, 38, 39] (T' := sl 60 [(2, pt 0), (3, pt 1), (4, pt 2), (5, pt 3), (38, c1 (vi (a_.elems.length : Int))), (39, c1 (vi 0))]) (by kernel_rfl) ?_
        refine L_block (fun K1 hA1 hB1 hC1 hD1 => ?_)
        refine L_ownσ 3 1 3 (cs := [vi a_.kind, vN, vL flS y5]) (by kernel_rfl) (by kernel_rfl) rfl ?_
        refine L_backF [2, 3, 4, 5, 38, 39] [] 5 (T' := sl 60 [(2, pt 0), (3, pt 1), (4, pt 2), (5, pt 3), (38, c1 (vi (a_.elems.length : Int))), (39, c1 (vi 0))]) (σ' := [bx (aT a_), bx (aT b_), bx [vi 0, vN, vN], bx [vi a_.kind, vO flT 4 [], vL flS y5], some (arO true flT.sz ((flT.f []).length) (flT.f []))]) (by kernel_rfl) (by kernel_rfl) (by simp) (by kernel_rfl) ⟨(by kernel_rfl), (by kernel_rfl), (by kernel_rfl), (by kernel_rfl), (under_arO _ _ _ _ _), trivial⟩ ?_
        refine L_as (by kernel_rfl) (by kernel_rfl) (L_loopO (body := (g_types_Unify_L1 r_types_Unify a_ b_ y5)) (fun s1 => sl 60 [(2, pt 0), (3, pt 1), (4, pt 2), (5, pt 3), (38, c1 (vi (a_.elems.length : Int))), (39, c1 (vi s1.1))]) (fun s1 => [bx (aT a_), bx (aT b_), bx [vi 0, vN, vN], bx [vi a_.kind, vO flT 4 s1.2, vL flS y5], some (arO true flT.sz ((flT.f s1.2).length) (flT.f s1.2))]) (s0 := (0, [])) (fun s1 x1 hq hn1 he1 => ?_) hq)
        refine L_seq ?_
        refine L_regS hb [2, 3, 4, 5, 38, 39, 40] (T' := sl 60 [(2, pt 0), (3, pt 1), (4, pt 2), (5, pt 3), (38, c1 (vi (a_.elems.length : Int))), (39, c1 (vi s1.1)), (40, c1 (vB (decide (s1.1 < (a_.elems.length : Int)))))]) (by kernel_rfl) ?_
        refine L_seq ?_
        refine L_if hb (b := (decide (s1.1 < (a_.elems.length : Int)))) (by kernel_rfl) (fun hc6 => ?_) (fun hc6 => ?_)
        · replace hq := cond_t hc6 hq
          refine L_skip (L_seq (L_block (fun K2 hA2 hB2 hC2 hD2 => (L_seq ?_))))
          refine L_regS hb [2, 3, 4, 5, 6, 38, 39] (T' := sl 60 [(2, pt 0), (3, pt 1), (4, pt 2), (5, pt 3), (6, c1 (vi s1.1)), (38, c1 (vi (a_.elems.length : Int))), (39, c1 (vi s1.1))]) (by kernel_rfl) ?_
          refine L_drwN hb mixed 14 (by kernel_rfl) (by kernel_rfl) (fun R hR => ?_)
          refine runDS 5 [(42, c1 (.ptr 3 0 1)), (43, c1 (vO flT 4 s1.2)), (44, c1 (.ptr 0 0 1)), (45, c1 (vL flT a_.elems)), (46, c1 (vi s1.1))] (by kernel_rfl) ?_
          obtain ⟨x7, hx7, hq⟩ := bind_inv hq
          refine idxF flT (d := some 47) hx7 (by kernel_rfl) ?_
          refine runPS 4 [(47, c1 (.pv (.pp (flT.c x7 ++ flT.f (List.drop (s1.1.toNat + 1) a_.elems))))), (48, .one (.agg (aT x7))), (49, c1 (.ptr 1 0 1)), (50, c1 (vL flT b_.elems)), (51, c1 (vi s1.1))] (by kernel_rfl) ?_
          obtain ⟨x8, hx8, hq⟩ := bind_inv hq
          refine idxF flT (d := some 52) hx8 (by kernel_rfl) ?_
          refine runPS 1 [(52, c1 (.pv (.pp (flT.c x8 ++ flT.f (List.drop (s1.1.toNat + 1) b_.elems))))), (53, .one (.agg (aT x8)))] (by kernel_rfl) ?_
          obtain ⟨y9, hy9, hq⟩ := bind_inv hq
          refine callF (d := some 54) (by kernel_rfl) (hr_types_Unify x7 x8 y9 hy9) ?_
          refine lastFS (T' := sl 60 [(2, pt 0), (3, pt 1), (4, pt 2), (5, pt 3), (6, c1 (vi s1.1)), (38, c1 (vi (a_.elems.length : Int))), (39, c1 (vi s1.1)), (42, c1 (.ptr 3 0 1)), (43, c1 (vO flT 4 s1.2)), (44, c1 (.ptr 0 0 1)), (45, c1 (vL flT a_.elems)), (46, c1 (vi s1.1)), (47, c1 (.pv (.pp (flT.c x7 ++ flT.f (List.drop (s1.1.toNat + 1) a_.elems))))), (48, .one (.agg (aT x7))), (49, c1 (.ptr 1 0 1)), (50, c1 (vL flT b_.elems)), (51, c1 (vi s1.1)), (52, c1 (.pv (.pp (flT.c x8 ++ flT.f (List.drop (s1.1.toNat + 1) b_.elems))))), (53, .one (.agg (aT x8))), (54, .one (.agg (aT y9))), (55, c1 (.pv (.sl true 1 [pI .i64 y9.kind, pL flT y9.elems, pL flS y9.names])))]) (by kernel_rfl) ?_
          obtain ⟨l10, hl10, hq⟩ := bind_inv hq
          refine appOwnF flT (d := some 56) (id := 4) (s := .pv (.sl true 1 [pI .i64 y9.kind, pL flT y9.elems, pL flS y9.names])) (nb := true) (fr := (flT.f s1.2).length) hl10 (by kernel_rfl) (src_lit flT (flT.one y9) rfl) (by kernel_rfl) (Nat.le_refl _) ?_
          refine lastF (T' := sl 60 [(2, pt 0), (3, pt 1), (4, pt 2), (5, pt 3), (6, c1 (vi s1.1)), (38, c1 (vi (a_.elems.length : Int))), (39, c1 (vi s1.1)), (42, c1 (.ptr 3 0 1)), (43, c1 (vO flT 4 s1.2)), (44, c1 (.ptr 0 0 1)), (45, c1 (vL flT a_.elems)), (46, c1 (vi s1.1)), (47, c1 (.pv (.pp (flT.c x7 ++ flT.f (List.drop (s1.1.toNat + 1) a_.elems))))), (48, .one (.agg (aT x7))), (49, c1 (.ptr 1 0 1)), (50, c1 (vL flT b_.elems)), (51, c1 (vi s1.1)), (52, c1 (.pv (.pp (flT.c x8 ++ flT.f (List.drop (s1.1.toNat + 1) b_.elems))))), (53, .one (.agg (aT x8))), (54, .one (.agg (aT y9))), (55, c1 (.pv (.sl true 1 [pI .i64 y9.kind, pL flT y9.elems, pL flS y9.names]))), (56, c1 (vO flT 4 l10)), (57, c1 (.ptr 3 0 1))]) (σ' := [bx (aT a_), bx (aT b_), bx [vi 0, vN, vN], bx [vi a_.kind, vO flT 4 l10, vL flS y5], some (arO true flT.sz ((flT.f s1.2).length) (flT.f l10))]) (by kernel_rfl) (hR _ _ ?_)
          refine L_nil (hA2 _ _ ?_)
          refine L_regS hb [2, 3, 4, 5, 38, 39] (T' := sl 60 [(2, pt 0), (3, pt 1), (4, pt 2), (5, pt 3), (38, c1 (vi (a_.elems.length : Int))), (39, c1 (vi (IntKind.i64.wrap (s1.1 + 1))))]) (by kernel_rfl) ?_
          refine L_mark 4 (nb := true) (cs := flT.f l10) rfl (app_le flT hl10) ?_
          refine L_backF [2, 3, 4, 5, 38, 39] [] 5 (T' := sl 60 [(2, pt 0), (3, pt 1), (4, pt 2), (5, pt 3), (38, c1 (vi (a_.elems.length : Int))), (39, c1 (vi (IntKind.i64.wrap (s1.1 + 1))))]) (σ' := [bx (aT a_), bx (aT b_), bx [vi 0, vN, vN], bx [vi a_.kind, vO flT 4 l10, vL flS y5], some (arO true flT.sz ((flT.f l10).length) (flT.f l10))]) (by kernel_rfl) (by kernel_rfl) (by simp) (by kernel_rfl) ⟨(by kernel_rfl), (by kernel_rfl), (by kernel_rfl), (by kernel_rfl), (under_arO _ _ _ _ _), trivial⟩ ?_
          have h0 := (Option.some.inj hq).symm
          exact L_as (by kernel_rfl) (by kernel_rfl) (hn1 _ h0)
        · replace hq := cond_f hc6 hq
          refine L_exit (hB1 _ _ (L_seq ?_))
          refine L_regF hb [4] (T' := sl 60 [(4, pt 2)]) (σ' := [bx (aT a_), bx (aT b_), bx [vi a_.kind, vO flT 4 s1.2, vL flS y5], bx [vi a_.kind, vO flT 4 s1.2, vL flS y5], some (arO true flT.sz ((flT.f s1.2).length) (flT.f s1.2))]) (by kernel_rfl) ?_
          refine L_cellσ 2 1 (cs := [vi a_.kind, vO flT 4 s1.2, vL flS y5]) (c := vO flT 4 s1.2) (by kernel_rfl) (by kernel_rfl) (conv_own flT (nb := true) (id := 4) (xs := s1.2) (by kernel_rfl)) ?_
          refine L_ret ?_
          have h0 := (Option.some.inj hq).symm
          replace h0 := he1 _ h0
          obtain rfl := h0
          exact end_ret (by kernel_rfl)
noncomputable def t_types_Unify_step (rec : Ty → Ty → Option (Ty)) (a : Ty) (b : Ty) : Option (Ty) :=
  g_types_Unify (fun a0 a1 => rec a0 a1) a b
noncomputable def t_types_Unify (a0 : Ty) (a1 : Ty) : Option (Ty) := tieF relT wfT t_types_Unify_step a0 a1
theorem t_types_Unify_ok (hb : Base E E0 G) (he : ∀ w, E w → EnvV w) (a0 : Ty) (a1 : Ty) (r : Ty) (hq : t_types_Unify a0 a1 = some r) : Pure E E0 Tryz.prog 88 [.agg (aT a0), .agg (aT a1)] (.one (.agg (aT r))) :=
  tieF_ok (C := fun a b r => Pure E E0 Tryz.prog 88 [.agg (aT a), .agg (aT b)] (.one (.agg (aT r)))) (fun rec hr a b r hq => g_types_Unify_ok hb he (fun a0 a1 => rec a0 a1) (fun a0 a1 r e => hr a0 a1 r e) a b r hq) a0 a1 r hq
noncomputable def g_address_Identifier_L1 (s_ : ByteArray) (s1 : Int) : Option ((Int) ⊕ (Bool)) :=
  bif (decide (s1 < (s_.size : Int))) then (sidx s_ s1).bind fun c2 => (sidx s_ s1).bind fun c3 => bif (!decide (c3 = 95)) then bif (decide ((IntKind.u8.wrap ((BitVec.ofInt IntKind.u8.bits c2 ||| BitVec.ofInt IntKind.u8.bits 32).toNat : Int)) < 97)) then bif (decide (s1 = 0)) then some (.inr (false)) else (sidx s_ s1).bind fun c7 => bif (decide (c7 < 48)) then some (.inr (false)) else (sidx s_ s1).bind fun c9 => bif (decide (c9 > 57)) then some (.inr (false)) else some (.inl (IntKind.i64.wrap (s1 + 1))) else bif (decide ((IntKind.u8.wrap ((BitVec.ofInt IntKind.u8.bits c2 ||| BitVec.ofInt IntKind.u8.bits 32).toNat : Int)) > 122)) then bif (decide (s1 = 0)) then some (.inr (false)) else (sidx s_ s1).bind fun c13 => bif (decide (c13 < 48)) then some (.inr (false)) else (sidx s_ s1).bind fun c15 => bif (decide (c15 > 57)) then some (.inr (false)) else some (.inl (IntKind.i64.wrap (s1 + 1))) else some (.inl (IntKind.i64.wrap (s1 + 1))) else some (.inl (IntKind.i64.wrap (s1 + 1))) else bif (!decide (s_ = eS)) then some (.inr (decide ((s_.size : Int) ≤ 64))) else some (.inr (false))
noncomputable def g_address_Identifier  (s_ : ByteArray) : Option (Bool) :=
  loopO (g_address_Identifier_L1 s_) 0
theorem g_address_Identifier_ok (hb : Base E E0 G) (he : ∀ w, E w → EnvV w)   (s_ : ByteArray) (r_ : Bool) (hq : g_address_Identifier s_ = some r_) :
    Pure E E0 Tryz.prog 72 [.cell (vS s_)] (c1 (vB r_)) := by
  refine pure_L Tryz.func72 rfl ?_
  refine L_keepF [0] (T' := sl 50 [(0, c1 (vS s_))]) (by kernel_rfl) ?_
  refine L_seq ?_
  refine L_regS hb [0] (T' := sl 50 [(0, c1 (vS s_))]) (by kernel_rfl) ?_
  refine L_seq (L_seq ?_)
  refine L_regS hb [0, 6, 7] (T' := sl 50 [(0, c1 (vS s_)), (6, c1 (vi (s_.size : Int))), (7, c1 (vi 0))]) (by kernel_rfl) ?_
  refine L_block (fun K1 hA1 hB1 hC1 hD1 => ?_)
  refine L_backF [0, 6, 7] [] 0 (T' := sl 50 [(0, c1 (vS s_)), (6, c1 (vi (s_.size : Int))), (7, c1 (vi 0))]) (σ' := []) (by kernel_rfl) (by kernel_rfl) (by simp) (by kernel_rfl) trivial ?_
  refine L_as (by kernel_rfl) (by kernel_rfl) (L_loopO (body := (g_address_Identifier_L1 s_)) (fun s1 => sl 50 [(0, c1 (vS s_)), (6, c1 (vi (s_.size : Int))), (7, c1 (vi s1))]) (fun s1 => []) (s0 := 0) (fun s1 x1 hq hn1 he1 => ?_) hq)
  refine L_seq ?_
  refine L_regS hb [0, 6, 7, 8] (T' := sl 50 [(0, c1 (vS s_)), (6, c1 (vi (s_.size : Int))), (7, c1 (vi s1)), (8, c1 (vB (decide (s1 < (s_.size : Int)))))]) (by kernel_rfl) ?_
  refine L_seq ?_
  refine L_if hb (b := (decide (s1 < (s_.size : Int)))) (by kernel_rfl) (fun hc1 => ?_) (fun hc1 => ?_)
  · replace hq := cond_t hc1 hq
    refine L_skip (L_seq (L_block (fun K2 hA2 hB2 hC2 hD2 => (L_seq ?_))))
    refine L_regS hb [0, 3, 6, 7] (T' := sl 50 [(0, c1 (vS s_)), (3, c1 (vi s1)), (6, c1 (vi (s_.size : Int))), (7, c1 (vi s1))]) (by kernel_rfl) ?_
    refine L_seq ?_
    refine L_regK hb [0, 3, 4, 6, 7] (fun R hR => ?_)
    refine runDS 2 [(10, c1 (vS s_)), (11, c1 (vi s1))] (by kernel_rfl) ?_
    obtain ⟨c2, hc2, hq⟩ := bind_inv hq
    refine sidxF (d := some 12) hc2 (by kernel_rfl) ?_
    refine lastKS (T' := sl 50 [(0, c1 (vS s_)), (3, c1 (vi s1)), (4, c1 (vI .u8 (IntKind.u8.wrap ((BitVec.ofInt IntKind.u8.bits c2 ||| BitVec.ofInt IntKind.u8.bits 32).toNat : Int)))), (6, c1 (vi (s_.size : Int))), (7, c1 (vi s1))]) (by kernel_rfl) hR ?_
    refine L_seq ?_
    refine L_regK hb [0, 6, 7, 41] (fun R hR => ?_)
    refine runDS 2 [(14, c1 (vS s_)), (15, c1 (vi s1))] (by kernel_rfl) ?_
    obtain ⟨c3, hc3, hq⟩ := bind_inv hq
    refine sidxF (d := some 16) hc3 (by kernel_rfl) ?_
    refine runPS 2 [(16, c1 (vI .u8 c3)), (17, c1 (vB (!decide (c3 = 95)))), (18, c1 (vB (!decide (c3 = 95))))] (by kernel_rfl) ?_
    refine partsD ((!decide (c3 = 95))) (fun zz => [(17, c1 (vB zz)), (18, c1 (vB zz))]) (by kernel_rfl) (fun hc4 => ?_) (fun hc4 => ?_)
    · replace hq := cond_t hc4 hq
      refine runDS 3 [(19, c1 (vI .u8 (IntKind.u8.wrap ((BitVec.ofInt IntKind.u8.bits c2 ||| BitVec.ofInt IntKind.u8.bits 32).toNat : Int)))), (20, c1 (vB (decide ((IntKind.u8.wrap ((BitVec.ofInt IntKind.u8.bits c2 ||| BitVec.ofInt IntKind.u8.bits 32).toNat : Int)) < 97)))), (21, c1 (vB (decide ((IntKind.u8.wrap ((BitVec.ofInt IntKind.u8.bits c2 ||| BitVec.ofInt IntKind.u8.bits 32).toNat : Int)) < 97))))] (by kernel_rfl) ?_
      refine partsD ((decide ((IntKind.u8.wrap ((BitVec.ofInt IntKind.u8.bits c2 ||| BitVec.ofInt IntKind.u8.bits 32).toNat : Int)) < 97))) (fun zz => [(20, c1 (vB zz)), (21, c1 (vB zz))]) (by kernel_rfl) (fun hc5 => ?_) (fun hc5 => ?_)
      · replace hq := cond_t hc5 hq
        refine runDS 8 [(22, c1 (.undef)), (23, c1 (.undef)), (24, c1 (vB true)), (25, c1 (vB true)), (26, c1 (vB true)), (27, c1 (vi s1)), (28, c1 (vB (decide (s1 = 0)))), (29, c1 (vB (decide (s1 = 0))))] (by kernel_rfl) ?_
        refine partsD ((decide (s1 = 0))) (fun zz => [(28, c1 (vB zz)), (29, c1 (vB zz))]) (by kernel_rfl) (fun hc6 => ?_) (fun hc6 => ?_)
        · replace hq := cond_t hc6 hq
          refine lastKS (T' := sl 50 [(0, c1 (vS s_)), (6, c1 (vi (s_.size : Int))), (7, c1 (vi s1)), (41, c1 (vB true))]) (by kernel_rfl) hR ?_
          refine L_true hb (by kernel_rfl) (L_seq ?_)
          refine L_regS hb [2] (T' := sl 50 [(2, c1 (vB false))]) (by kernel_rfl) ?_
          refine L_ret (hD2 _ _ (hD1 _ _ ?_))
          have h0 := (Option.some.inj hq).symm
          replace h0 := he1 _ h0
          obtain rfl := h0
          exact end_ret (by kernel_rfl)
        · replace hq := cond_f hc6 hq
          refine runDS 2 [(30, c1 (vS s_)), (31, c1 (vi s1))] (by kernel_rfl) ?_
          obtain ⟨c7, hc7, hq⟩ := bind_inv hq
          refine sidxF (d := some 32) hc7 (by kernel_rfl) ?_
          refine runPS 3 [(32, c1 (vI .u8 c7)), (33, c1 (vB (decide (c7 < 48)))), (34, c1 (vB (decide (c7 < 48)))), (35, c1 (vB (decide (c7 < 48))))] (by kernel_rfl) ?_
          refine partsD ((decide (c7 < 48))) (fun zz => [(33, c1 (vB zz)), (34, c1 (vB zz)), (35, c1 (vB zz))]) (by kernel_rfl) (fun hc8 => ?_) (fun hc8 => ?_)
          · replace hq := cond_t hc8 hq
            refine lastKS (T' := sl 50 [(0, c1 (vS s_)), (6, c1 (vi (s_.size : Int))), (7, c1 (vi s1)), (41, c1 (vB true))]) (by kernel_rfl) hR ?_
            refine L_true hb (by kernel_rfl) (L_seq ?_)
            refine L_regS hb [2] (T' := sl 50 [(2, c1 (vB false))]) (by kernel_rfl) ?_
            refine L_ret (hD2 _ _ (hD1 _ _ ?_))
            have h0 := (Option.some.inj hq).symm
            replace h0 := he1 _ h0
            obtain rfl := h0
            exact end_ret (by kernel_rfl)
          · replace hq := cond_f hc8 hq
            refine runDS 2 [(36, c1 (vS s_)), (37, c1 (vi s1))] (by kernel_rfl) ?_
            obtain ⟨c9, hc9, hq⟩ := bind_inv hq
            refine sidxF (d := some 38) hc9 (by kernel_rfl) ?_
            refine lastKS (T' := sl 50 [(0, c1 (vS s_)), (6, c1 (vi (s_.size : Int))), (7, c1 (vi s1)), (41, c1 (vB (decide (c9 > 57))))]) (by kernel_rfl) hR ?_
            refine L_if hb (b := (decide (c9 > 57))) (by kernel_rfl) (fun hc10 => ?_) (fun hc10 => ?_)
            · replace hq := cond_t hc10 hq
              refine L_seq ?_
              refine L_regS hb [2] (T' := sl 50 [(2, c1 (vB false))]) (by kernel_rfl) ?_
              refine L_ret (hD2 _ _ (hD1 _ _ ?_))
              have h0 := (Option.some.inj hq).symm
              replace h0 := he1 _ h0
              obtain rfl := h0
              exact end_ret (by kernel_rfl)
            · replace hq := cond_f hc10 hq
              refine L_skip (L_nil (hA2 _ _ ?_))
              refine L_regS hb [0, 6, 7] (T' := sl 50 [(0, c1 (vS s_)), (6, c1 (vi (s_.size : Int))), (7, c1 (vi (IntKind.i64.wrap (s1 + 1))))]) (by kernel_rfl) ?_
              refine L_backF [0, 6, 7] [] 0 (T' := sl 50 [(0, c1 (vS s_)), (6, c1 (vi (s_.size : Int))), (7, c1 (vi (IntKind.i64.wrap (s1 + 1))))]) (σ' := []) (by kernel_rfl) (by kernel_rfl) (by simp) (by kernel_rfl) trivial ?_
              have h0 := (Option.some.inj hq).symm
              exact L_as (by kernel_rfl) (by kernel_rfl) (hn1 _ h0)
      · replace hq := cond_f hc5 hq
        refine runDS 5 [(22, c1 (vI .u8 (IntKind.u8.wrap ((BitVec.ofInt IntKind.u8.bits c2 ||| BitVec.ofInt IntKind.u8.bits 32).toNat : Int)))), (23, c1 (vB (decide ((IntKind.u8.wrap ((BitVec.ofInt IntKind.u8.bits c2 ||| BitVec.ofInt IntKind.u8.bits 32).toNat : Int)) > 122)))), (24, c1 (vB (decide ((IntKind.u8.wrap ((BitVec.ofInt IntKind.u8.bits c2 ||| BitVec.ofInt IntKind.u8.bits 32).toNat : Int)) > 122)))), (25, c1 (vB (decide ((IntKind.u8.wrap ((BitVec.ofInt IntKind.u8.bits c2 ||| BitVec.ofInt IntKind.u8.bits 32).toNat : Int)) > 122)))), (26, c1 (vB (decide ((IntKind.u8.wrap ((BitVec.ofInt IntKind.u8.bits c2 ||| BitVec.ofInt IntKind.u8.bits 32).toNat : Int)) > 122))))] (by kernel_rfl) ?_
        refine partsD ((decide ((IntKind.u8.wrap ((BitVec.ofInt IntKind.u8.bits c2 ||| BitVec.ofInt IntKind.u8.bits 32).toNat : Int)) > 122))) (fun zz => [(23, c1 (vB zz)), (24, c1 (vB zz)), (25, c1 (vB zz)), (26, c1 (vB zz))]) (by kernel_rfl) (fun hc11 => ?_) (fun hc11 => ?_)
        · replace hq := cond_t hc11 hq
          refine runDS 3 [(27, c1 (vi s1)), (28, c1 (vB (decide (s1 = 0)))), (29, c1 (vB (decide (s1 = 0))))] (by kernel_rfl) ?_
          refine partsD ((decide (s1 = 0))) (fun zz => [(28, c1 (vB zz)), (29, c1 (vB zz))]) (by kernel_rfl) (fun hc12 => ?_) (fun hc12 => ?_)
          · replace hq := cond_t hc12 hq
            refine lastKS (T' := sl 50 [(0, c1 (vS s_)), (6, c1 (vi (s_.size : Int))), (7, c1 (vi s1)), (41, c1 (vB true))]) (by kernel_rfl) hR ?_
            refine L_true hb (by kernel_rfl) (L_seq ?_)
            refine L_regS hb [2] (T' := sl 50 [(2, c1 (vB false))]) (by kernel_rfl) ?_
            refine L_ret (hD2 _ _ (hD1 _ _ ?_))
            have h0 := (Option.some.inj hq).symm
            replace h0 := he1 _ h0
            obtain rfl := h0
            exact end_ret (by kernel_rfl)
          · replace hq := cond_f hc12 hq
            refine runDS 2 [(30, c1 (vS s_)), (31, c1 (vi s1))] (by kernel_rfl) ?_
            obtain ⟨c13, hc13, hq⟩ := bind_inv hq
            refine sidxF (d := some 32) hc13 (by kernel_rfl) ?_
            refine runPS 3 [(32, c1 (vI .u8 c13)), (33, c1 (vB (decide (c13 < 48)))), (34, c1 (vB (decide (c13 < 48)))), (35, c1 (vB (decide (c13 < 48))))] (by kernel_rfl) ?_
            refine partsD ((decide (c13 < 48))) (fun zz => [(33, c1 (vB zz)), (34, c1 (vB zz)), (35, c1 (vB zz))]) (by kernel_rfl) (fun hc14 => ?_) (fun hc14 => ?_)
            · replace hq := cond_t hc14 hq
              refine lastKS (T' := sl 50 [(0, c1 (vS s_)), (6, c1 (vi (s_.size : Int))), (7, c1 (vi s1)), (41, c1 (vB true))]) (by kernel_rfl) hR ?_
              refine L_true hb (by kernel_rfl) (L_seq ?_)
              refine L_regS hb [2] (T' := sl 50 [(2, c1 (vB false))]) (by kernel_rfl) ?_
              refine L_ret (hD2 _ _ (hD1 _ _ ?_))
              have h0 := (Option.some.inj hq).symm
              replace h0 := he1 _ h0
              obtain rfl := h0
              exact end_ret (by kernel_rfl)
            · replace hq := cond_f hc14 hq
              refine runDS 2 [(36, c1 (vS s_)), (37, c1 (vi s1))] (by kernel_rfl) ?_
              obtain ⟨c15, hc15, hq⟩ := bind_inv hq
              refine sidxF (d := some 38) hc15 (by kernel_rfl) ?_
              refine lastKS (T' := sl 50 [(0, c1 (vS s_)), (6, c1 (vi (s_.size : Int))), (7, c1 (vi s1)), (41, c1 (vB (decide (c15 > 57))))]) (by kernel_rfl) hR ?_
              refine L_if hb (b := (decide (c15 > 57))) (by kernel_rfl) (fun hc16 => ?_) (fun hc16 => ?_)
              · replace hq := cond_t hc16 hq
                refine L_seq ?_
                refine L_regS hb [2] (T' := sl 50 [(2, c1 (vB false))]) (by kernel_rfl) ?_
                refine L_ret (hD2 _ _ (hD1 _ _ ?_))
                have h0 := (Option.some.inj hq).symm
                replace h0 := he1 _ h0
                obtain rfl := h0
                exact end_ret (by kernel_rfl)
              · replace hq := cond_f hc16 hq
                refine L_skip (L_nil (hA2 _ _ ?_))
                refine L_regS hb [0, 6, 7] (T' := sl 50 [(0, c1 (vS s_)), (6, c1 (vi (s_.size : Int))), (7, c1 (vi (IntKind.i64.wrap (s1 + 1))))]) (by kernel_rfl) ?_
                refine L_backF [0, 6, 7] [] 0 (T' := sl 50 [(0, c1 (vS s_)), (6, c1 (vi (s_.size : Int))), (7, c1 (vi (IntKind.i64.wrap (s1 + 1))))]) (σ' := []) (by kernel_rfl) (by kernel_rfl) (by simp) (by kernel_rfl) trivial ?_
                have h0 := (Option.some.inj hq).symm
                exact L_as (by kernel_rfl) (by kernel_rfl) (hn1 _ h0)
        · replace hq := cond_f hc11 hq
          refine lastKS (T' := sl 50 [(0, c1 (vS s_)), (6, c1 (vi (s_.size : Int))), (7, c1 (vi s1)), (41, c1 (vB false))]) (by kernel_rfl) hR ?_
          refine L_false hb (by kernel_rfl) (L_skip (L_nil (hA2 _ _ ?_)))
          refine L_regS hb [0, 6, 7] (T' := sl 50 [(0, c1 (vS s_)), (6, c1 (vi (s_.size : Int))), (7, c1 (vi (IntKind.i64.wrap (s1 + 1))))]) (by kernel_rfl) ?_
          refine L_backF [0, 6, 7] [] 0 (T' := sl 50 [(0, c1 (vS s_)), (6, c1 (vi (s_.size : Int))), (7, c1 (vi (IntKind.i64.wrap (s1 + 1))))]) (σ' := []) (by kernel_rfl) (by kernel_rfl) (by simp) (by kernel_rfl) trivial ?_
          have h0 := (Option.some.inj hq).symm
          exact L_as (by kernel_rfl) (by kernel_rfl) (hn1 _ h0)
    · replace hq := cond_f hc4 hq
      refine lastKS (T' := sl 50 [(0, c1 (vS s_)), (6, c1 (vi (s_.size : Int))), (7, c1 (vi s1)), (41, c1 (vB false))]) (by kernel_rfl) hR ?_
      refine L_false hb (by kernel_rfl) (L_skip (L_nil (hA2 _ _ ?_)))
      refine L_regS hb [0, 6, 7] (T' := sl 50 [(0, c1 (vS s_)), (6, c1 (vi (s_.size : Int))), (7, c1 (vi (IntKind.i64.wrap (s1 + 1))))]) (by kernel_rfl) ?_
      refine L_backF [0, 6, 7] [] 0 (T' := sl 50 [(0, c1 (vS s_)), (6, c1 (vi (s_.size : Int))), (7, c1 (vi (IntKind.i64.wrap (s1 + 1))))]) (σ' := []) (by kernel_rfl) (by kernel_rfl) (by simp) (by kernel_rfl) trivial ?_
      have h0 := (Option.some.inj hq).symm
      exact L_as (by kernel_rfl) (by kernel_rfl) (hn1 _ h0)
  · replace hq := cond_f hc1 hq
    refine L_exit (hB1 _ _ (L_seq ?_))
    refine L_regK hb [2] (fun R hR => ?_)
    refine runDS 3 [(43, c1 (vS s_)), (44, c1 (vB (!decide (s_ = eS)))), (45, c1 (vB (!decide (s_ = eS))))] (by kernel_rfl) ?_
    refine partsD ((!decide (s_ = eS))) (fun zz => [(44, c1 (vB zz)), (45, c1 (vB zz))]) (by kernel_rfl) (fun hc17 => ?_) (fun hc17 => ?_)
    · replace hq := cond_t hc17 hq
      refine lastKS (T' := sl 50 [(2, c1 (vB (decide ((s_.size : Int) ≤ 64))))]) (by kernel_rfl) hR ?_
      refine L_ret ?_
      have h0 := (Option.some.inj hq).symm
      replace h0 := he1 _ h0
      obtain rfl := h0
      exact end_ret (by kernel_rfl)
    · replace hq := cond_f hc17 hq
      refine lastKS (T' := sl 50 [(2, c1 (vB false))]) (by kernel_rfl) hR ?_
      refine L_ret ?_
      have h0 := (Option.some.inj hq).symm
      replace h0 := he1 _ h0
      obtain rfl := h0
      exact end_ret (by kernel_rfl)
noncomputable def g_types_of_1  (k_ : ByteArray) : Option (Bool) :=
  (g_address_Identifier k_).bind fun y1 => some (!y1)
theorem g_types_of_1_ok (hb : Base E E0 G) (he : ∀ w, E w → EnvV w)   (k_ : ByteArray) (r_ : Bool) (hq : g_types_of_1 k_ = some r_) :
    Pure E E0 Tryz.prog 71 [.cell (vS k_)] (c1 (vB r_)) := by
  refine pure_L Tryz.func71 rfl ?_
  refine L_keepF [0] (T' := sl 6 [(0, c1 (vS k_))]) (by kernel_rfl) ?_
  refine L_seq ?_
  refine L_regS hb [0] (T' := sl 6 [(0, c1 (vS k_))]) (by kernel_rfl) ?_
  refine L_seq ?_
  refine L_regK hb [2] (fun R hR => ?_)
  refine runDS 1 [(3, c1 (vS k_))] (by kernel_rfl) ?_
  obtain ⟨y1, hy1, hq⟩ := bind_inv hq
  refine callF (d := some 4) (by kernel_rfl) (g_address_Identifier_ok hb he k_ y1 hy1) ?_
  refine lastKS (T' := sl 6 [(2, c1 (vB (!y1)))]) (by kernel_rfl) hR ?_
  refine L_ret ?_
  have h0 := Option.some.inj hq
  obtain rfl := h0
  exact end_ret (by kernel_rfl)
noncomputable def g_types_common_L1 (r_types_of : Val → Int → Option (Ty)) (l_ : List Val) (level_ : Int) (s1 : Int × List Ty × List ByteArray × Int × Bool) : Option ((Int × List Ty × List ByteArray × Int × Bool) ⊕ (Ty)) :=
  bif (decide (s1.2.2.2.1 < (l_.length : Int))) then (idx l_ s1.2.2.2.1).bind fun x2 => bif (decide (x2.kind = 0)) then some (.inl (s1.1, s1.2.1, s1.2.2.1, (IntKind.i64.wrap (s1.2.2.2.1 + 1)), s1.2.2.2.2)) else bif (decide (x2.kind = 6)) then some (.inl (s1.1, s1.2.1, s1.2.2.1, (IntKind.i64.wrap (s1.2.2.2.1 + 1)), s1.2.2.2.2)) else (r_types_of x2 level_).bind fun y5 => bif (!s1.2.2.2.2) then (t_types_Unify (Ty.mk s1.1 s1.2.1 s1.2.2.1) y5).bind fun y7 => some (.inl (y7.kind, y7.elems, y7.names, (IntKind.i64.wrap (s1.2.2.2.1 + 1)), false)) else some (.inl (y5.kind, y5.elems, y5.names, (IntKind.i64.wrap (s1.2.2.2.1 + 1)), false)) else some (.inr (Ty.mk s1.1 s1.2.1 s1.2.2.1))
noncomputable def g_types_common (r_types_of : Val → Int → Option (Ty)) (l_ : List Val) (level_ : Int) : Option (Ty) :=
  loopO (g_types_common_L1 r_types_of l_ level_) (0, [], [], 0, true)
theorem g_types_common_ok (hb : Base E E0 G) (he : ∀ w, E w → EnvV w) (r_types_of : Val → Int → Option (Ty)) (hr_types_of : ∀ (a0 : Val) (a1 : Int) (r : Ty), r_types_of a0 a1 = some r → Pure E E0 Tryz.prog 45 [.agg (aV a0), .cell (vi a1)] (.one (.agg (aT r)))) (l_ : List Val) (level_ : Int) (r_ : Ty) (hq : g_types_common r_types_of l_ level_ = some r_) :
    Pure E E0 Tryz.prog 69 [.cell (vL flV l_), .cell (vi level_)] (.one (.agg (aT r_))) := by
  refine pure_L Tryz.func69 rfl ?_
  refine L_keepF [0, 1] (T' := sl 35 [(0, c1 (vL flV l_)), (1, c1 (vi level_))]) (by kernel_rfl) ?_
  refine L_seq ?_
  refine L_regF hb [0, 1, 4] (T' := sl 35 [(0, c1 (vL flV l_)), (1, c1 (vi level_)), (4, pt 0)]) (σ' := [bx [vi 0, vN, vN]]) (by kernel_rfl) ?_
  refine L_seq ?_
  refine L_regF hb [0, 1, 4, 5] (T' := sl 35 [(0, c1 (vL flV l_)), (1, c1 (vi level_)), (4, pt 0), (5, pt 1)]) (σ' := [bx [vi 0, vN, vN], bx [vi 0, vN, vN]]) (by kernel_rfl) ?_
  refine L_seq ?_
  refine L_regS hb [0, 1, 4, 5, 6] (T' := sl 35 [(0, c1 (vL flV l_)), (1, c1 (vi level_)), (4, pt 0), (5, pt 1), (6, c1 (vB true))]) (by kernel_rfl) ?_
  refine L_seq (L_seq ?_)
  refine L_regS hb [1, 4, 5, 6, 10, 11, 12] (T' := sl 35 [(1, c1 (vi level_)), (4, pt 0), (5, pt 1), (6, c1 (vB true)), (10, c1 (vL flV l_)), (11, c1 (vi (l_.length : Int))), (12, c1 (vi 0))]) (by kernel_rfl) ?_
  refine L_block (fun K1 hA1 hB1 hC1 hD1 => ?_)
  refine L_cellσ 1 1 (cs := [vi 0, vN, vN]) (c := vN) (by kernel_rfl) (by kernel_rfl) (conv_nil flT) ?_
  refine L_cellσ 1 2 (cs := [vi 0, vL flT [], vN]) (c := vN) (by kernel_rfl) (by kernel_rfl) (conv_nil flS) ?_
  refine L_backF [1, 4, 5, 6, 10, 11, 12] [] 2 (T' := sl 35 [(1, c1 (vi level_)), (4, pt 0), (5, pt 1), (6, c1 (vB true)), (10, c1 (vL flV l_)), (11, c1 (vi (l_.length : Int))), (12, c1 (vi 0))]) (σ' := [bx [vi 0, vN, vN], bx [vi 0, vL flT [], vL flS []]]) (by kernel_rfl) (by kernel_rfl) (by simp) (by kernel_rfl) ⟨(by kernel_rfl), (by kernel_rfl), trivial⟩ ?_
  refine L_as (by kernel_rfl) (by kernel_rfl) (L_loopO (body := (g_types_common_L1 r_types_of l_ level_)) (fun s1 => sl 35 [(1, c1 (vi level_)), (4, pt 0), (5, pt 1), (6, c1 (vB s1.2.2.2.2)), (10, c1 (vL flV l_)), (11, c1 (vi (l_.length : Int))), (12, c1 (vi s1.2.2.2.1))]) (fun s1 => [bx [vi 0, vN, vN], bx [vi s1.1, vL flT s1.2.1, vL flS s1.2.2.1]]) (s0 := (0, [], [], 0, true)) (fun s1 x1 hq hn1 he1 => ?_) hq)
  refine L_seq ?_
  refine L_regS hb [1, 4, 5, 6, 10, 11, 12, 13] (T' := sl 35 [(1, c1 (vi level_)), (4, pt 0), (5, pt 1), (6, c1 (vB s1.2.2.2.2)), (10, c1 (vL flV l_)), (11, c1 (vi (l_.length : Int))), (12, c1 (vi s1.2.2.2.1)), (13, c1 (vB (decide (s1.2.2.2.1 < (l_.length : Int)))))]) (by kernel_rfl) ?_
  refine L_seq ?_
  refine L_if hb (b := (decide (s1.2.2.2.1 < (l_.length : Int)))) (by kernel_rfl) (fun hc1 => ?_) (fun hc1 => ?_)
  · replace hq := cond_t hc1 hq
    refine L_skip (L_seq (L_block (fun K2 hA2 hB2 hC2 hD2 => (L_seq ?_))))
    refine L_regK hb [1, 4, 5, 6, 8, 10, 11, 12] (fun R hR => ?_)
    obtain ⟨x2, hx2, hq⟩ := bind_inv hq
    refine idxF flV (d := some 14) hx2 (by kernel_rfl) ?_
    refine lastK (T' := sl 35 [(1, c1 (vi level_)), (4, pt 0), (5, pt 1), (6, c1 (vB s1.2.2.2.2)), (8, pt 2), (10, c1 (vL flV l_)), (11, c1 (vi (l_.length : Int))), (12, c1 (vi s1.2.2.2.1))]) (σ' := [bx [vi 0, vN, vN], bx [vi s1.1, vL flT s1.2.1, vL flS s1.2.2.1], bx (aV x2)]) (by kernel_rfl) hR ?_
    refine L_seq (L_seq ?_)
    refine L_regK hb [1, 4, 5, 6, 8, 10, 11, 12, 23] (fun R hR => ?_)
    refine runDS 4 [(16, pt 2), (17, c1 (vi x2.kind)), (18, c1 (vB (decide (x2.kind = 0)))), (19, c1 (vB (decide (x2.kind = 0))))] (by kernel_rfl) ?_
    refine partsD ((decide (x2.kind = 0))) (fun zz => [(18, c1 (vB zz)), (19, c1 (vB zz))]) (by kernel_rfl) (fun hc3 => ?_) (fun hc3 => ?_)
    · replace hq := cond_t hc3 hq
      refine lastKS (T' := sl 35 [(1, c1 (vi level_)), (4, pt 0), (5, pt 1), (6, c1 (vB s1.2.2.2.2)), (8, pt 2), (10, c1 (vL flV l_)), (11, c1 (vi (l_.length : Int))), (12, c1 (vi s1.2.2.2.1)), (23, c1 (vB true))]) (by kernel_rfl) hR ?_
      refine L_true hb (by kernel_rfl) (L_exit (hB2 _ _ ?_))
      refine L_regS hb [1, 4, 5, 6, 10, 11, 12] (T' := sl 35 [(1, c1 (vi level_)), (4, pt 0), (5, pt 1), (6, c1 (vB s1.2.2.2.2)), (10, c1 (vL flV l_)), (11, c1 (vi (l_.length : Int))), (12, c1 (vi (IntKind.i64.wrap (s1.2.2.2.1 + 1))))]) (by kernel_rfl) ?_
      refine L_backF [1, 4, 5, 6, 10, 11, 12] [] 2 (T' := sl 35 [(1, c1 (vi level_)), (4, pt 0), (5, pt 1), (6, c1 (vB s1.2.2.2.2)), (10, c1 (vL flV l_)), (11, c1 (vi (l_.length : Int))), (12, c1 (vi (IntKind.i64.wrap (s1.2.2.2.1 + 1))))]) (σ' := [bx [vi 0, vN, vN], bx [vi s1.1, vL flT s1.2.1, vL flS s1.2.2.1]]) (by kernel_rfl) (by kernel_rfl) (by simp) (by kernel_rfl) ⟨(by kernel_rfl), (by kernel_rfl), trivial⟩ ?_
      have h0 := (Option.some.inj hq).symm
      exact L_as (by kernel_rfl) (by kernel_rfl) (hn1 _ h0)
    · replace hq := cond_f hc3 hq
      refine lastKS (T' := sl 35 [(1, c1 (vi level_)), (4, pt 0), (5, pt 1), (6, c1 (vB s1.2.2.2.2)), (8, pt 2), (10, c1 (vL flV l_)), (11, c1 (vi (l_.length : Int))), (12, c1 (vi s1.2.2.2.1)), (23, c1 (vB (decide (x2.kind = 6))))]) (by kernel_rfl) hR ?_
      refine L_if hb (b := (decide (x2.kind = 6))) (by kernel_rfl) (fun hc4 => ?_) (fun hc4 => ?_)
      · replace hq := cond_t hc4 hq
        refine L_exit (hB2 _ _ ?_)
        refine L_regS hb [1, 4, 5, 6, 10, 11, 12] (T' := sl 35 [(1, c1 (vi level_)), (4, pt 0), (5, pt 1), (6, c1 (vB s1.2.2.2.2)), (10, c1 (vL flV l_)), (11, c1 (vi (l_.length : Int))), (12, c1 (vi (IntKind.i64.wrap (s1.2.2.2.1 + 1))))]) (by kernel_rfl) ?_
        refine L_backF [1, 4, 5, 6, 10, 11, 12] [] 2 (T' := sl 35 [(1, c1 (vi level_)), (4, pt 0), (5, pt 1), (6, c1 (vB s1.2.2.2.2)), (10, c1 (vL flV l_)), (11, c1 (vi (l_.length : Int))), (12, c1 (vi (IntKind.i64.wrap (s1.2.2.2.1 + 1))))]) (σ' := [bx [vi 0, vN, vN], bx [vi s1.1, vL flT s1.2.1, vL flS s1.2.2.1]]) (by kernel_rfl) (by kernel_rfl) (by simp) (by kernel_rfl) ⟨(by kernel_rfl), (by kernel_rfl), trivial⟩ ?_
        have h0 := (Option.some.inj hq).symm
        exact L_as (by kernel_rfl) (by kernel_rfl) (hn1 _ h0)
      · replace hq := cond_f hc4 hq
        refine L_skip (L_seq ?_)
        refine L_regK hb [1, 4, 5, 6, 9, 10, 11, 12] (fun R hR => ?_)
        refine runDS 2 [(24, .one (.agg (aV x2))), (25, c1 (vi level_))] (by kernel_rfl) ?_
        obtain ⟨y5, hy5, hq⟩ := bind_inv hq
        refine callF (d := some 26) (by kernel_rfl) (hr_types_of x2 level_ y5 hy5) ?_
        refine lastK (T' := sl 35 [(1, c1 (vi level_)), (4, pt 0), (5, pt 1), (6, c1 (vB s1.2.2.2.2)), (9, pt 3), (10, c1 (vL flV l_)), (11, c1 (vi (l_.length : Int))), (12, c1 (vi s1.2.2.2.1))]) (σ' := [bx [vi 0, vN, vN], bx [vi s1.1, vL flT s1.2.1, vL flS s1.2.2.1], bx (aV x2), bx (aT y5)]) (by kernel_rfl) hR ?_
        refine L_seq (L_seq ?_)
        refine L_regS hb [1, 4, 5, 9, 10, 11, 12, 28] (T' := sl 35 [(1, c1 (vi level_)), (4, pt 0), (5, pt 1), (9, pt 3), (10, c1 (vL flV l_)), (11, c1 (vi (l_.length : Int))), (12, c1 (vi s1.2.2.2.1)), (28, c1 (vB (!s1.2.2.2.2)))]) (by kernel_rfl) ?_
        refine L_if hb (b := (!s1.2.2.2.2)) (by kernel_rfl) (fun hc6 => ?_) (fun hc6 => ?_)
        · replace hq := cond_t hc6 hq
          refine L_regK hb [1, 4, 5, 9, 10, 11, 12] (fun R hR => ?_)
          refine runDS 2 [(29, .one (.agg [vi s1.1, vL flT s1.2.1, vL flS s1.2.2.1])), (30, .one (.agg (aT y5)))] (by kernel_rfl) ?_
          obtain ⟨y7, hy7, hq⟩ := bind_inv hq
          refine callF (d := some 31) (by kernel_rfl) (t_types_Unify_ok hb he (Ty.mk s1.1 s1.2.1 s1.2.2.1) y5 y7 hy7) ?_
          refine lastK (T' := sl 35 [(1, c1 (vi level_)), (4, pt 0), (5, pt 1), (9, pt 3), (10, c1 (vL flV l_)), (11, c1 (vi (l_.length : Int))), (12, c1 (vi s1.2.2.2.1))]) (σ' := [bx [vi 0, vN, vN], bx [vi s1.1, vL flT s1.2.1, vL flS s1.2.2.1], bx (aV x2), bx (aT y7)]) (by kernel_rfl) hR ?_
          refine L_regN hb (fun R hR => ?_)
          refine lastF (T' := sl 35 [(1, c1 (vi level_)), (4, pt 0), (5, pt 1), (6, c1 (vB false)), (9, pt 3), (10, c1 (vL flV l_)), (11, c1 (vi (l_.length : Int))), (12, c1 (vi s1.2.2.2.1)), (32, .one (.agg (aT y7)))]) (σ' := [bx [vi 0, vN, vN], bx (aT y7), bx (aV x2), bx (aT y7)]) (by kernel_rfl) (hR _ _ ?_)
          refine L_nil (hA2 _ _ ?_)
          refine L_regS hb [1, 4, 5, 6, 10, 11, 12] (T' := sl 35 [(1, c1 (vi level_)), (4, pt 0), (5, pt 1), (6, c1 (vB false)), (10, c1 (vL flV l_)), (11, c1 (vi (l_.length : Int))), (12, c1 (vi (IntKind.i64.wrap (s1.2.2.2.1 + 1))))]) (by kernel_rfl) ?_
          refine L_backF [1, 4, 5, 6, 10, 11, 12] [] 2 (T' := sl 35 [(1, c1 (vi level_)), (4, pt 0), (5, pt 1), (6, c1 (vB false)), (10, c1 (vL flV l_)), (11, c1 (vi (l_.length : Int))), (12, c1 (vi (IntKind.i64.wrap (s1.2.2.2.1 + 1))))]) (σ' := [bx [vi 0, vN, vN], bx (aT y7)]) (by kernel_rfl) (by kernel_rfl) (by simp) (by kernel_rfl) ⟨(by kernel_rfl), (by kernel_rfl), trivial⟩ ?_
          have h0 := (Option.some.inj hq).symm
          exact L_as (by kernel_rfl) (by kernel_rfl) (hn1 _ h0)
        · replace hq := cond_f hc6 hq
          refine L_skip ?_
          refine L_regN hb (fun R hR => ?_)
          refine lastF (T' := sl 35 [(1, c1 (vi level_)), (4, pt 0), (5, pt 1), (6, c1 (vB false)), (9, pt 3), (10, c1 (vL flV l_)), (11, c1 (vi (l_.length : Int))), (12, c1 (vi s1.2.2.2.1)), (28, c1 (vB (!s1.2.2.2.2))), (32, .one (.agg (aT y5)))]) (σ' := [bx [vi 0, vN, vN], bx (aT y5), bx (aV x2), bx (aT y5)]) (by kernel_rfl) (hR _ _ ?_)
          refine L_nil (hA2 _ _ ?_)
          refine L_regS hb [1, 4, 5, 6, 10, 11, 12] (T' := sl 35 [(1, c1 (vi level_)), (4, pt 0), (5, pt 1), (6, c1 (vB false)), (10, c1 (vL flV l_)), (11, c1 (vi (l_.length : Int))), (12, c1 (vi (IntKind.i64.wrap (s1.2.2.2.1 + 1))))]) (by kernel_rfl) ?_
          refine L_backF [1, 4, 5, 6, 10, 11, 12] [] 2 (T' := sl 35 [(1, c1 (vi level_)), (4, pt 0), (5, pt 1), (6, c1 (vB false)), (10, c1 (vL flV l_)), (11, c1 (vi (l_.length : Int))), (12, c1 (vi (IntKind.i64.wrap (s1.2.2.2.1 + 1))))]) (σ' := [bx [vi 0, vN, vN], bx (aT y5)]) (by kernel_rfl) (by kernel_rfl) (by simp) (by kernel_rfl) ⟨(by kernel_rfl), (by kernel_rfl), trivial⟩ ?_
          have h0 := (Option.some.inj hq).symm
          exact L_as (by kernel_rfl) (by kernel_rfl) (hn1 _ h0)
  · replace hq := cond_f hc1 hq
    refine L_exit (hB1 _ _ (L_seq ?_))
    refine L_regF hb [4] (T' := sl 35 [(4, pt 0)]) (σ' := [bx [vi s1.1, vL flT s1.2.1, vL flS s1.2.2.1], bx [vi s1.1, vL flT s1.2.1, vL flS s1.2.2.1]]) (by kernel_rfl) ?_
    refine L_ret ?_
    have h0 := (Option.some.inj hq).symm
    replace h0 := he1 _ h0
    obtain rfl := h0
    exact end_ret (by kernel_rfl)
noncomputable def g_types_of_slices_ContainsFunc_types_of_1_slices_IndexFunc_types_of_1_L1 (s_ : List ByteArray) (s1 : Int) : Option ((Int) ⊕ (Int)) :=
  bif (decide (s1 < (s_.length : Int))) then (idx s_ s1).bind fun x2 => (g_types_of_1 x2).bind fun y3 => bif y3 then some (.inr (s1)) else some (.inl (IntKind.i64.wrap (s1 + 1))) else some (.inr (-1))
noncomputable def g_types_of_slices_ContainsFunc_types_of_1_slices_IndexFunc_types_of_1 (r_types_common : List Val → Int → Option (Ty)) (r_types_of : Val → Int → Option (Ty)) (s_ : List ByteArray) : Option (Int) :=
  loopO (g_types_of_slices_ContainsFunc_types_of_1_slices_IndexFunc_types_of_1_L1 s_) 0
theorem g_types_of_slices_ContainsFunc_types_of_1_slices_IndexFunc_types_of_1_ok (hb : Base E E0 G) (he : ∀ w, E w → EnvV w) (r_types_common : List Val → Int → Option (Ty)) (r_types_of : Val → Int → Option (Ty)) (hr_types_common : ∀ (a0 : List Val) (a1 : Int) (r : Ty), r_types_common a0 a1 = some r → Pure E E0 Tryz.prog 69 [.cell (vL flV a0), .cell (vi a1)] (.one (.agg (aT r)))) (hr_types_of : ∀ (a0 : Val) (a1 : Int) (r : Ty), r_types_of a0 a1 = some r → Pure E E0 Tryz.prog 45 [.agg (aV a0), .cell (vi a1)] (.one (.agg (aT r)))) (s_ : List ByteArray) (r_ : Int) (hq : g_types_of_slices_ContainsFunc_types_of_1_slices_IndexFunc_types_of_1 r_types_common r_types_of s_ = some r_) :
    Pure E E0 Tryz.prog 89 [.cell (vL flS s_), .cell (.pv (.sc (.func (.func 71) #[] #[])))] (c1 (vi r_)) := by
  refine pure_L Tryz.func89 rfl ?_
  refine L_keepF [0, 1] (T' := sl 19 [(0, c1 (vL flS s_)), (1, c1 (.pv (.sc (.func (.func 71) #[] #[]))))]) (by kernel_rfl) ?_
  refine L_seq ?_
  refine L_regS hb [0, 1] (T' := sl 19 [(0, c1 (vL flS s_)), (1, c1 (.pv (.sc (.func (.func 71) #[] #[]))))]) (by kernel_rfl) ?_
  refine L_seq (L_seq ?_)
  refine L_regS hb [0, 1, 7, 8] (T' := sl 19 [(0, c1 (vL flS s_)), (1, c1 (.pv (.sc (.func (.func 71) #[] #[])))), (7, c1 (vi (s_.length : Int))), (8, c1 (vi 0))]) (by kernel_rfl) ?_
  refine L_block (fun K1 hA1 hB1 hC1 hD1 => ?_)
  refine L_backF [0, 1, 7, 8] [] 0 (T' := sl 19 [(0, c1 (vL flS s_)), (1, c1 (.pv (.sc (.func (.func 71) #[] #[])))), (7, c1 (vi (s_.length : Int))), (8, c1 (vi 0))]) (σ' := []) (by kernel_rfl) (by kernel_rfl) (by simp) (by kernel_rfl) trivial ?_
  refine L_as (by kernel_rfl) (by kernel_rfl) (L_loopO (body := (g_types_of_slices_ContainsFunc_types_of_1_slices_IndexFunc_types_of_1_L1 s_)) (fun s1 => sl 19 [(0, c1 (vL flS s_)), (1, c1 (.pv (.sc (.func (.func 71) #[] #[])))), (7, c1 (vi (s_.length : Int))), (8, c1 (vi s1))]) (fun s1 => []) (s0 := 0) (fun s1 x1 hq hn1 he1 => ?_) hq)
  refine L_seq ?_
  refine L_regS hb [0, 1, 7, 8, 9] (T' := sl 19 [(0, c1 (vL flS s_)), (1, c1 (.pv (.sc (.func (.func 71) #[] #[])))), (7, c1 (vi (s_.length : Int))), (8, c1 (vi s1)), (9, c1 (vB (decide (s1 < (s_.length : Int)))))]) (by kernel_rfl) ?_
  refine L_seq ?_
  refine L_if hb (b := (decide (s1 < (s_.length : Int)))) (by kernel_rfl) (fun hc1 => ?_) (fun hc1 => ?_)
  · replace hq := cond_t hc1 hq
    refine L_skip (L_seq (L_block (fun K2 hA2 hB2 hC2 hD2 => (L_seq ?_))))
    refine L_regS hb [0, 1, 5, 7, 8] (T' := sl 19 [(0, c1 (vL flS s_)), (1, c1 (.pv (.sc (.func (.func 71) #[] #[])))), (5, c1 (vi s1)), (7, c1 (vi (s_.length : Int))), (8, c1 (vi s1))]) (by kernel_rfl) ?_
    refine L_seq ?_
    refine L_regK hb [0, 1, 5, 7, 8, 16] (fun R hR => ?_)
    refine runDS 3 [(11, c1 (.pv (.sc (.func (.func 71) #[] #[])))), (12, c1 (vL flS s_)), (13, c1 (vi s1))] (by kernel_rfl) ?_
    obtain ⟨x2, hx2, hq⟩ := bind_inv hq
    refine idxF flS (d := some 14) hx2 (by kernel_rfl) ?_
    refine runPS 1 [(14, c1 (.pv (.pp (flS.c x2 ++ flS.f (List.drop (s1.toNat + 1) s_))))), (15, c1 (vS x2))] (by kernel_rfl) ?_
    obtain ⟨y3, hy3, hq⟩ := bind_inv hq
    refine callF (d := some 16) (by kernel_rfl) (g_types_of_1_ok hb he x2 y3 hy3) ?_
    refine lastKS (T' := sl 19 [(0, c1 (vL flS s_)), (1, c1 (.pv (.sc (.func (.func 71) #[] #[])))), (5, c1 (vi s1)), (7, c1 (vi (s_.length : Int))), (8, c1 (vi s1)), (16, c1 (vB y3))]) (by kernel_rfl) hR ?_
    refine L_if hb (b := y3) (by kernel_rfl) (fun hc4 => ?_) (fun hc4 => ?_)
    · replace hq := cond_t hc4 hq
      refine L_seq ?_
      refine L_regS hb [4] (T' := sl 19 [(4, c1 (vi s1))]) (by kernel_rfl) ?_
      refine L_ret (hD2 _ _ (hD1 _ _ ?_))
      have h0 := (Option.some.inj hq).symm
      replace h0 := he1 _ h0
      obtain rfl := h0
      exact end_ret (by kernel_rfl)
    · replace hq := cond_f hc4 hq
      refine L_skip (L_nil (hA2 _ _ ?_))
      refine L_regS hb [0, 1, 7, 8] (T' := sl 19 [(0, c1 (vL flS s_)), (1, c1 (.pv (.sc (.func (.func 71) #[] #[])))), (7, c1 (vi (s_.length : Int))), (8, c1 (vi (IntKind.i64.wrap (s1 + 1))))]) (by kernel_rfl) ?_
      refine L_backF [0, 1, 7, 8] [] 0 (T' := sl 19 [(0, c1 (vL flS s_)), (1, c1 (.pv (.sc (.func (.func 71) #[] #[])))), (7, c1 (vi (s_.length : Int))), (8, c1 (vi (IntKind.i64.wrap (s1 + 1))))]) (σ' := []) (by kernel_rfl) (by kernel_rfl) (by simp) (by kernel_rfl) trivial ?_
      have h0 := (Option.some.inj hq).symm
      exact L_as (by kernel_rfl) (by kernel_rfl) (hn1 _ h0)
  · replace hq := cond_f hc1 hq
    refine L_exit (hB1 _ _ (L_seq ?_))
    refine L_regS hb [4] (T' := sl 19 [(4, c1 (vi (-1)))]) (by kernel_rfl) ?_
    refine L_ret ?_
    have h0 := (Option.some.inj hq).symm
    replace h0 := he1 _ h0
    obtain rfl := h0
    exact end_ret (by kernel_rfl)
noncomputable def g_types_of_slices_ContainsFunc_types_of_1 (r_types_common : List Val → Int → Option (Ty)) (r_types_of : Val → Int → Option (Ty)) (s_ : List ByteArray) : Option (Bool) :=
  (g_types_of_slices_ContainsFunc_types_of_1_slices_IndexFunc_types_of_1 r_types_common r_types_of s_).bind fun y1 => some (decide (y1 ≥ 0))
theorem g_types_of_slices_ContainsFunc_types_of_1_ok (hb : Base E E0 G) (he : ∀ w, E w → EnvV w) (r_types_common : List Val → Int → Option (Ty)) (r_types_of : Val → Int → Option (Ty)) (hr_types_common : ∀ (a0 : List Val) (a1 : Int) (r : Ty), r_types_common a0 a1 = some r → Pure E E0 Tryz.prog 69 [.cell (vL flV a0), .cell (vi a1)] (.one (.agg (aT r)))) (hr_types_of : ∀ (a0 : Val) (a1 : Int) (r : Ty), r_types_of a0 a1 = some r → Pure E E0 Tryz.prog 45 [.agg (aV a0), .cell (vi a1)] (.one (.agg (aT r)))) (s_ : List ByteArray) (r_ : Bool) (hq : g_types_of_slices_ContainsFunc_types_of_1 r_types_common r_types_of s_ = some r_) :
    Pure E E0 Tryz.prog 70 [.cell (vL flS s_), .cell (.pv (.sc (.func (.func 71) #[] #[])))] (c1 (vB r_)) := by
  refine pure_L Tryz.func70 rfl ?_
  refine L_keepF [0, 1] (T' := sl 9 [(0, c1 (vL flS s_)), (1, c1 (.pv (.sc (.func (.func 71) #[] #[]))))]) (by kernel_rfl) ?_
  refine L_seq ?_
  refine L_regS hb [0, 1] (T' := sl 9 [(0, c1 (vL flS s_)), (1, c1 (.pv (.sc (.func (.func 71) #[] #[]))))]) (by kernel_rfl) ?_
  refine L_seq ?_
  refine L_regK hb [4] (fun R hR => ?_)
  refine runDS 2 [(5, c1 (vL flS s_)), (6, c1 (.pv (.sc (.func (.func 71) #[] #[]))))] (by kernel_rfl) ?_
  obtain ⟨y1, hy1, hq⟩ := bind_inv hq
  refine callF (d := some 7) (by kernel_rfl) (g_types_of_slices_ContainsFunc_types_of_1_slices_IndexFunc_types_of_1_ok hb he r_types_common r_types_of hr_types_common hr_types_of s_ y1 hy1) ?_
  refine lastKS (T' := sl 9 [(4, c1 (vB (decide (y1 ≥ 0))))]) (by kernel_rfl) hR ?_
  refine L_ret ?_
  have h0 := Option.some.inj hq
  obtain rfl := h0
  exact end_ret (by kernel_rfl)
noncomputable def g_types_of_L1 (r_types_of : Val → Int → Option (Ty)) (v_ : Val) (level_ : Int) (y11 : List ByteArray) (s1 : Int × List Ty) : Option ((Int × List Ty) ⊕ (Ty)) :=
  bif (decide (s1.1 < (v_.items.length : Int))) then (idx v_.items s1.1).bind fun x13 => (r_types_of x13 (IntKind.i64.wrap (level_ + 1))).bind fun y14 => (app 56 s1.2 [y14]).bind fun l15 => some (.inl ((IntKind.i64.wrap (s1.1 + 1)), l15)) else some (.inr (Ty.mk 6 s1.2 y11))
noncomputable def g_types_of (r_types_common : List Val → Int → Option (Ty)) (r_types_of : Val → Int → Option (Ty)) (v_ : Val) (level_ : Int) : Option (Ty) :=
  bif (decide (v_.kind = 1)) then some (Ty.mk 1 [] []) else bif (decide (v_.kind = 2)) then some (Ty.mk 2 [] []) else bif (decide (v_.kind = 3)) then some (Ty.mk 3 [] []) else bif (!decide (v_.kind = 4)) then bif (!decide (v_.kind = 5)) then some (Ty.mk 0 [] []) else bif (decide (level_ ≥ 32)) then some (Ty.mk 0 [] []) else (g_types_of_slices_ContainsFunc_types_of_1 r_types_common r_types_of v_.keys).bind fun y7 => bif y7 then (r_types_common v_.items (IntKind.i64.wrap (level_ + 1))).bind fun y9 => (g_types_one 5 y9).bind fun y10 => some (y10) else (clone 16 v_.keys).bind fun y11 => loopO (g_types_of_L1 r_types_of v_ level_ y11) (0, []) else bif (decide (level_ ≥ 32)) then some (Ty.mk 0 [] []) else (r_types_common v_.items (IntKind.i64.wrap (level_ + 1))).bind fun y17 => (g_types_one 4 y17).bind fun y18 => some (y18)
theorem g_types_of_ok (hb : Base E E0 G) (he : ∀ w, E w → EnvV w) (r_types_common : List Val → Int → Option (Ty)) (r_types_of : Val → Int → Option (Ty)) (hr_types_common : ∀ (a0 : List Val) (a1 : Int) (r : Ty), r_types_common a0 a1 = some r → Pure E E0 Tryz.prog 69 [.cell (vL flV a0), .cell (vi a1)] (.one (.agg (aT r)))) (hr_types_of : ∀ (a0 : Val) (a1 : Int) (r : Ty), r_types_of a0 a1 = some r → Pure E E0 Tryz.prog 45 [.agg (aV a0), .cell (vi a1)] (.one (.agg (aT r)))) (v_ : Val) (level_ : Int) (r_ : Ty) (hq : g_types_of r_types_common r_types_of v_ level_ = some r_) :
    Pure E E0 Tryz.prog 45 [.agg (aV v_), .cell (vi level_)] (.one (.agg (aT r_))) := by
  refine pure_L Tryz.func45 rfl ?_
  refine L_keepF [0, 1] (T' := sl 72 [(0, .one (.agg (aV v_))), (1, c1 (vi level_))]) (by kernel_rfl) ?_
  refine L_seq ?_
  refine L_regF hb [1, 2, 4] (T' := sl 72 [(1, c1 (vi level_)), (2, pt 0), (4, pt 1)]) (σ' := [bx (aV v_), bx [vi 0, vN, vN]]) (by kernel_rfl) ?_
  refine L_seq (L_seq ?_)
  refine L_regS hb [1, 2, 4, 9] (T' := sl 72 [(1, c1 (vi level_)), (2, pt 0), (4, pt 1), (9, c1 (vi v_.kind))]) (by kernel_rfl) ?_
  refine L_block (fun K1 hA1 hB1 hC1 hD1 => (L_seq ?_))
  refine L_regS hb [1, 2, 4, 9, 10] (T' := sl 72 [(1, c1 (vi level_)), (2, pt 0), (4, pt 1), (9, c1 (vi v_.kind)), (10, c1 (vB (decide (v_.kind = 1))))]) (by kernel_rfl) ?_
  refine L_if hb (b := (decide (v_.kind = 1))) (by kernel_rfl) (fun hc1 => ?_) (fun hc1 => ?_)
  · replace hq := cond_t hc1 hq
    refine L_seq ?_
    refine L_regF hb [4] (T' := sl 72 [(4, pt 1)]) (σ' := [bx (aV v_), bx [vi 1, vN, vN]]) (by kernel_rfl) ?_
    refine L_ret (hD1 _ _ ?_)
    have h0 := Option.some.inj hq
    obtain rfl := h0
    exact end_ret (by kernel_rfl)
  · replace hq := cond_f hc1 hq
    refine L_seq ?_
    refine L_regS hb [1, 2, 4, 9, 13] (T' := sl 72 [(1, c1 (vi level_)), (2, pt 0), (4, pt 1), (9, c1 (vi v_.kind)), (13, c1 (vB (decide (v_.kind = 2))))]) (by kernel_rfl) ?_
    refine L_if hb (b := (decide (v_.kind = 2))) (by kernel_rfl) (fun hc2 => ?_) (fun hc2 => ?_)
    · replace hq := cond_t hc2 hq
      refine L_seq ?_
      refine L_regF hb [4] (T' := sl 72 [(4, pt 1)]) (σ' := [bx (aV v_), bx [vi 2, vN, vN]]) (by kernel_rfl) ?_
      refine L_ret (hD1 _ _ ?_)
      have h0 := Option.some.inj hq
      obtain rfl := h0
      exact end_ret (by kernel_rfl)
    · replace hq := cond_f hc2 hq
      refine L_seq ?_
      refine L_regS hb [1, 2, 4, 16] (T' := sl 72 [(1, c1 (vi level_)), (2, pt 0), (4, pt 1), (16, c1 (vB (decide (v_.kind = 3))))]) (by kernel_rfl) ?_
      refine L_if hb (b := (decide (v_.kind = 3))) (by kernel_rfl) (fun hc3 => ?_) (fun hc3 => ?_)
      · replace hq := cond_t hc3 hq
        refine L_seq ?_
        refine L_regF hb [4] (T' := sl 72 [(4, pt 1)]) (σ' := [bx (aV v_), bx [vi 3, vN, vN]]) (by kernel_rfl) ?_
        refine L_ret (hD1 _ _ ?_)
        have h0 := Option.some.inj hq
        obtain rfl := h0
        exact end_ret (by kernel_rfl)
      · replace hq := cond_f hc3 hq
        refine L_skip (L_nil (hA1 _ _ (L_seq (L_seq ?_))))
        refine L_regK hb [1, 2, 4, 30] (fun R hR => ?_)
        refine runDS 4 [(19, pt 0), (20, c1 (vi v_.kind)), (21, c1 (vB (!decide (v_.kind = 4)))), (22, c1 (vB (!decide (v_.kind = 4))))] (by kernel_rfl) ?_
        refine partsD ((!decide (v_.kind = 4))) (fun zz => [(21, c1 (vB zz)), (22, c1 (vB zz))]) (by kernel_rfl) (fun hc4 => ?_) (fun hc4 => ?_)
        · replace hq := cond_t hc4 hq
          refine runDS 5 [(23, pt 0), (24, c1 (vi v_.kind)), (25, c1 (vB (!decide (v_.kind = 5)))), (26, c1 (vB (!decide (v_.kind = 5)))), (27, c1 (vB (!decide (v_.kind = 5))))] (by kernel_rfl) ?_
          refine partsD ((!decide (v_.kind = 5))) (fun zz => [(25, c1 (vB zz)), (26, c1 (vB zz)), (27, c1 (vB zz))]) (by kernel_rfl) (fun hc5 => ?_) (fun hc5 => ?_)
          · replace hq := cond_t hc5 hq
            refine lastKS (T' := sl 72 [(1, c1 (vi level_)), (2, pt 0), (4, pt 1), (30, c1 (vB true))]) (by kernel_rfl) hR ?_
            refine L_true hb (by kernel_rfl) (L_seq ?_)
            refine L_regS hb [4] (T' := sl 72 [(4, pt 1)]) (by kernel_rfl) ?_
            refine L_ret ?_
            have h0 := Option.some.inj hq
            obtain rfl := h0
            exact end_ret (by kernel_rfl)
          · replace hq := cond_f hc5 hq
            refine lastKS (T' := sl 72 [(1, c1 (vi level_)), (2, pt 0), (4, pt 1), (30, c1 (vB (decide (level_ ≥ 32))))]) (by kernel_rfl) hR ?_
            refine L_if hb (b := (decide (level_ ≥ 32))) (by kernel_rfl) (fun hc6 => ?_) (fun hc6 => ?_)
            · replace hq := cond_t hc6 hq
              refine L_seq ?_
              refine L_regS hb [4] (T' := sl 72 [(4, pt 1)]) (by kernel_rfl) ?_
              refine L_ret ?_
              have h0 := Option.some.inj hq
              obtain rfl := h0
              exact end_ret (by kernel_rfl)
            · replace hq := cond_f hc6 hq
              refine L_skip (L_seq (L_seq ?_))
              refine L_regS hb [1, 2, 4, 34] (T' := sl 72 [(1, c1 (vi level_)), (2, pt 0), (4, pt 1), (34, c1 (vB (decide (v_.kind = 4))))]) (by kernel_rfl) ?_
              refine L_ifF hb (b := (decide (v_.kind = 4))) (by kernel_rfl) (not_t hc4) ?_
              refine L_skip (L_seq (L_seq ?_))
              refine L_regK hb [1, 2, 4, 43] (fun R hR => ?_)
              refine runDS 2 [(41, c1 (.ptr 0 0 4)), (42, c1 (vL flS v_.keys))] (by kernel_rfl) ?_
              obtain ⟨y7, hy7, hq⟩ := bind_inv hq
              refine callF (d := some 43) (by kernel_rfl) (g_types_of_slices_ContainsFunc_types_of_1_ok hb he r_types_common r_types_of hr_types_common hr_types_of v_.keys y7 hy7) ?_
              refine lastKS (T' := sl 72 [(1, c1 (vi level_)), (2, pt 0), (4, pt 1), (43, c1 (vB y7))]) (by kernel_rfl) hR ?_
              refine L_if hb (b := y7) (by kernel_rfl) (fun hc8 => ?_) (fun hc8 => ?_)
              · replace hq := cond_t hc8 hq
                refine L_seq ?_
                refine L_regK hb [4] (fun R hR => ?_)
                refine runDS 4 [(44, c1 (.ptr 0 0 3)), (45, c1 (vL flV v_.items)), (46, c1 (vi level_)), (47, c1 (vi (IntKind.i64.wrap (level_ + 1))))] (by kernel_rfl) ?_
                obtain ⟨y9, hy9, hq⟩ := bind_inv hq
                refine callF (d := some 48) (by kernel_rfl) (hr_types_common v_.items (IntKind.i64.wrap (level_ + 1)) y9 hy9) ?_
                obtain ⟨y10, hy10, hq⟩ := bind_inv hq
                refine callF (d := some 49) (by kernel_rfl) (g_types_one_ok hb he 5 y9 y10 hy10) ?_
                refine lastK (T' := sl 72 [(4, pt 1)]) (σ' := [bx (aV v_), bx (aT y10)]) (by kernel_rfl) hR ?_
                refine L_ret ?_
                have h0 := Option.some.inj hq
                obtain rfl := h0
                exact end_ret (by kernel_rfl)
              · replace hq := cond_f hc8 hq
                refine L_skip (L_seq ?_)
                refine L_regK hb [1, 2, 4, 5] (fun R hR => ?_)
                refine runDS 2 [(50, c1 (.ptr 0 0 4)), (51, c1 (vL flS v_.keys))] (by kernel_rfl) ?_
                obtain ⟨y11, hy11, hq⟩ := bind_inv hq
                refine callF (d := some 52) (by kernel_rfl) (cloneK_g hb he v_.keys y11 hy11) ?_
                refine lastK (T' := sl 72 [(1, c1 (vi level_)), (2, pt 0), (4, pt 1), (5, pt 2)]) (σ' := [bx (aV v_), bx [vi 0, vN, vN], bx [vi 6, vN, vL flS y11]]) (by kernel_rfl) hR ?_
                refine L_seq (L_seq ?_)
                refine L_regS hb [1, 4, 5, 55, 56, 57] (T' := sl 72 [(1, c1 (vi level_)), (4, pt 1), (5, pt 2), (55, c1 (vL flV v_.items)), (56, c1 (vi (v_.items.length : Int))), (57, c1 (vi 0))]) (by kernel_rfl) ?_
                refine L_block (fun K1 hA1 hB1 hC1 hD1 => ?_)
                refine L_ownσ 2 1 3 (cs := [vi 6, vN, vL flS y11]) (by kernel_rfl) (by kernel_rfl) rfl ?_
                refine L_backF [1, 4, 5, 55, 56, 57] [0] 4 (T' := sl 72 [(1, c1 (vi level_)), (4, pt 1), (5, pt 2), (55, c1 (vL flV v_.items)), (56, c1 (vi (v_.items.length : Int))), (57, c1 (vi 0))]) (σ' := [none, bx [vi 0, vN, vN], bx [vi 6, vO flT 3 [], vL flS y11], some (arO true flT.sz ((flT.f []).length) (flT.f []))]) (by kernel_rfl) (by kernel_rfl) (by simp) (by kernel_rfl) ⟨rfl, (by kernel_rfl), (by kernel_rfl), (under_arO _ _ _ _ _), trivial⟩ ?_
                refine L_as (by kernel_rfl) (by kernel_rfl) (L_loopO (body := (g_types_of_L1 r_types_of v_ level_ y11)) (fun s1 => sl 72 [(1, c1 (vi level_)), (4, pt 1), (5, pt 2), (55, c1 (vL flV v_.items)), (56, c1 (vi (v_.items.length : Int))), (57, c1 (vi s1.1))]) (fun s1 => [none, bx [vi 0, vN, vN], bx [vi 6, vO flT 3 s1.2, vL flS y11], some (arO true flT.sz ((flT.f s1.2).length) (flT.f s1.2))]) (s0 := (0, [])) (fun s1 x1 hq hn1 he1 => ?_) hq)
                refine L_seq ?_
                refine L_regS hb [1, 4, 5, 55, 56, 57, 58] (T' := sl 72 [(1, c1 (vi level_)), (4, pt 1), (5, pt 2), (55, c1 (vL flV v_.items)), (56, c1 (vi (v_.items.length : Int))), (57, c1 (vi s1.1)), (58, c1 (vB (decide (s1.1 < (v_.items.length : Int)))))]) (by kernel_rfl) ?_
                refine L_seq ?_
                refine L_if hb (b := (decide (s1.1 < (v_.items.length : Int)))) (by kernel_rfl) (fun hc12 => ?_) (fun hc12 => ?_)
                · replace hq := cond_t hc12 hq
                  refine L_skip (L_seq (L_block (fun K2 hA2 hB2 hC2 hD2 => (L_seq ?_))))
                  refine L_regK hb [1, 4, 5, 7, 55, 56, 57] (fun R hR => ?_)
                  obtain ⟨x13, hx13, hq⟩ := bind_inv hq
                  refine idxF flV (d := some 59) hx13 (by kernel_rfl) ?_
                  refine lastK (T' := sl 72 [(1, c1 (vi level_)), (4, pt 1), (5, pt 2), (7, pt 4), (55, c1 (vL flV v_.items)), (56, c1 (vi (v_.items.length : Int))), (57, c1 (vi s1.1))]) (σ' := [none, bx [vi 0, vN, vN], bx [vi 6, vO flT 3 s1.2, vL flS y11], some (arO true flT.sz ((flT.f s1.2).length) (flT.f s1.2)), bx (aV x13)]) (by kernel_rfl) hR ?_
                  refine L_drwN hb mixed 7 (by kernel_rfl) (by kernel_rfl) (fun R hR => ?_)
                  refine runDS 5 [(61, c1 (.ptr 2 0 1)), (62, c1 (vO flT 3 s1.2)), (63, .one (.agg (aV x13))), (64, c1 (vi level_)), (65, c1 (vi (IntKind.i64.wrap (level_ + 1))))] (by kernel_rfl) ?_
                  obtain ⟨y14, hy14, hq⟩ := bind_inv hq
                  refine callF (d := some 66) (by kernel_rfl) (hr_types_of x13 (IntKind.i64.wrap (level_ + 1)) y14 hy14) ?_
                  refine lastFS (T' := sl 72 [(1, c1 (vi level_)), (4, pt 1), (5, pt 2), (7, pt 4), (55, c1 (vL flV v_.items)), (56, c1 (vi (v_.items.length : Int))), (57, c1 (vi s1.1)), (61, c1 (.ptr 2 0 1)), (62, c1 (vO flT 3 s1.2)), (63, .one (.agg (aV x13))), (64, c1 (vi level_)), (65, c1 (vi (IntKind.i64.wrap (level_ + 1)))), (66, .one (.agg (aT y14))), (67, c1 (.pv (.sl true 1 [pI .i64 y14.kind, pL flT y14.elems, pL flS y14.names])))]) (by kernel_rfl) ?_
                  obtain ⟨l15, hl15, hq⟩ := bind_inv hq
                  refine appOwnF flT (d := some 68) (id := 3) (s := .pv (.sl true 1 [pI .i64 y14.kind, pL flT y14.elems, pL flS y14.names])) (nb := true) (fr := (flT.f s1.2).length) hl15 (by kernel_rfl) (src_lit flT (flT.one y14) rfl) (by kernel_rfl) (Nat.le_refl _) ?_
                  refine lastF (T' := sl 72 [(1, c1 (vi level_)), (4, pt 1), (5, pt 2), (7, pt 4), (55, c1 (vL flV v_.items)), (56, c1 (vi (v_.items.length : Int))), (57, c1 (vi s1.1)), (61, c1 (.ptr 2 0 1)), (62, c1 (vO flT 3 s1.2)), (63, .one (.agg (aV x13))), (64, c1 (vi level_)), (65, c1 (vi (IntKind.i64.wrap (level_ + 1)))), (66, .one (.agg (aT y14))), (67, c1 (.pv (.sl true 1 [pI .i64 y14.kind, pL flT y14.elems, pL flS y14.names]))), (68, c1 (vO flT 3 l15)), (69, c1 (.ptr 2 0 1))]) (σ' := [none, bx [vi 0, vN, vN], bx [vi 6, vO flT 3 l15, vL flS y11], some (arO true flT.sz ((flT.f s1.2).length) (flT.f l15)), bx (aV x13)]) (by kernel_rfl) (hR _ _ ?_)
                  refine L_nil (hA2 _ _ ?_)
                  refine L_regS hb [1, 4, 5, 55, 56, 57] (T' := sl 72 [(1, c1 (vi level_)), (4, pt 1), (5, pt 2), (55, c1 (vL flV v_.items)), (56, c1 (vi (v_.items.length : Int))), (57, c1 (vi (IntKind.i64.wrap (s1.1 + 1))))]) (by kernel_rfl) ?_
                  refine L_mark 3 (nb := true) (cs := flT.f l15) rfl (app_le flT hl15) ?_
                  refine L_backF [1, 4, 5, 55, 56, 57] [] 4 (T' := sl 72 [(1, c1 (vi level_)), (4, pt 1), (5, pt 2), (55, c1 (vL flV v_.items)), (56, c1 (vi (v_.items.length : Int))), (57, c1 (vi (IntKind.i64.wrap (s1.1 + 1))))]) (σ' := [none, bx [vi 0, vN, vN], bx [vi 6, vO flT 3 l15, vL flS y11], some (arO true flT.sz ((flT.f l15).length) (flT.f l15))]) (by kernel_rfl) (by kernel_rfl) (by simp) (by kernel_rfl) ⟨rfl, (by kernel_rfl), (by kernel_rfl), (under_arO _ _ _ _ _), trivial⟩ ?_
                  have h0 := (Option.some.inj hq).symm
                  exact L_as (by kernel_rfl) (by kernel_rfl) (hn1 _ h0)
                · replace hq := cond_f hc12 hq
                  refine L_exit (hB1 _ _ (L_seq ?_))
                  refine L_regF hb [4] (T' := sl 72 [(4, pt 1)]) (σ' := [none, bx [vi 6, vO flT 3 s1.2, vL flS y11], bx [vi 6, vO flT 3 s1.2, vL flS y11], some (arO true flT.sz ((flT.f s1.2).length) (flT.f s1.2))]) (by kernel_rfl) ?_
                  refine L_cellσ 1 1 (cs := [vi 6, vO flT 3 s1.2, vL flS y11]) (c := vO flT 3 s1.2) (by kernel_rfl) (by kernel_rfl) (conv_own flT (nb := true) (id := 3) (xs := s1.2) (by kernel_rfl)) ?_
                  refine L_ret ?_
                  have h0 := (Option.some.inj hq).symm
                  replace h0 := he1 _ h0
                  obtain rfl := h0
                  exact end_ret (by kernel_rfl)
        · replace hq := cond_f hc4 hq
          refine lastKS (T' := sl 72 [(1, c1 (vi level_)), (2, pt 0), (4, pt 1), (30, c1 (vB (decide (level_ ≥ 32))))]) (by kernel_rfl) hR ?_
          refine L_if hb (b := (decide (level_ ≥ 32))) (by kernel_rfl) (fun hc16 => ?_) (fun hc16 => ?_)
          · replace hq := cond_t hc16 hq
            refine L_seq ?_
            refine L_regS hb [4] (T' := sl 72 [(4, pt 1)]) (by kernel_rfl) ?_
            refine L_ret ?_
            have h0 := Option.some.inj hq
            obtain rfl := h0
            exact end_ret (by kernel_rfl)
          · replace hq := cond_f hc16 hq
            refine L_skip (L_seq (L_seq ?_))
            refine L_regS hb [1, 2, 4, 34] (T' := sl 72 [(1, c1 (vi level_)), (2, pt 0), (4, pt 1), (34, c1 (vB (decide (v_.kind = 4))))]) (by kernel_rfl) ?_
            refine L_ifT hb (b := (decide (v_.kind = 4))) (by kernel_rfl) (not_f hc4) ?_
            refine L_seq ?_
            refine L_regK hb [4] (fun R hR => ?_)
            refine runDS 4 [(35, c1 (.ptr 0 0 3)), (36, c1 (vL flV v_.items)), (37, c1 (vi level_)), (38, c1 (vi (IntKind.i64.wrap (level_ + 1))))] (by kernel_rfl) ?_
            obtain ⟨y17, hy17, hq⟩ := bind_inv hq
            refine callF (d := some 39) (by kernel_rfl) (hr_types_common v_.items (IntKind.i64.wrap (level_ + 1)) y17 hy17) ?_
            obtain ⟨y18, hy18, hq⟩ := bind_inv hq
            refine callF (d := some 40) (by kernel_rfl) (g_types_one_ok hb he 4 y17 y18 hy18) ?_
            refine lastK (T' := sl 72 [(4, pt 1)]) (σ' := [bx (aV v_), bx (aT y18)]) (by kernel_rfl) hR ?_
            refine L_ret ?_
            have h0 := Option.some.inj hq
            obtain rfl := h0
            exact end_ret (by kernel_rfl)
noncomputable def t_types_of_step (rec : Val → Int → Option (Ty)) (a : Val) (b : Int) : Option (Ty) :=
  g_types_of (g_types_common (fun a0 a1 => rec a0 a1)) (fun a0 a1 => rec a0 a1) a b
noncomputable def t_types_of (a0 : Val) (a1 : Int) : Option (Ty) := tieF relV wfV t_types_of_step a0 a1
theorem t_types_of_ok (hb : Base E E0 G) (he : ∀ w, E w → EnvV w) (a0 : Val) (a1 : Int) (r : Ty) (hq : t_types_of a0 a1 = some r) : Pure E E0 Tryz.prog 45 [.agg (aV a0), .cell (vi a1)] (.one (.agg (aT r))) :=
  tieF_ok (C := fun a b r => Pure E E0 Tryz.prog 45 [.agg (aV a), .cell (vi b)] (.one (.agg (aT r)))) (fun rec hr a b r hq => g_types_of_ok hb he (g_types_common (fun a0 a1 => rec a0 a1)) (fun a0 a1 => rec a0 a1) (g_types_common_ok hb he (fun a0 a1 => rec a0 a1) (fun a0 a1 r e => hr a0 a1 r e)) (fun a0 a1 r e => hr a0 a1 r e) a b r hq) a0 a1 r hq
noncomputable def t_types_common (a0 : List Val) (a1 : Int) : Option (Ty) := (g_types_common t_types_of) a0 a1
theorem t_types_common_ok (hb : Base E E0 G) (he : ∀ w, E w → EnvV w) (a0 : List Val) (a1 : Int) (r : Ty) (hq : t_types_common a0 a1 = some r) : Pure E E0 Tryz.prog 69 [.cell (vL flV a0), .cell (vi a1)] (.one (.agg (aT r))) :=
  g_types_common_ok hb he t_types_of (t_types_of_ok hb he) a0 a1 r hq
noncomputable def g_types_Of  (v_ : Val) : Option (Ty) :=
  (t_types_of v_ 1).bind fun y1 => some (y1)
theorem g_types_Of_ok (hb : Base E E0 G) (he : ∀ w, E w → EnvV w)   (v_ : Val) (r_ : Ty) (hq : g_types_Of v_ = some r_) :
    Pure E E0 Tryz.prog 26 [.agg (aV v_)] (.one (.agg (aT r_))) := by
  refine pure_L Tryz.func26 rfl ?_
  refine L_keepF [0] (T' := sl 5 [(0, .one (.agg (aV v_)))]) (by kernel_rfl) ?_
  refine L_seq ?_
  refine L_regF hb [1, 2] (T' := sl 5 [(1, pt 0), (2, pt 1)]) (σ' := [bx (aV v_), bx [vi 0, vN, vN]]) (by kernel_rfl) ?_
  refine L_seq ?_
  refine L_regK hb [2] (fun R hR => ?_)
  refine runDS 1 [(3, .one (.agg (aV v_)))] (by kernel_rfl) ?_
  obtain ⟨y1, hy1, hq⟩ := bind_inv hq
  refine callF (d := some 4) (by kernel_rfl) (t_types_of_ok hb he v_ 1 y1 hy1) ?_
  refine lastK (T' := sl 5 [(2, pt 1)]) (σ' := [bx (aV v_), bx (aT y1)]) (by kernel_rfl) hR ?_
  refine L_ret ?_
  have h0 := Option.some.inj hq
  obtain rfl := h0
  exact end_ret (by kernel_rfl)
noncomputable def g_value_Equal_slices_EqualFunc_value_Equal_L1 (r_value_Equal : Val → Val → Option (Bool)) (s1_ : List Val) (s2_ : List Val) (s1 : Int) : Option ((Int) ⊕ (Bool)) :=
  bif (decide (s1 < (s1_.length : Int))) then (idx s1_ s1).bind fun x3 => (idx s2_ s1).bind fun x4 => (r_value_Equal x3 x4).bind fun y5 => bif (!y5) then some (.inr (false)) else some (.inl (IntKind.i64.wrap (s1 + 1))) else some (.inr (true))
noncomputable def g_value_Equal_slices_EqualFunc_value_Equal (r_value_Equal : Val → Val → Option (Bool)) (s1_ : List Val) (s2_ : List Val) : Option (Bool) :=
  bif (!decide ((s1_.length : Int) = (s2_.length : Int))) then some (false) else loopO (g_value_Equal_slices_EqualFunc_value_Equal_L1 r_value_Equal s1_ s2_) 0
theorem g_value_Equal_slices_EqualFunc_value_Equal_ok (hb : Base E E0 G) (he : ∀ w, E w → EnvV w) (r_value_Equal : Val → Val → Option (Bool)) (hr_value_Equal : ∀ (a0 : Val) (a1 : Val) (r : Bool), r_value_Equal a0 a1 = some r → Pure E E0 Tryz.prog 27 [.agg (aV a0), .agg (aV a1)] (c1 (vB r))) (s1_ : List Val) (s2_ : List Val) (r_ : Bool) (hq : g_value_Equal_slices_EqualFunc_value_Equal r_value_Equal s1_ s2_ = some r_) :
    Pure E E0 Tryz.prog 47 [.cell (vL flV s1_), .cell (vL flV s2_), .cell (.pv (.sc (.func (.func 27) #[] #[])))] (c1 (vB r_)) := by
  refine pure_L Tryz.func47 rfl ?_
  refine L_keepF [0, 1, 2] (T' := sl 32 [(0, c1 (vL flV s1_)), (1, c1 (vL flV s2_)), (2, c1 (.pv (.sc (.func (.func 27) #[] #[]))))]) (by kernel_rfl) ?_
  refine L_seq ?_
  refine L_regS hb [0, 1, 2] (T' := sl 32 [(0, c1 (vL flV s1_)), (1, c1 (vL flV s2_)), (2, c1 (.pv (.sc (.func (.func 27) #[] #[]))))]) (by kernel_rfl) ?_
  refine L_seq (L_seq ?_)
  refine L_regS hb [0, 1, 2, 14] (T' := sl 32 [(0, c1 (vL flV s1_)), (1, c1 (vL flV s2_)), (2, c1 (.pv (.sc (.func (.func 27) #[] #[])))), (14, c1 (vB (!decide ((s1_.length : Int) = (s2_.length : Int)))))]) (by kernel_rfl) ?_
  refine L_if hb (b := (!decide ((s1_.length : Int) = (s2_.length : Int)))) (by kernel_rfl) (fun hc1 => ?_) (fun hc1 => ?_)
  · replace hq := cond_t hc1 hq
    refine L_seq ?_
    refine L_regS hb [6] (T' := sl 32 [(6, c1 (vB false))]) (by kernel_rfl) ?_
    refine L_ret ?_
    have h0 := Option.some.inj hq
    obtain rfl := h0
    exact end_ret (by kernel_rfl)
  · replace hq := cond_f hc1 hq
    refine L_skip (L_seq (L_seq ?_))
    refine L_regS hb [1, 2, 15, 16, 17] (T' := sl 32 [(1, c1 (vL flV s2_)), (2, c1 (.pv (.sc (.func (.func 27) #[] #[])))), (15, c1 (vL flV s1_)), (16, c1 (vi (s1_.length : Int))), (17, c1 (vi 0))]) (by kernel_rfl) ?_
    refine L_block (fun K1 hA1 hB1 hC1 hD1 => ?_)
    refine L_backF [1, 2, 15, 16, 17] [] 0 (T' := sl 32 [(1, c1 (vL flV s2_)), (2, c1 (.pv (.sc (.func (.func 27) #[] #[])))), (15, c1 (vL flV s1_)), (16, c1 (vi (s1_.length : Int))), (17, c1 (vi 0))]) (σ' := []) (by kernel_rfl) (by kernel_rfl) (by simp) (by kernel_rfl) trivial ?_
    refine L_as (by kernel_rfl) (by kernel_rfl) (L_loopO (body := (g_value_Equal_slices_EqualFunc_value_Equal_L1 r_value_Equal s1_ s2_)) (fun s1 => sl 32 [(1, c1 (vL flV s2_)), (2, c1 (.pv (.sc (.func (.func 27) #[] #[])))), (15, c1 (vL flV s1_)), (16, c1 (vi (s1_.length : Int))), (17, c1 (vi s1))]) (fun s1 => []) (s0 := 0) (fun s1 x1 hq hn1 he1 => ?_) hq)
    refine L_seq ?_
    refine L_regS hb [1, 2, 15, 16, 17, 18] (T' := sl 32 [(1, c1 (vL flV s2_)), (2, c1 (.pv (.sc (.func (.func 27) #[] #[])))), (15, c1 (vL flV s1_)), (16, c1 (vi (s1_.length : Int))), (17, c1 (vi s1)), (18, c1 (vB (decide (s1 < (s1_.length : Int)))))]) (by kernel_rfl) ?_
    refine L_seq ?_
    refine L_if hb (b := (decide (s1 < (s1_.length : Int)))) (by kernel_rfl) (fun hc2 => ?_) (fun hc2 => ?_)
    · replace hq := cond_t hc2 hq
      refine L_skip (L_seq (L_block (fun K2 hA2 hB2 hC2 hD2 => (L_seq ?_))))
      refine L_regK hb [1, 2, 7, 8, 15, 16, 17] (fun R hR => ?_)
      refine runDS 1 [(19, c1 (vi s1))] (by kernel_rfl) ?_
      obtain ⟨x3, hx3, hq⟩ := bind_inv hq
      refine idxF flV (d := some 20) hx3 (by kernel_rfl) ?_
      refine lastK (T' := sl 32 [(1, c1 (vL flV s2_)), (2, c1 (.pv (.sc (.func (.func 27) #[] #[])))), (7, c1 (vi s1)), (8, pt 0), (15, c1 (vL flV s1_)), (16, c1 (vi (s1_.length : Int))), (17, c1 (vi s1))]) (σ' := [bx (aV x3)]) (by kernel_rfl) hR ?_
      refine L_seq ?_
      refine L_regK hb [1, 2, 8, 9, 15, 16, 17] (fun R hR => ?_)
      refine runDS 2 [(22, c1 (vL flV s2_)), (23, c1 (vi s1))] (by kernel_rfl) ?_
      obtain ⟨x4, hx4, hq⟩ := bind_inv hq
      refine idxF flV (d := some 24) hx4 (by kernel_rfl) ?_
      refine lastK (T' := sl 32 [(1, c1 (vL flV s2_)), (2, c1 (.pv (.sc (.func (.func 27) #[] #[])))), (8, pt 0), (9, pt 1), (15, c1 (vL flV s1_)), (16, c1 (vi (s1_.length : Int))), (17, c1 (vi s1))]) (σ' := [bx (aV x3), bx (aV x4)]) (by kernel_rfl) hR ?_
      refine L_seq ?_
      refine L_regK hb [1, 2, 15, 16, 17, 30] (fun R hR => ?_)
      refine runDS 3 [(26, c1 (.pv (.sc (.func (.func 27) #[] #[])))), (27, .one (.agg (aV x3))), (28, .one (.agg (aV x4)))] (by kernel_rfl) ?_
      obtain ⟨y5, hy5, hq⟩ := bind_inv hq
      refine callF (d := some 29) (by kernel_rfl) (hr_value_Equal x3 x4 y5 hy5) ?_
      refine lastKS (T' := sl 32 [(1, c1 (vL flV s2_)), (2, c1 (.pv (.sc (.func (.func 27) #[] #[])))), (15, c1 (vL flV s1_)), (16, c1 (vi (s1_.length : Int))), (17, c1 (vi s1)), (30, c1 (vB (!y5)))]) (by kernel_rfl) hR ?_
      refine L_if hb (b := (!y5)) (by kernel_rfl) (fun hc6 => ?_) (fun hc6 => ?_)
      · replace hq := cond_t hc6 hq
        refine L_seq ?_
        refine L_regS hb [6] (T' := sl 32 [(6, c1 (vB false))]) (by kernel_rfl) ?_
        refine L_ret (hD2 _ _ (hD1 _ _ ?_))
        have h0 := (Option.some.inj hq).symm
        replace h0 := he1 _ h0
        obtain rfl := h0
        exact end_ret (by kernel_rfl)
      · replace hq := cond_f hc6 hq
        refine L_skip (L_nil (hA2 _ _ ?_))
        refine L_regS hb [1, 2, 15, 16, 17] (T' := sl 32 [(1, c1 (vL flV s2_)), (2, c1 (.pv (.sc (.func (.func 27) #[] #[])))), (15, c1 (vL flV s1_)), (16, c1 (vi (s1_.length : Int))), (17, c1 (vi (IntKind.i64.wrap (s1 + 1))))]) (by kernel_rfl) ?_
        refine L_backF [1, 2, 15, 16, 17] [] 0 (T' := sl 32 [(1, c1 (vL flV s2_)), (2, c1 (.pv (.sc (.func (.func 27) #[] #[])))), (15, c1 (vL flV s1_)), (16, c1 (vi (s1_.length : Int))), (17, c1 (vi (IntKind.i64.wrap (s1 + 1))))]) (σ' := []) (by kernel_rfl) (by kernel_rfl) (by simp) (by kernel_rfl) trivial ?_
        have h0 := (Option.some.inj hq).symm
        exact L_as (by kernel_rfl) (by kernel_rfl) (hn1 _ h0)
    · replace hq := cond_f hc2 hq
      refine L_exit (hB1 _ _ (L_seq ?_))
      refine L_regS hb [6] (T' := sl 32 [(6, c1 (vB true))]) (by kernel_rfl) ?_
      refine L_ret ?_
      have h0 := (Option.some.inj hq).symm
      replace h0 := he1 _ h0
      obtain rfl := h0
      exact end_ret (by kernel_rfl)
noncomputable def g_value_Equal (r_value_Equal : Val → Val → Option (Bool)) (a_ : Val) (b_ : Val) : Option (Bool) :=
  bif (decide (a_.kind = b_.kind)) then bif (decide (a_.num = b_.num)) then bif (decide (a_.str = b_.str)) then (g_slices_Equal a_.keys b_.keys).bind fun y4 => bif y4 then (g_value_Equal_slices_EqualFunc_value_Equal r_value_Equal a_.items b_.items).bind fun y6 => some (y6) else some (false) else some (false) else some (false) else some (false)
theorem g_value_Equal_ok (hb : Base E E0 G) (he : ∀ w, E w → EnvV w) (r_value_Equal : Val → Val → Option (Bool)) (hr_value_Equal : ∀ (a0 : Val) (a1 : Val) (r : Bool), r_value_Equal a0 a1 = some r → Pure E E0 Tryz.prog 27 [.agg (aV a0), .agg (aV a1)] (c1 (vB r))) (a_ : Val) (b_ : Val) (r_ : Bool) (hq : g_value_Equal r_value_Equal a_ b_ = some r_) :
    Pure E E0 Tryz.prog 27 [.agg (aV a_), .agg (aV b_)] (c1 (vB r_)) := by
  refine pure_L Tryz.func27 rfl ?_
  refine L_keepF [0, 1] (T' := sl 38 [(0, .one (.agg (aV a_))), (1, .one (.agg (aV b_)))]) (by kernel_rfl) ?_
  refine L_seq ?_
  refine L_regF hb [2, 3] (T' := sl 38 [(2, pt 0), (3, pt 1)]) (σ' := [bx (aV a_), bx (aV b_)]) (by kernel_rfl) ?_
  refine L_seq ?_
  refine L_regK hb [4] (fun R hR => ?_)
  refine runDS 6 [(5, pt 0), (6, c1 (vi a_.kind)), (7, pt 1), (8, c1 (vi b_.kind)), (9, c1 (vB (decide (a_.kind = b_.kind)))), (10, c1 (vB (decide (a_.kind = b_.kind))))] (by kernel_rfl) ?_
  refine partsD ((decide (a_.kind = b_.kind))) (fun zz => [(9, c1 (vB zz)), (10, c1 (vB zz))]) (by kernel_rfl) (fun hc1 => ?_) (fun hc1 => ?_)
  · replace hq := cond_t hc1 hq
    refine runDS 7 [(11, c1 (.ptr 0 0 1)), (12, c1 (vi a_.num)), (13, c1 (.ptr 1 0 1)), (14, c1 (vi b_.num)), (15, c1 (vB (decide (a_.num = b_.num)))), (16, c1 (vB (decide (a_.num = b_.num)))), (17, c1 (vB (decide (a_.num = b_.num))))] (by kernel_rfl) ?_
    refine partsD ((decide (a_.num = b_.num))) (fun zz => [(15, c1 (vB zz)), (16, c1 (vB zz)), (17, c1 (vB zz))]) (by kernel_rfl) (fun hc2 => ?_) (fun hc2 => ?_)
    · replace hq := cond_t hc2 hq
      refine runDS 7 [(18, c1 (.ptr 0 0 2)), (19, c1 (vS a_.str)), (20, c1 (.ptr 1 0 2)), (21, c1 (vS b_.str)), (22, c1 (vB (decide (a_.str = b_.str)))), (23, c1 (vB (decide (a_.str = b_.str)))), (24, c1 (vB (decide (a_.str = b_.str))))] (by kernel_rfl) ?_
      refine partsD ((decide (a_.str = b_.str))) (fun zz => [(22, c1 (vB zz)), (23, c1 (vB zz)), (24, c1 (vB zz))]) (by kernel_rfl) (fun hc3 => ?_) (fun hc3 => ?_)
      · replace hq := cond_t hc3 hq
        refine runDS 4 [(25, c1 (.ptr 0 0 4)), (26, c1 (vL flS a_.keys)), (27, c1 (.ptr 1 0 4)), (28, c1 (vL flS b_.keys))] (by kernel_rfl) ?_
        obtain ⟨y4, hy4, hq⟩ := bind_inv hq
        refine callF (d := some 29) (by kernel_rfl) (g_slices_Equal_ok hb he a_.keys b_.keys y4 hy4) ?_
        refine runPS 2 [(29, c1 (vB y4)), (30, c1 (vB y4)), (31, c1 (vB y4))] (by kernel_rfl) ?_
        refine partsD (y4) (fun zz => [(29, c1 (vB zz)), (30, c1 (vB zz)), (31, c1 (vB zz))]) (by kernel_rfl) (fun hc5 => ?_) (fun hc5 => ?_)
        · replace hq := cond_t hc5 hq
          refine runDS 4 [(32, c1 (.ptr 0 0 3)), (33, c1 (vL flV a_.items)), (34, c1 (.ptr 1 0 3)), (35, c1 (vL flV b_.items))] (by kernel_rfl) ?_
          obtain ⟨y6, hy6, hq⟩ := bind_inv hq
          refine callF (d := some 36) (by kernel_rfl) (g_value_Equal_slices_EqualFunc_value_Equal_ok hb he r_value_Equal hr_value_Equal a_.items b_.items y6 hy6) ?_
          refine lastKS (T' := sl 38 [(4, c1 (vB y6))]) (by kernel_rfl) hR ?_
          refine L_ret ?_
          have h0 := Option.some.inj hq
          obtain rfl := h0
          exact end_ret (by kernel_rfl)
        · replace hq := cond_f hc5 hq
          refine lastKS (T' := sl 38 [(4, c1 (vB false))]) (by kernel_rfl) hR ?_
          refine L_ret ?_
          have h0 := Option.some.inj hq
          obtain rfl := h0
          exact end_ret (by kernel_rfl)
      · replace hq := cond_f hc3 hq
        refine lastKS (T' := sl 38 [(4, c1 (vB false))]) (by kernel_rfl) hR ?_
        refine L_ret ?_
        have h0 := Option.some.inj hq
        obtain rfl := h0
        exact end_ret (by kernel_rfl)
    · replace hq := cond_f hc2 hq
      refine lastKS (T' := sl 38 [(4, c1 (vB false))]) (by kernel_rfl) hR ?_
      refine L_ret ?_
      have h0 := Option.some.inj hq
      obtain rfl := h0
      exact end_ret (by kernel_rfl)
  · replace hq := cond_f hc1 hq
    refine lastKS (T' := sl 38 [(4, c1 (vB false))]) (by kernel_rfl) hR ?_
    refine L_ret ?_
    have h0 := Option.some.inj hq
    obtain rfl := h0
    exact end_ret (by kernel_rfl)
noncomputable def t_value_Equal_step (rec : Val → Val → Option (Bool)) (a : Val) (b : Val) : Option (Bool) :=
  g_value_Equal (fun a0 a1 => rec a0 a1) a b
noncomputable def t_value_Equal (a0 : Val) (a1 : Val) : Option (Bool) := tieF relV wfV t_value_Equal_step a0 a1
theorem t_value_Equal_ok (hb : Base E E0 G) (he : ∀ w, E w → EnvV w) (a0 : Val) (a1 : Val) (r : Bool) (hq : t_value_Equal a0 a1 = some r) : Pure E E0 Tryz.prog 27 [.agg (aV a0), .agg (aV a1)] (c1 (vB r)) :=
  tieF_ok (C := fun a b r => Pure E E0 Tryz.prog 27 [.agg (aV a), .agg (aV b)] (c1 (vB r))) (fun rec hr a b r hq => g_value_Equal_ok hb he (fun a0 a1 => rec a0 a1) (fun a0 a1 r e => hr a0 a1 r e) a b r hq) a0 a1 r hq
noncomputable def g_convert_Lossless  (v_ : Val) (t_ : Ty) : Option (Bool) :=
  (g_convert_To v_ t_).bind fun y1 => bif (!decide (y1.2 = 0)) then some (false) else (g_types_Of v_).bind fun y3 => (g_convert_To y1.1 y3).bind fun y4 => bif (decide (y4.2 = 0)) then (t_value_Equal y4.1 v_).bind fun y6 => some (y6) else some (false)
theorem g_convert_Lossless_ok (hb : Base E E0 G) (he : ∀ w, E w → EnvV w)   (v_ : Val) (t_ : Ty) (r_ : Bool) (hq : g_convert_Lossless v_ t_ = some r_) :
    Pure E E0 Tryz.prog 14 [.agg (aV v_), .agg (aT t_)] (c1 (vB r_)) := by
  refine pure_L Tryz.func14 rfl ?_
  refine L_keepF [0, 1] (T' := sl 30 [(0, .one (.agg (aV v_))), (1, .one (.agg (aT t_)))]) (by kernel_rfl) ?_
  refine L_seq ?_
  refine L_regF hb [2, 3] (T' := sl 30 [(2, pt 0), (3, pt 1)]) (σ' := [bx (aV v_), bx (aT t_)]) (by kernel_rfl) ?_
  refine L_seq ?_
  refine L_regK hb [2, 5, 6] (fun R hR => ?_)
  refine runDS 2 [(9, .one (.agg (aV v_))), (10, .one (.agg (aT t_)))] (by kernel_rfl) ?_
  obtain ⟨y1, hy1, hq⟩ := bind_inv hq
  refine callF (d := some 11) (by kernel_rfl) (g_convert_To_ok hb he v_ t_ y1 hy1) ?_
  refine lastK (T' := sl 30 [(2, pt 0), (5, pt 2), (6, c1 (vi y1.2))]) (σ' := [bx (aV v_), bx (aT t_), bx (aV y1.1)]) (by kernel_rfl) hR ?_
  refine L_seq (L_seq ?_)
  refine L_regS hb [2, 5, 15] (T' := sl 30 [(2, pt 0), (5, pt 2), (15, c1 (vB (!decide (y1.2 = 0))))]) (by kernel_rfl) ?_
  refine L_if hb (b := (!decide (y1.2 = 0))) (by kernel_rfl) (fun hc2 => ?_) (fun hc2 => ?_)
  · replace hq := cond_t hc2 hq
    refine L_seq ?_
    refine L_regS hb [4] (T' := sl 30 [(4, c1 (vB false))]) (by kernel_rfl) ?_
    refine L_ret ?_
    have h0 := Option.some.inj hq
    obtain rfl := h0
    exact end_ret (by kernel_rfl)
  · replace hq := cond_f hc2 hq
    refine L_skip (L_seq ?_)
    refine L_drwK hb mixed [2, 6, 7] 8 (by kernel_rfl) (by kernel_rfl) (fun R hR => ?_)
    refine runDS 2 [(17, .one (.agg (aV y1.1))), (18, .one (.agg (aV v_)))] (by kernel_rfl) ?_
    obtain ⟨y3, hy3, hq⟩ := bind_inv hq
    refine callF (d := some 19) (by kernel_rfl) (g_types_Of_ok hb he v_ y3 hy3) ?_
    obtain ⟨y4, hy4, hq⟩ := bind_inv hq
    refine callF (d := some 20) (by kernel_rfl) (g_convert_To_ok hb he y1.1 y3 y4 hy4) ?_
    refine lastF (T' := sl 30 [(2, pt 0), (5, pt 2), (7, pt 3), (15, c1 (vB (!decide (y1.2 = 0)))), (16, .tup [.agg (aV y4.1), .cell (vi y4.2)]), (17, .one (.agg (aV y1.1))), (18, .one (.agg (aV v_))), (19, .one (.agg (aT y3))), (20, .tup [.agg (aV y4.1), .cell (vi y4.2)]), (21, .one (.agg (aV y4.1))), (22, c1 (vi y4.2))]) (σ' := [bx (aV v_), bx (aT t_), bx (aV y1.1), bx zV]) (by kernel_rfl) ?_
    refine lastK (T' := sl 30 [(2, pt 0), (6, c1 (vi y4.2)), (7, pt 3)]) (σ' := [bx (aV v_), bx (aT t_), bx (aV y1.1), bx (aV y4.1)]) (by kernel_rfl) hR ?_
    refine L_seq ?_
    refine L_regK hb [4] (fun R hR => ?_)
    refine runDS 3 [(23, c1 (vi y4.2)), (24, c1 (vB (decide (y4.2 = 0)))), (25, c1 (vB (decide (y4.2 = 0))))] (by kernel_rfl) ?_
    refine partsD ((decide (y4.2 = 0))) (fun zz => [(24, c1 (vB zz)), (25, c1 (vB zz))]) (by kernel_rfl) (fun hc5 => ?_) (fun hc5 => ?_)
    · replace hq := cond_t hc5 hq
      refine runDS 2 [(26, .one (.agg (aV y4.1))), (27, .one (.agg (aV v_)))] (by kernel_rfl) ?_
      obtain ⟨y6, hy6, hq⟩ := bind_inv hq
      refine callF (d := some 28) (by kernel_rfl) (t_value_Equal_ok hb he y4.1 v_ y6 hy6) ?_
      refine lastKS (T' := sl 30 [(4, c1 (vB y6))]) (by kernel_rfl) hR ?_
      refine L_ret ?_
      have h0 := Option.some.inj hq
      obtain rfl := h0
      exact end_ret (by kernel_rfl)
    · replace hq := cond_f hc5 hq
      refine lastKS (T' := sl 30 [(4, c1 (vB false))]) (by kernel_rfl) hR ?_
      refine L_ret ?_
      have h0 := Option.some.inj hq
      obtain rfl := h0
      exact end_ret (by kernel_rfl)
noncomputable def g_r10_same_L1 (a_ : List ByteArray) (b_ : List ByteArray) (s1 : Int) : Option ((Int) ⊕ (Bool)) :=
  bif (decide (s1 < (a_.length : Int))) then (idx a_ s1).bind fun x3 => (idx b_ s1).bind fun x4 => bif (!decide (x3 = x4)) then some (.inr (false)) else some (.inl (IntKind.i64.wrap (s1 + 1))) else some (.inr (true))
noncomputable def g_r10_same  (a_ : List ByteArray) (b_ : List ByteArray) : Option (Bool) :=
  bif (!decide ((a_.length : Int) = (b_.length : Int))) then some (false) else loopO (g_r10_same_L1 a_ b_) 0
theorem g_r10_same_ok (hb : Base E E0 G) (he : ∀ w, E w → EnvV w)   (a_ : List ByteArray) (b_ : List ByteArray) (r_ : Bool) (hq : g_r10_same a_ b_ = some r_) :
    Pure E E0 Tryz.prog 99 [.cell (vL flS a_), .cell (vL flS b_)] (c1 (vB r_)) := by
  refine pure_L Tryz.func99 rfl ?_
  refine L_keepF [0, 1] (T' := sl 26 [(0, c1 (vL flS a_)), (1, c1 (vL flS b_))]) (by kernel_rfl) ?_
  refine L_seq ?_
  refine L_regS hb [0, 1] (T' := sl 26 [(0, c1 (vL flS a_)), (1, c1 (vL flS b_))]) (by kernel_rfl) ?_
  refine L_seq (L_seq ?_)
  refine L_regS hb [0, 1, 10] (T' := sl 26 [(0, c1 (vL flS a_)), (1, c1 (vL flS b_)), (10, c1 (vB (!decide ((a_.length : Int) = (b_.length : Int)))))]) (by kernel_rfl) ?_
  refine L_if hb (b := (!decide ((a_.length : Int) = (b_.length : Int)))) (by kernel_rfl) (fun hc1 => ?_) (fun hc1 => ?_)
  · replace hq := cond_t hc1 hq
    refine L_seq ?_
    refine L_regS hb [4] (T' := sl 26 [(4, c1 (vB false))]) (by kernel_rfl) ?_
    refine L_ret ?_
    have h0 := Option.some.inj hq
    obtain rfl := h0
    exact end_ret (by kernel_rfl)
  · replace hq := cond_f hc1 hq
    refine L_skip (L_seq (L_seq ?_))
    refine L_regS hb [0, 1, 5] (T' := sl 26 [(0, c1 (vL flS a_)), (1, c1 (vL flS b_)), (5, c1 (vi 0))]) (by kernel_rfl) ?_
    refine L_block (fun K1 hA1 hB1 hC1 hD1 => ?_)
    refine L_backF [0, 1, 5] [] 0 (T' := sl 26 [(0, c1 (vL flS a_)), (1, c1 (vL flS b_)), (5, c1 (vi 0))]) (σ' := []) (by kernel_rfl) (by kernel_rfl) (by simp) (by kernel_rfl) trivial ?_
    refine L_as (by kernel_rfl) (by kernel_rfl) (L_loopO (body := (g_r10_same_L1 a_ b_)) (fun s1 => sl 26 [(0, c1 (vL flS a_)), (1, c1 (vL flS b_)), (5, c1 (vi s1))]) (fun s1 => []) (s0 := 0) (fun s1 x1 hq hn1 he1 => ?_) hq)
    refine L_seq (L_seq ?_)
    refine L_regS hb [0, 1, 5, 14] (T' := sl 26 [(0, c1 (vL flS a_)), (1, c1 (vL flS b_)), (5, c1 (vi s1)), (14, c1 (vB (decide (s1 < (a_.length : Int)))))]) (by kernel_rfl) ?_
    refine L_if hb (b := (decide (s1 < (a_.length : Int)))) (by kernel_rfl) (fun hc2 => ?_) (fun hc2 => ?_)
    · replace hq := cond_t hc2 hq
      refine L_skip (L_seq (L_block (fun K2 hA2 hB2 hC2 hD2 => (L_seq ?_))))
      refine L_drwK hb mixed [0, 1, 5, 25] 8 (by kernel_rfl) (by kernel_rfl) (fun R hR => ?_)
      refine runDS 2 [(17, c1 (vL flS a_)), (18, c1 (vi s1))] (by kernel_rfl) ?_
      obtain ⟨x3, hx3, hq⟩ := bind_inv hq
      refine idxF flS (d := some 19) hx3 (by kernel_rfl) ?_
      refine runPS 3 [(19, c1 (.pv (.pp (flS.c x3 ++ flS.f (List.drop (s1.toNat + 1) a_))))), (20, c1 (vS x3)), (21, c1 (vL flS b_)), (22, c1 (vi s1))] (by kernel_rfl) ?_
      obtain ⟨x4, hx4, hq⟩ := bind_inv hq
      refine idxF flS (d := some 23) hx4 (by kernel_rfl) ?_
      refine lastFS (T' := sl 26 [(0, c1 (vL flS a_)), (1, c1 (vL flS b_)), (5, c1 (vi s1)), (14, c1 (vB (decide (s1 < (a_.length : Int))))), (17, c1 (vL flS a_)), (18, c1 (vi s1)), (19, c1 (.pv (.pp (flS.c x3 ++ flS.f (List.drop (s1.toNat + 1) a_))))), (20, c1 (vS x3)), (21, c1 (vL flS b_)), (22, c1 (vi s1)), (23, c1 (.pv (.pp (flS.c x4 ++ flS.f (List.drop (s1.toNat + 1) b_))))), (24, c1 (vS x4))]) (by kernel_rfl) ?_
      refine lastKS (T' := sl 26 [(0, c1 (vL flS a_)), (1, c1 (vL flS b_)), (5, c1 (vi s1)), (25, c1 (vB (!decide (x3 = x4))))]) (by kernel_rfl) hR ?_
      refine L_if hb (b := (!decide (x3 = x4))) (by kernel_rfl) (fun hc5 => ?_) (fun hc5 => ?_)
      · replace hq := cond_t hc5 hq
        refine L_seq ?_
        refine L_regS hb [4] (T' := sl 26 [(4, c1 (vB false))]) (by kernel_rfl) ?_
        refine L_ret (hD2 _ _ (hD1 _ _ ?_))
        have h0 := (Option.some.inj hq).symm
        replace h0 := he1 _ h0
        obtain rfl := h0
        exact end_ret (by kernel_rfl)
      · replace hq := cond_f hc5 hq
        refine L_skip (L_nil (hA2 _ _ ?_))
        refine L_regS hb [0, 1, 5] (T' := sl 26 [(0, c1 (vL flS a_)), (1, c1 (vL flS b_)), (5, c1 (vi (IntKind.i64.wrap (s1 + 1))))]) (by kernel_rfl) ?_
        refine L_backF [0, 1, 5] [] 0 (T' := sl 26 [(0, c1 (vL flS a_)), (1, c1 (vL flS b_)), (5, c1 (vi (IntKind.i64.wrap (s1 + 1))))]) (σ' := []) (by kernel_rfl) (by kernel_rfl) (by simp) (by kernel_rfl) trivial ?_
        have h0 := (Option.some.inj hq).symm
        exact L_as (by kernel_rfl) (by kernel_rfl) (hn1 _ h0)
    · replace hq := cond_f hc2 hq
      refine L_exit (hB1 _ _ (L_seq ?_))
      refine L_regS hb [4] (T' := sl 26 [(4, c1 (vB true))]) (by kernel_rfl) ?_
      refine L_ret ?_
      have h0 := (Option.some.inj hq).symm
      replace h0 := he1 _ h0
      obtain rfl := h0
      exact end_ret (by kernel_rfl)
noncomputable def g_r10_Unify_L1 (r_r10_Unify : Ty → Ty → Option (Ty)) (a_ : Ty) (b_ : Ty) (s1 : Int × List Ty) : Option ((Int × List Ty) ⊕ (Ty)) :=
  bif (decide (s1.1 < (a_.elems.length : Int))) then (idx a_.elems s1.1).bind fun x6 => (idx b_.elems s1.1).bind fun x7 => (r_r10_Unify x6 x7).bind fun y8 => (app 56 s1.2 [y8]).bind fun l9 => some (.inl ((IntKind.i64.wrap (s1.1 + 1)), l9)) else some (.inr (Ty.mk a_.kind s1.2 a_.names))
noncomputable def g_r10_Unify (r_r10_Unify : Ty → Ty → Option (Ty)) (a_ : Ty) (b_ : Ty) : Option (Ty) :=
  bif (!decide (a_.kind = b_.kind)) then some (Ty.mk 0 [] []) else bif (!decide ((a_.elems.length : Int) = (b_.elems.length : Int))) then some (Ty.mk 0 [] []) else (g_r10_same a_.names b_.names).bind fun y3 => bif (!y3) then some (Ty.mk 0 [] []) else loopO (g_r10_Unify_L1 r_r10_Unify a_ b_) (0, [])
theorem g_r10_Unify_ok (hb : Base E E0 G) (he : ∀ w, E w → EnvV w) (r_r10_Unify : Ty → Ty → Option (Ty)) (hr_r10_Unify : ∀ (a0 : Ty) (a1 : Ty) (r : Ty), r_r10_Unify a0 a1 = some r → Pure E E0 Tryz.prog 90 [.agg (aT a0), .agg (aT a1)] (.one (.agg (aT r)))) (a_ : Ty) (b_ : Ty) (r_ : Ty) (hq : g_r10_Unify r_r10_Unify a_ b_ = some r_) :
    Pure E E0 Tryz.prog 90 [.agg (aT a_), .agg (aT b_)] (.one (.agg (aT r_))) := by
  refine pure_L Tryz.func90 rfl ?_
  refine L_keepF [0, 1] (T' := sl 59 [(0, .one (.agg (aT a_))), (1, .one (.agg (aT b_)))]) (by kernel_rfl) ?_
  refine L_seq ?_
  refine L_regF hb [2, 3, 4] (T' := sl 59 [(2, pt 0), (3, pt 1), (4, pt 2)]) (σ' := [bx (aT a_), bx (aT b_), bx [vi 0, vN, vN]]) (by kernel_rfl) ?_
  refine L_seq (L_seq ?_)
  refine L_regK hb [2, 3, 4, 28] (fun R hR => ?_)
  refine runDS 6 [(7, pt 0), (8, c1 (vi a_.kind)), (9, pt 1), (10, c1 (vi b_.kind)), (11, c1 (vB (!decide (a_.kind = b_.kind)))), (12, c1 (vB (!decide (a_.kind = b_.kind))))] (by kernel_rfl) ?_
  refine partsD ((!decide (a_.kind = b_.kind))) (fun zz => [(11, c1 (vB zz)), (12, c1 (vB zz))]) (by kernel_rfl) (fun hc1 => ?_) (fun hc1 => ?_)
  · replace hq := cond_t hc1 hq
    refine lastKS (T' := sl 59 [(2, pt 0), (3, pt 1), (4, pt 2), (28, c1 (vB true))]) (by kernel_rfl) hR ?_
    refine L_true hb (by kernel_rfl) (L_seq ?_)
    refine L_regS hb [4] (T' := sl 59 [(4, pt 2)]) (by kernel_rfl) ?_
    refine L_ret ?_
    have h0 := Option.some.inj hq
    obtain rfl := h0
    exact end_ret (by kernel_rfl)
  · replace hq := cond_f hc1 hq
    refine runDS 9 [(13, c1 (.ptr 0 0 1)), (14, c1 (vL flT a_.elems)), (15, c1 (vi (a_.elems.length : Int))), (16, c1 (.ptr 1 0 1)), (17, c1 (vL flT b_.elems)), (18, c1 (vi (b_.elems.length : Int))), (19, c1 (vB (!decide ((a_.elems.length : Int) = (b_.elems.length : Int))))), (20, c1 (vB (!decide ((a_.elems.length : Int) = (b_.elems.length : Int))))), (21, c1 (vB (!decide ((a_.elems.length : Int) = (b_.elems.length : Int)))))] (by kernel_rfl) ?_
    refine partsD ((!decide ((a_.elems.length : Int) = (b_.elems.length : Int)))) (fun zz => [(19, c1 (vB zz)), (20, c1 (vB zz)), (21, c1 (vB zz))]) (by kernel_rfl) (fun hc2 => ?_) (fun hc2 => ?_)
    · replace hq := cond_t hc2 hq
      refine lastKS (T' := sl 59 [(2, pt 0), (3, pt 1), (4, pt 2), (28, c1 (vB true))]) (by kernel_rfl) hR ?_
      refine L_true hb (by kernel_rfl) (L_seq ?_)
      refine L_regS hb [4] (T' := sl 59 [(4, pt 2)]) (by kernel_rfl) ?_
      refine L_ret ?_
      have h0 := Option.some.inj hq
      obtain rfl := h0
      exact end_ret (by kernel_rfl)
    · replace hq := cond_f hc2 hq
      refine runDS 4 [(22, c1 (.ptr 0 0 2)), (23, c1 (vL flS a_.names)), (24, c1 (.ptr 1 0 2)), (25, c1 (vL flS b_.names))] (by kernel_rfl) ?_
      obtain ⟨y3, hy3, hq⟩ := bind_inv hq
      refine callF (d := some 26) (by kernel_rfl) (g_r10_same_ok hb he a_.names b_.names y3 hy3) ?_
      refine lastKS (T' := sl 59 [(2, pt 0), (3, pt 1), (4, pt 2), (28, c1 (vB (!y3)))]) (by kernel_rfl) hR ?_
      refine L_if hb (b := (!y3)) (by kernel_rfl) (fun hc4 => ?_) (fun hc4 => ?_)
      · replace hq := cond_t hc4 hq
        refine L_seq ?_
        refine L_regS hb [4] (T' := sl 59 [(4, pt 2)]) (by kernel_rfl) ?_
        refine L_ret ?_
        have h0 := Option.some.inj hq
        obtain rfl := h0
        exact end_ret (by kernel_rfl)
      · replace hq := cond_f hc4 hq
        refine L_skip (L_seq ?_)
        refine L_regF hb [2, 3, 4, 5] (T' := sl 59 [(2, pt 0), (3, pt 1), (4, pt 2), (5, pt 3)]) (σ' := [bx (aT a_), bx (aT b_), bx [vi 0, vN, vN], bx [vi a_.kind, vN, vL flS a_.names]]) (by kernel_rfl) ?_
        refine L_seq (L_seq ?_)
        refine L_regS hb [2, 3, 4, 5, 6] (T' := sl 59 [(2, pt 0), (3, pt 1), (4, pt 2), (5, pt 3), (6, c1 (vi 0))]) (by kernel_rfl) ?_
        refine L_block (fun K1 hA1 hB1 hC1 hD1 => ?_)
        refine L_ownσ 3 1 3 (cs := [vi a_.kind, vN, vL flS a_.names]) (by kernel_rfl) (by kernel_rfl) rfl ?_
        refine L_backF [2, 3, 4, 5, 6] [] 5 (T' := sl 59 [(2, pt 0), (3, pt 1), (4, pt 2), (5, pt 3), (6, c1 (vi 0))]) (σ' := [bx (aT a_), bx (aT b_), bx [vi 0, vN, vN], bx [vi a_.kind, vO flT 4 [], vL flS a_.names], some (arO true flT.sz ((flT.f []).length) (flT.f []))]) (by kernel_rfl) (by kernel_rfl) (by simp) (by kernel_rfl) ⟨(by kernel_rfl), (by kernel_rfl), (by kernel_rfl), (by kernel_rfl), (under_arO _ _ _ _ _), trivial⟩ ?_
        refine L_as (by kernel_rfl) (by kernel_rfl) (L_loopO (body := (g_r10_Unify_L1 r_r10_Unify a_ b_)) (fun s1 => sl 59 [(2, pt 0), (3, pt 1), (4, pt 2), (5, pt 3), (6, c1 (vi s1.1))]) (fun s1 => [bx (aT a_), bx (aT b_), bx [vi 0, vN, vN], bx [vi a_.kind, vO flT 4 s1.2, vL flS a_.names], some (arO true flT.sz ((flT.f s1.2).length) (flT.f s1.2))]) (s0 := (0, [])) (fun s1 x1 hq hn1 he1 => ?_) hq)
        refine L_seq (L_seq ?_)
        refine L_regS hb [2, 3, 4, 5, 6, 39] (T' := sl 59 [(2, pt 0), (3, pt 1), (4, pt 2), (5, pt 3), (6, c1 (vi s1.1)), (39, c1 (vB (decide (s1.1 < (a_.elems.length : Int)))))]) (by kernel_rfl) ?_
        refine L_if hb (b := (decide (s1.1 < (a_.elems.length : Int)))) (by kernel_rfl) (fun hc5 => ?_) (fun hc5 => ?_)
        · replace hq := cond_t hc5 hq
          refine L_skip (L_seq (L_block (fun K2 hA2 hB2 hC2 hD2 => ?_)))
          refine L_drwN hb mixed 14 (by kernel_rfl) (by kernel_rfl) (fun R hR => ?_)
          refine runDS 5 [(42, c1 (.ptr 3 0 1)), (43, c1 (vO flT 4 s1.2)), (44, c1 (.ptr 0 0 1)), (45, c1 (vL flT a_.elems)), (46, c1 (vi s1.1))] (by kernel_rfl) ?_
          obtain ⟨x6, hx6, hq⟩ := bind_inv hq
          refine idxF flT (d := some 47) hx6 (by kernel_rfl) ?_
          refine runPS 4 [(47, c1 (.pv (.pp (flT.c x6 ++ flT.f (List.drop (s1.1.toNat + 1) a_.elems))))), (48, .one (.agg (aT x6))), (49, c1 (.ptr 1 0 1)), (50, c1 (vL flT b_.elems)), (51, c1 (vi s1.1))] (by kernel_rfl) ?_
          obtain ⟨x7, hx7, hq⟩ := bind_inv hq
          refine idxF flT (d := some 52) hx7 (by kernel_rfl) ?_
          refine runPS 1 [(52, c1 (.pv (.pp (flT.c x7 ++ flT.f (List.drop (s1.1.toNat + 1) b_.elems))))), (53, .one (.agg (aT x7)))] (by kernel_rfl) ?_
          obtain ⟨y8, hy8, hq⟩ := bind_inv hq
          refine callF (d := some 54) (by kernel_rfl) (hr_r10_Unify x6 x7 y8 hy8) ?_
          refine lastFS (T' := sl 59 [(2, pt 0), (3, pt 1), (4, pt 2), (5, pt 3), (6, c1 (vi s1.1)), (39, c1 (vB (decide (s1.1 < (a_.elems.length : Int))))), (42, c1 (.ptr 3 0 1)), (43, c1 (vO flT 4 s1.2)), (44, c1 (.ptr 0 0 1)), (45, c1 (vL flT a_.elems)), (46, c1 (vi s1.1)), (47, c1 (.pv (.pp (flT.c x6 ++ flT.f (List.drop (s1.1.toNat + 1) a_.elems))))), (48, .one (.agg (aT x6))), (49, c1 (.ptr 1 0 1)), (50, c1 (vL flT b_.elems)), (51, c1 (vi s1.1)), (52, c1 (.pv (.pp (flT.c x7 ++ flT.f (List.drop (s1.1.toNat + 1) b_.elems))))), (53, .one (.agg (aT x7))), (54, .one (.agg (aT y8))), (55, c1 (.pv (.sl true 1 [pI .i64 y8.kind, pL flT y8.elems, pL flS y8.names])))]) (by kernel_rfl) ?_
          obtain ⟨l9, hl9, hq⟩ := bind_inv hq
          refine appOwnF flT (d := some 56) (id := 4) (s := .pv (.sl true 1 [pI .i64 y8.kind, pL flT y8.elems, pL flS y8.names])) (nb := true) (fr := (flT.f s1.2).length) hl9 (by kernel_rfl) (src_lit flT (flT.one y8) rfl) (by kernel_rfl) (Nat.le_refl _) ?_
          refine lastF (T' := sl 59 [(2, pt 0), (3, pt 1), (4, pt 2), (5, pt 3), (6, c1 (vi s1.1)), (39, c1 (vB (decide (s1.1 < (a_.elems.length : Int))))), (42, c1 (.ptr 3 0 1)), (43, c1 (vO flT 4 s1.2)), (44, c1 (.ptr 0 0 1)), (45, c1 (vL flT a_.elems)), (46, c1 (vi s1.1)), (47, c1 (.pv (.pp (flT.c x6 ++ flT.f (List.drop (s1.1.toNat + 1) a_.elems))))), (48, .one (.agg (aT x6))), (49, c1 (.ptr 1 0 1)), (50, c1 (vL flT b_.elems)), (51, c1 (vi s1.1)), (52, c1 (.pv (.pp (flT.c x7 ++ flT.f (List.drop (s1.1.toNat + 1) b_.elems))))), (53, .one (.agg (aT x7))), (54, .one (.agg (aT y8))), (55, c1 (.pv (.sl true 1 [pI .i64 y8.kind, pL flT y8.elems, pL flS y8.names]))), (56, c1 (vO flT 4 l9)), (57, c1 (.ptr 3 0 1))]) (σ' := [bx (aT a_), bx (aT b_), bx [vi 0, vN, vN], bx [vi a_.kind, vO flT 4 l9, vL flS a_.names], some (arO true flT.sz ((flT.f s1.2).length) (flT.f l9))]) (by kernel_rfl) (hR _ _ ?_)
          refine L_nil (hA2 _ _ ?_)
          refine L_regS hb [2, 3, 4, 5, 6] (T' := sl 59 [(2, pt 0), (3, pt 1), (4, pt 2), (5, pt 3), (6, c1 (vi (IntKind.i64.wrap (s1.1 + 1))))]) (by kernel_rfl) ?_
          refine L_mark 4 (nb := true) (cs := flT.f l9) rfl (app_le flT hl9) ?_
          refine L_backF [2, 3, 4, 5, 6] [] 5 (T' := sl 59 [(2, pt 0), (3, pt 1), (4, pt 2), (5, pt 3), (6, c1 (vi (IntKind.i64.wrap (s1.1 + 1))))]) (σ' := [bx (aT a_), bx (aT b_), bx [vi 0, vN, vN], bx [vi a_.kind, vO flT 4 l9, vL flS a_.names], some (arO true flT.sz ((flT.f l9).length) (flT.f l9))]) (by kernel_rfl) (by kernel_rfl) (by simp) (by kernel_rfl) ⟨(by kernel_rfl), (by kernel_rfl), (by kernel_rfl), (by kernel_rfl), (under_arO _ _ _ _ _), trivial⟩ ?_
          have h0 := (Option.some.inj hq).symm
          exact L_as (by kernel_rfl) (by kernel_rfl) (hn1 _ h0)
        · replace hq := cond_f hc5 hq
          refine L_exit (hB1 _ _ (L_seq ?_))
          refine L_regF hb [4] (T' := sl 59 [(4, pt 2)]) (σ' := [bx (aT a_), bx (aT b_), bx [vi a_.kind, vO flT 4 s1.2, vL flS a_.names], bx [vi a_.kind, vO flT 4 s1.2, vL flS a_.names], some (arO true flT.sz ((flT.f s1.2).length) (flT.f s1.2))]) (by kernel_rfl) ?_
          refine L_cellσ 2 1 (cs := [vi a_.kind, vO flT 4 s1.2, vL flS a_.names]) (c := vO flT 4 s1.2) (by kernel_rfl) (by kernel_rfl) (conv_own flT (nb := true) (id := 4) (xs := s1.2) (by kernel_rfl)) ?_
          refine L_ret ?_
          have h0 := (Option.some.inj hq).symm
          replace h0 := he1 _ h0
          obtain rfl := h0
          exact end_ret (by kernel_rfl)
noncomputable def t_r10_Unify_step (rec : Ty → Ty → Option (Ty)) (a : Ty) (b : Ty) : Option (Ty) :=
  g_r10_Unify (fun a0 a1 => rec a0 a1) a b
noncomputable def t_r10_Unify (a0 : Ty) (a1 : Ty) : Option (Ty) := tieF relT wfT t_r10_Unify_step a0 a1
theorem t_r10_Unify_ok (hb : Base E E0 G) (he : ∀ w, E w → EnvV w) (a0 : Ty) (a1 : Ty) (r : Ty) (hq : t_r10_Unify a0 a1 = some r) : Pure E E0 Tryz.prog 90 [.agg (aT a0), .agg (aT a1)] (.one (.agg (aT r))) :=
  tieF_ok (C := fun a b r => Pure E E0 Tryz.prog 90 [.agg (aT a), .agg (aT b)] (.one (.agg (aT r)))) (fun rec hr a b r hq => g_r10_Unify_ok hb he (fun a0 a1 => rec a0 a1) (fun a0 a1 r e => hr a0 a1 r e) a b r hq) a0 a1 r hq
noncomputable def g_r10_identifiers_L1 (l_ : List ByteArray) (s1 : Int) : Option ((Int) ⊕ (Bool)) :=
  bif (decide (s1 < (l_.length : Int))) then (idx l_ s1).bind fun x2 => (g_r06_Identifier x2).bind fun y3 => bif (!y3) then some (.inr (false)) else some (.inl (IntKind.i64.wrap (s1 + 1))) else some (.inr (true))
noncomputable def g_r10_identifiers  (l_ : List ByteArray) : Option (Bool) :=
  loopO (g_r10_identifiers_L1 l_) 0
theorem g_r10_identifiers_ok (hb : Base E E0 G) (he : ∀ w, E w → EnvV w)   (l_ : List ByteArray) (r_ : Bool) (hq : g_r10_identifiers l_ = some r_) :
    Pure E E0 Tryz.prog 74 [.cell (vL flS l_)] (c1 (vB r_)) := by
  refine pure_L Tryz.func74 rfl ?_
  refine L_keepF [0] (T' := sl 16 [(0, c1 (vL flS l_))]) (by kernel_rfl) ?_
  refine L_seq ?_
  refine L_regS hb [0] (T' := sl 16 [(0, c1 (vL flS l_))]) (by kernel_rfl) ?_
  refine L_seq (L_seq ?_)
  refine L_regS hb [0, 3] (T' := sl 16 [(0, c1 (vL flS l_)), (3, c1 (vi 0))]) (by kernel_rfl) ?_
  refine L_block (fun K1 hA1 hB1 hC1 hD1 => ?_)
  refine L_backF [0, 3] [] 0 (T' := sl 16 [(0, c1 (vL flS l_)), (3, c1 (vi 0))]) (σ' := []) (by kernel_rfl) (by kernel_rfl) (by simp) (by kernel_rfl) trivial ?_
  refine L_as (by kernel_rfl) (by kernel_rfl) (L_loopO (body := (g_r10_identifiers_L1 l_)) (fun s1 => sl 16 [(0, c1 (vL flS l_)), (3, c1 (vi s1))]) (fun s1 => []) (s0 := 0) (fun s1 x1 hq hn1 he1 => ?_) hq)
  refine L_seq (L_seq ?_)
  refine L_regS hb [0, 3, 7] (T' := sl 16 [(0, c1 (vL flS l_)), (3, c1 (vi s1)), (7, c1 (vB (decide (s1 < (l_.length : Int)))))]) (by kernel_rfl) ?_
  refine L_if hb (b := (decide (s1 < (l_.length : Int)))) (by kernel_rfl) (fun hc1 => ?_) (fun hc1 => ?_)
  · replace hq := cond_t hc1 hq
    refine L_skip (L_seq (L_block (fun K2 hA2 hB2 hC2 hD2 => (L_seq ?_))))
    refine L_regK hb [0, 3, 15] (fun R hR => ?_)
    refine runDS 2 [(10, c1 (vL flS l_)), (11, c1 (vi s1))] (by kernel_rfl) ?_
    obtain ⟨x2, hx2, hq⟩ := bind_inv hq
    refine idxF flS (d := some 12) hx2 (by kernel_rfl) ?_
    refine runPS 1 [(12, c1 (.pv (.pp (flS.c x2 ++ flS.f (List.drop (s1.toNat + 1) l_))))), (13, c1 (vS x2))] (by kernel_rfl) ?_
    obtain ⟨y3, hy3, hq⟩ := bind_inv hq
    refine callF (d := some 14) (by kernel_rfl) (g_r06_Identifier_ok hb he x2 y3 hy3) ?_
    refine lastKS (T' := sl 16 [(0, c1 (vL flS l_)), (3, c1 (vi s1)), (15, c1 (vB (!y3)))]) (by kernel_rfl) hR ?_
    refine L_if hb (b := (!y3)) (by kernel_rfl) (fun hc4 => ?_) (fun hc4 => ?_)
    · replace hq := cond_t hc4 hq
      refine L_seq ?_
      refine L_regS hb [2] (T' := sl 16 [(2, c1 (vB false))]) (by kernel_rfl) ?_
      refine L_ret (hD2 _ _ (hD1 _ _ ?_))
      have h0 := (Option.some.inj hq).symm
      replace h0 := he1 _ h0
      obtain rfl := h0
      exact end_ret (by kernel_rfl)
    · replace hq := cond_f hc4 hq
      refine L_skip (L_nil (hA2 _ _ ?_))
      refine L_regS hb [0, 3] (T' := sl 16 [(0, c1 (vL flS l_)), (3, c1 (vi (IntKind.i64.wrap (s1 + 1))))]) (by kernel_rfl) ?_
      refine L_backF [0, 3] [] 0 (T' := sl 16 [(0, c1 (vL flS l_)), (3, c1 (vi (IntKind.i64.wrap (s1 + 1))))]) (σ' := []) (by kernel_rfl) (by kernel_rfl) (by simp) (by kernel_rfl) trivial ?_
      have h0 := (Option.some.inj hq).symm
      exact L_as (by kernel_rfl) (by kernel_rfl) (hn1 _ h0)
  · replace hq := cond_f hc1 hq
    refine L_exit (hB1 _ _ (L_seq ?_))
    refine L_regS hb [2] (T' := sl 16 [(2, c1 (vB true))]) (by kernel_rfl) ?_
    refine L_ret ?_
    have h0 := (Option.some.inj hq).symm
    replace h0 := he1 _ h0
    obtain rfl := h0
    exact end_ret (by kernel_rfl)
end Abs
end Go.Proofs.YtkmhhboihgckcaaGreatDoor
