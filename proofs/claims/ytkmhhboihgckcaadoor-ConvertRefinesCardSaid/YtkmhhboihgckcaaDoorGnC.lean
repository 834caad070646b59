/-
  Convert: Go functions as functions over plain values, with the proof that the code computes them; printed by gen.py.
-/
import Derived.Test.YtkmhhboihgckcaaDoorGnB
namespace Go.Proofs.YtkmhhboihgckcaaDoor
namespace Abs
open Go.RowKit
variable {E : World → Prop} {E0 : Nat} {G : Nat → Option (List PV)}
set_option maxRecDepth 100000
set_option linter.unusedVariables false
attribute [local irreducible] asqX awpL awp asq asqD Pure Ok asqF sl loopO
noncomputable def g_l11_ConvertRefines  (v_ : Val) (x_ : Val) (t_ : Ty) : Option (Bool) :=
  (g_l11_right v_ t_).bind fun y1 => bif (!y1) then (g_l11_awake).bind fun y3 => some (y3) else (m_small x_ 20).bind fun y4 => bif (!y4) then (g_l11_awake).bind fun y6 => some (y6) else (m_checkE x_).bind fun y7 => bif (!decide (y7 = 0)) then (g_l11_awake).bind fun y9 => some (y9) else (t_l11_fill v_ x_ 32).bind fun y10 => (m_checkE y10).bind fun y11 => bif (!decide (y11 = 0)) then (m_checkE y10).bind fun y13 => bif (!decide (y13 = 0)) then (g_l11_awake).bind fun y15 => some (y15) else some (false) else (t_value_Refines y10 v_).bind fun y16 => bif (!y16) then (m_checkE y10).bind fun y18 => bif (!decide (y18 = 0)) then (g_l11_awake).bind fun y20 => some (y20) else some (false) else (g_convert_To v_ t_).bind fun y21 => (g_convert_To y10 t_).bind fun y22 => bif (decide (y21.2 = 0)) then bif (!decide (y22.2 = 0)) then (g_l11_awake).bind fun y25 => some (y25) else (t_value_Refines y22.1 y21.1).bind fun y26 => bif y26 then (g_l11_awake).bind fun y28 => some (y28) else some (false) else bif (!decide (y21.2 = 6)) then bif (!decide (y21.2 = 13)) then (g_l11_awake).bind fun y31 => some (y31) else bif (!decide (y22.2 = 0)) then (g_l11_awake).bind fun y33 => some (y33) else some (false) else bif (!decide (y22.2 = 0)) then (g_l11_awake).bind fun y35 => some (y35) else some (false)
theorem g_l11_ConvertRefines_ok (hb : Base E E0 G) (he : ∀ w, E w → EnvV w)   (v_ : Val) (x_ : Val) (t_ : Ty) (r_ : Bool) (hq : g_l11_ConvertRefines v_ x_ t_ = some r_) :
    Pure E E0 Tryd.prog 3 [.agg (aV v_), .agg (aV x_), .agg (aT t_)] (c1 (vB r_)) := by
  refine pure_L Tryd.func3 rfl ?_
  refine L_keepF [0, 1, 2] (T' := sl 82 [(0, .one (.agg (aV v_))), (1, .one (.agg (aV x_))), (2, .one (.agg (aT t_)))]) (by kernel_rfl) ?_
  refine L_seq ?_
  refine L_regF hb [3, 4, 5] (T' := sl 82 [(3, c1 (.ptr 0 0 0)), (4, c1 (.ptr 1 0 0)), (5, c1 (.ptr 2 0 0))]) (σ' := [some (.box (aV v_)), some (.box (aV x_)), some (.box (aT t_))]) (by kernel_rfl) ?_
  refine L_seq (L_seq ?_)
  refine L_regK hb [3, 4, 5, 25] (fun R hR => ?_)
  refine runF 2 (T' := sl 82 [(3, c1 (.ptr 0 0 0)), (4, c1 (.ptr 1 0 0)), (5, c1 (.ptr 2 0 0)), (12, .one (.agg (aV v_))), (13, .one (.agg (aT t_)))]) (σ' := [some (.box (aV v_)), some (.box (aV x_)), some (.box (aT t_))]) (by kernel_rfl) ?_
  obtain ⟨y1, hy1, hq⟩ := bind_inv hq
  refine callF (d := some 14) (by kernel_rfl) (g_l11_right_ok hb he v_ t_ y1 hy1) ?_
  refine runF 2 (T' := sl 82 [(3, c1 (.ptr 0 0 0)), (4, c1 (.ptr 1 0 0)), (5, c1 (.ptr 2 0 0)), (12, .one (.agg (aV v_))), (13, .one (.agg (aT t_))), (14, c1 (vB y1)), (15, c1 (vB (!y1))), (16, c1 (vB (!y1)))]) (σ' := [some (.box (aV v_)), some (.box (aV x_)), some (.box (aT t_))]) (by kernel_rfl) ?_
  refine partsF ((!y1)) (fun zz => sl 82 [(3, c1 (.ptr 0 0 0)), (4, c1 (.ptr 1 0 0)), (5, c1 (.ptr 2 0 0)), (12, .one (.agg (aV v_))), (13, .one (.agg (aT t_))), (14, c1 (vB y1)), (15, c1 (vB zz)), (16, c1 (vB zz))]) (by kernel_rfl) (fun hc2 => ?_) (fun hc2 => ?_)
  · replace hq := cond_t hc2 hq
    refine lastK (T' := sl 82 [(3, c1 (.ptr 0 0 0)), (4, c1 (.ptr 1 0 0)), (5, c1 (.ptr 2 0 0)), (25, c1 (vB true))]) (σ' := [some (.box (aV v_)), some (.box (aV x_)), some (.box (aT t_))]) (by kernel_rfl) hR ?_
    refine L_true hb (by kernel_rfl) (L_seq ?_)
    refine L_regK hb [6] (fun R hR => ?_)
    obtain ⟨y3, hy3, hq⟩ := bind_inv hq
    refine callF (d := some 26) (by kernel_rfl) (g_l11_awake_ok hb he  y3 hy3) ?_
    refine lastK (T' := sl 82 [(6, c1 (vB y3))]) (σ' := [some (.box (aV v_)), some (.box (aV x_)), some (.box (aT t_))]) (by kernel_rfl) hR ?_
    refine L_ret ?_
    have h0 := Option.some.inj hq
    obtain rfl := h0
    exact end_ret (by kernel_rfl)
  · replace hq := cond_f hc2 hq
    refine runF 1 (T' := sl 82 [(3, c1 (.ptr 0 0 0)), (4, c1 (.ptr 1 0 0)), (5, c1 (.ptr 2 0 0)), (12, .one (.agg (aV v_))), (13, .one (.agg (aT t_))), (14, c1 (vB y1)), (15, c1 (vB false)), (16, c1 (vB false)), (17, .one (.agg (aV x_)))]) (σ' := [some (.box (aV v_)), some (.box (aV x_)), some (.box (aT t_))]) (by kernel_rfl) ?_
    obtain ⟨y4, hy4, hq⟩ := bind_inv hq
    refine callF (d := some 18) (by kernel_rfl) (rSmall_g hb he x_ 20 y4 hy4) ?_
    refine runF 3 (T' := sl 82 [(3, c1 (.ptr 0 0 0)), (4, c1 (.ptr 1 0 0)), (5, c1 (.ptr 2 0 0)), (12, .one (.agg (aV v_))), (13, .one (.agg (aT t_))), (14, c1 (vB y1)), (15, c1 (vB false)), (16, c1 (vB false)), (17, .one (.agg (aV x_))), (18, c1 (vB y4)), (19, c1 (vB (!y4))), (20, c1 (vB (!y4))), (21, c1 (vB (!y4)))]) (σ' := [some (.box (aV v_)), some (.box (aV x_)), some (.box (aT t_))]) (by kernel_rfl) ?_
    refine partsF ((!y4)) (fun zz => sl 82 [(3, c1 (.ptr 0 0 0)), (4, c1 (.ptr 1 0 0)), (5, c1 (.ptr 2 0 0)), (12, .one (.agg (aV v_))), (13, .one (.agg (aT t_))), (14, c1 (vB y1)), (15, c1 (vB false)), (16, c1 (vB false)), (17, .one (.agg (aV x_))), (18, c1 (vB y4)), (19, c1 (vB zz)), (20, c1 (vB zz)), (21, c1 (vB zz))]) (by kernel_rfl) (fun hc5 => ?_) (fun hc5 => ?_)
    · replace hq := cond_t hc5 hq
      refine lastK (T' := sl 82 [(3, c1 (.ptr 0 0 0)), (4, c1 (.ptr 1 0 0)), (5, c1 (.ptr 2 0 0)), (25, c1 (vB true))]) (σ' := [some (.box (aV v_)), some (.box (aV x_)), some (.box (aT t_))]) (by kernel_rfl) hR ?_
      refine L_true hb (by kernel_rfl) (L_seq ?_)
      refine L_regK hb [6] (fun R hR => ?_)
      obtain ⟨y6, hy6, hq⟩ := bind_inv hq
      refine callF (d := some 26) (by kernel_rfl) (g_l11_awake_ok hb he  y6 hy6) ?_
      refine lastK (T' := sl 82 [(6, c1 (vB y6))]) (σ' := [some (.box (aV v_)), some (.box (aV x_)), some (.box (aT t_))]) (by kernel_rfl) hR ?_
      refine L_ret ?_
      have h0 := Option.some.inj hq
      obtain rfl := h0
      exact end_ret (by kernel_rfl)
    · replace hq := cond_f hc5 hq
      refine runF 1 (T' := sl 82 [(3, c1 (.ptr 0 0 0)), (4, c1 (.ptr 1 0 0)), (5, c1 (.ptr 2 0 0)), (12, .one (.agg (aV v_))), (13, .one (.agg (aT t_))), (14, c1 (vB y1)), (15, c1 (vB false)), (16, c1 (vB false)), (17, .one (.agg (aV x_))), (18, c1 (vB y4)), (19, c1 (vB false)), (20, c1 (vB false)), (21, c1 (vB false)), (22, .one (.agg (aV x_)))]) (σ' := [some (.box (aV v_)), some (.box (aV x_)), some (.box (aT t_))]) (by kernel_rfl) ?_
      obtain ⟨y7, hy7, hq⟩ := bind_inv hq
      refine callF (d := some 23) (by kernel_rfl) (rCheck_g hb he x_ y7 hy7) ?_
      refine lastK (T' := sl 82 [(3, c1 (.ptr 0 0 0)), (4, c1 (.ptr 1 0 0)), (5, c1 (.ptr 2 0 0)), (25, c1 (vB (!decide (y7 = 0))))]) (σ' := [some (.box (aV v_)), some (.box (aV x_)), some (.box (aT t_))]) (by kernel_rfl) hR ?_
      refine L_if hb (b := (!decide (y7 = 0))) (by kernel_rfl) (fun hc8 => ?_) (fun hc8 => ?_)
      · replace hq := cond_t hc8 hq
        refine L_seq ?_
        refine L_regK hb [6] (fun R hR => ?_)
        obtain ⟨y9, hy9, hq⟩ := bind_inv hq
        refine callF (d := some 26) (by kernel_rfl) (g_l11_awake_ok hb he  y9 hy9) ?_
        refine lastK (T' := sl 82 [(6, c1 (vB y9))]) (σ' := [some (.box (aV v_)), some (.box (aV x_)), some (.box (aT t_))]) (by kernel_rfl) hR ?_
        refine L_ret ?_
        have h0 := Option.some.inj hq
        obtain rfl := h0
        exact end_ret (by kernel_rfl)
      · replace hq := cond_f hc8 hq
        refine L_skip (L_seq ?_)
        refine L_regK hb [3, 5, 7] (fun R hR => ?_)
        refine runF 2 (T' := sl 82 [(3, c1 (.ptr 0 0 0)), (4, c1 (.ptr 1 0 0)), (5, c1 (.ptr 2 0 0)), (25, c1 (vB (!decide (y7 = 0)))), (27, .one (.agg (aV v_))), (28, .one (.agg (aV x_)))]) (σ' := [some (.box (aV v_)), some (.box (aV x_)), some (.box (aT t_))]) (by kernel_rfl) ?_
        obtain ⟨y10, hy10, hq⟩ := bind_inv hq
        refine callF (d := some 29) (by kernel_rfl) (t_l11_fill_ok hb he v_ x_ 32 y10 hy10) ?_
        refine lastK (T' := sl 82 [(3, c1 (.ptr 0 0 0)), (5, c1 (.ptr 2 0 0)), (7, c1 (.ptr 3 0 0))]) (σ' := [some (.box (aV v_)), some (.box (aV x_)), some (.box (aT t_)), some (.box (aV y10))]) (by kernel_rfl) hR ?_
        refine L_seq (L_seq ?_)
        refine L_regK hb [3, 5, 7, 38] (fun R hR => ?_)
        refine runF 1 (T' := sl 82 [(3, c1 (.ptr 0 0 0)), (5, c1 (.ptr 2 0 0)), (7, c1 (.ptr 3 0 0)), (30, .one (.agg (aV y10)))]) (σ' := [some (.box (aV v_)), some (.box (aV x_)), some (.box (aT t_)), some (.box (aV y10))]) (by kernel_rfl) ?_
        obtain ⟨y11, hy11, hq⟩ := bind_inv hq
        refine callF (d := some 31) (by kernel_rfl) (rCheck_g hb he y10 y11 hy11) ?_
        refine runF 2 (T' := sl 82 [(3, c1 (.ptr 0 0 0)), (5, c1 (.ptr 2 0 0)), (7, c1 (.ptr 3 0 0)), (30, .one (.agg (aV y10))), (31, c1 (vi y11)), (32, c1 (vB (!decide (y11 = 0)))), (33, c1 (vB (!decide (y11 = 0))))]) (σ' := [some (.box (aV v_)), some (.box (aV x_)), some (.box (aT t_)), some (.box (aV y10))]) (by kernel_rfl) ?_
        refine partsF ((!decide (y11 = 0))) (fun zz => sl 82 [(3, c1 (.ptr 0 0 0)), (5, c1 (.ptr 2 0 0)), (7, c1 (.ptr 3 0 0)), (30, .one (.agg (aV y10))), (31, c1 (vi y11)), (32, c1 (vB zz)), (33, c1 (vB zz))]) (by kernel_rfl) (fun hc12 => ?_) (fun hc12 => ?_)
        · replace hq := cond_t hc12 hq
          refine lastK (T' := sl 82 [(3, c1 (.ptr 0 0 0)), (5, c1 (.ptr 2 0 0)), (7, c1 (.ptr 3 0 0)), (38, c1 (vB true))]) (σ' := [some (.box (aV v_)), some (.box (aV x_)), some (.box (aT t_)), some (.box (aV y10))]) (by kernel_rfl) hR ?_
          refine L_true hb (by kernel_rfl) (L_seq ?_)
          refine L_regK hb [6] (fun R hR => ?_)
          refine runF 1 (T' := sl 82 [(3, c1 (.ptr 0 0 0)), (5, c1 (.ptr 2 0 0)), (7, c1 (.ptr 3 0 0)), (38, c1 (vB true)), (39, .one (.agg (aV y10)))]) (σ' := [some (.box (aV v_)), some (.box (aV x_)), some (.box (aT t_)), some (.box (aV y10))]) (by kernel_rfl) ?_
          obtain ⟨y13, hy13, hq⟩ := bind_inv hq
          refine callF (d := some 40) (by kernel_rfl) (rCheck_g hb he y10 y13 hy13) ?_
          refine runF 2 (T' := sl 82 [(3, c1 (.ptr 0 0 0)), (5, c1 (.ptr 2 0 0)), (7, c1 (.ptr 3 0 0)), (38, c1 (vB true)), (39, .one (.agg (aV y10))), (40, c1 (vi y13)), (41, c1 (vB (!decide (y13 = 0)))), (42, c1 (vB (!decide (y13 = 0))))]) (σ' := [some (.box (aV v_)), some (.box (aV x_)), some (.box (aT t_)), some (.box (aV y10))]) (by kernel_rfl) ?_
          refine partsF ((!decide (y13 = 0))) (fun zz => sl 82 [(3, c1 (.ptr 0 0 0)), (5, c1 (.ptr 2 0 0)), (7, c1 (.ptr 3 0 0)), (38, c1 (vB true)), (39, .one (.agg (aV y10))), (40, c1 (vi y13)), (41, c1 (vB zz)), (42, c1 (vB zz))]) (by kernel_rfl) (fun hc14 => ?_) (fun hc14 => ?_)
          · replace hq := cond_t hc14 hq
            obtain ⟨y15, hy15, hq⟩ := bind_inv hq
            refine callF (d := some 43) (by kernel_rfl) (g_l11_awake_ok hb he  y15 hy15) ?_
            refine lastK (T' := sl 82 [(6, c1 (vB y15))]) (σ' := [some (.box (aV v_)), some (.box (aV x_)), some (.box (aT t_)), some (.box (aV y10))]) (by kernel_rfl) hR ?_
            refine L_ret ?_
            have h0 := Option.some.inj hq
            obtain rfl := h0
            exact end_ret (by kernel_rfl)
          · replace hq := cond_f hc14 hq
            refine lastK (T' := sl 82 [(6, c1 (vB false))]) (σ' := [some (.box (aV v_)), some (.box (aV x_)), some (.box (aT t_)), some (.box (aV y10))]) (by kernel_rfl) hR ?_
            refine L_ret ?_
            have h0 := Option.some.inj hq
            obtain rfl := h0
            exact end_ret (by kernel_rfl)
        · replace hq := cond_f hc12 hq
          refine runF 2 (T' := sl 82 [(3, c1 (.ptr 0 0 0)), (5, c1 (.ptr 2 0 0)), (7, c1 (.ptr 3 0 0)), (30, .one (.agg (aV y10))), (31, c1 (vi y11)), (32, c1 (vB false)), (33, c1 (vB false)), (34, .one (.agg (aV y10))), (35, .one (.agg (aV v_)))]) (σ' := [some (.box (aV v_)), some (.box (aV x_)), some (.box (aT t_)), some (.box (aV y10))]) (by kernel_rfl) ?_
          obtain ⟨y16, hy16, hq⟩ := bind_inv hq
          refine callF (d := some 36) (by kernel_rfl) (t_value_Refines_ok hb he y10 v_ y16 hy16) ?_
          refine lastK (T' := sl 82 [(3, c1 (.ptr 0 0 0)), (5, c1 (.ptr 2 0 0)), (7, c1 (.ptr 3 0 0)), (38, c1 (vB (!y16)))]) (σ' := [some (.box (aV v_)), some (.box (aV x_)), some (.box (aT t_)), some (.box (aV y10))]) (by kernel_rfl) hR ?_
          refine L_if hb (b := (!y16)) (by kernel_rfl) (fun hc17 => ?_) (fun hc17 => ?_)
          · replace hq := cond_t hc17 hq
            refine L_seq ?_
            refine L_regK hb [6] (fun R hR => ?_)
            refine runF 1 (T' := sl 82 [(3, c1 (.ptr 0 0 0)), (5, c1 (.ptr 2 0 0)), (7, c1 (.ptr 3 0 0)), (38, c1 (vB (!y16))), (39, .one (.agg (aV y10)))]) (σ' := [some (.box (aV v_)), some (.box (aV x_)), some (.box (aT t_)), some (.box (aV y10))]) (by kernel_rfl) ?_
            obtain ⟨y18, hy18, hq⟩ := bind_inv hq
            refine callF (d := some 40) (by kernel_rfl) (rCheck_g hb he y10 y18 hy18) ?_
            refine runF 2 (T' := sl 82 [(3, c1 (.ptr 0 0 0)), (5, c1 (.ptr 2 0 0)), (7, c1 (.ptr 3 0 0)), (38, c1 (vB (!y16))), (39, .one (.agg (aV y10))), (40, c1 (vi y18)), (41, c1 (vB (!decide (y18 = 0)))), (42, c1 (vB (!decide (y18 = 0))))]) (σ' := [some (.box (aV v_)), some (.box (aV x_)), some (.box (aT t_)), some (.box (aV y10))]) (by kernel_rfl) ?_
            refine partsF ((!decide (y18 = 0))) (fun zz => sl 82 [(3, c1 (.ptr 0 0 0)), (5, c1 (.ptr 2 0 0)), (7, c1 (.ptr 3 0 0)), (38, c1 (vB (!y16))), (39, .one (.agg (aV y10))), (40, c1 (vi y18)), (41, c1 (vB zz)), (42, c1 (vB zz))]) (by kernel_rfl) (fun hc19 => ?_) (fun hc19 => ?_)
            · replace hq := cond_t hc19 hq
              obtain ⟨y20, hy20, hq⟩ := bind_inv hq
              refine callF (d := some 43) (by kernel_rfl) (g_l11_awake_ok hb he  y20 hy20) ?_
              refine lastK (T' := sl 82 [(6, c1 (vB y20))]) (σ' := [some (.box (aV v_)), some (.box (aV x_)), some (.box (aT t_)), some (.box (aV y10))]) (by kernel_rfl) hR ?_
              refine L_ret ?_
              have h0 := Option.some.inj hq
              obtain rfl := h0
              exact end_ret (by kernel_rfl)
            · replace hq := cond_f hc19 hq
              refine lastK (T' := sl 82 [(6, c1 (vB false))]) (σ' := [some (.box (aV v_)), some (.box (aV x_)), some (.box (aT t_)), some (.box (aV y10))]) (by kernel_rfl) hR ?_
              refine L_ret ?_
              have h0 := Option.some.inj hq
              obtain rfl := h0
              exact end_ret (by kernel_rfl)
          · replace hq := cond_f hc17 hq
            refine L_skip (L_seq ?_)
            refine L_regK hb [5, 7, 8, 9] (fun R hR => ?_)
            refine runF 2 (T' := sl 82 [(3, c1 (.ptr 0 0 0)), (5, c1 (.ptr 2 0 0)), (7, c1 (.ptr 3 0 0)), (38, c1 (vB (!y16))), (46, .one (.agg (aV v_))), (47, .one (.agg (aT t_)))]) (σ' := [some (.box (aV v_)), some (.box (aV x_)), some (.box (aT t_)), some (.box (aV y10))]) (by kernel_rfl) ?_
            obtain ⟨y21, hy21, hq⟩ := bind_inv hq
            refine callF (d := some 48) (by kernel_rfl) (g_convert_To_ok hb he v_ t_ y21 hy21) ?_
            refine lastK (T' := sl 82 [(5, c1 (.ptr 2 0 0)), (7, c1 (.ptr 3 0 0)), (8, c1 (.ptr 4 0 0)), (9, c1 (vi y21.2))]) (σ' := [some (.box (aV v_)), some (.box (aV x_)), some (.box (aT t_)), some (.box (aV y10)), some (.box (aV y21.1))]) (by kernel_rfl) hR ?_
            refine L_seq ?_
            refine L_regK hb [8, 9, 10, 11] (fun R hR => ?_)
            refine runF 2 (T' := sl 82 [(5, c1 (.ptr 2 0 0)), (7, c1 (.ptr 3 0 0)), (8, c1 (.ptr 4 0 0)), (9, c1 (vi y21.2)), (52, .one (.agg (aV y10))), (53, .one (.agg (aT t_)))]) (σ' := [some (.box (aV v_)), some (.box (aV x_)), some (.box (aT t_)), some (.box (aV y10)), some (.box (aV y21.1))]) (by kernel_rfl) ?_
            obtain ⟨y22, hy22, hq⟩ := bind_inv hq
            refine callF (d := some 54) (by kernel_rfl) (g_convert_To_ok hb he y10 t_ y22 hy22) ?_
            refine lastK (T' := sl 82 [(8, c1 (.ptr 4 0 0)), (9, c1 (vi y21.2)), (10, c1 (.ptr 5 0 0)), (11, c1 (vi y22.2))]) (σ' := [some (.box (aV v_)), some (.box (aV x_)), some (.box (aT t_)), some (.box (aV y10)), some (.box (aV y21.1)), some (.box (aV y22.1))]) (by kernel_rfl) hR ?_
            refine L_seq (L_seq ?_)
            refine L_regF hb [8, 9, 10, 11, 58] (T' := sl 82 [(8, c1 (.ptr 4 0 0)), (9, c1 (vi y21.2)), (10, c1 (.ptr 5 0 0)), (11, c1 (vi y22.2)), (58, c1 (vB (decide (y21.2 = 0))))]) (σ' := [some (.box (aV v_)), some (.box (aV x_)), some (.box (aT t_)), some (.box (aV y10)), some (.box (aV y21.1)), some (.box (aV y22.1))]) (by kernel_rfl) ?_
            refine L_if hb (b := (decide (y21.2 = 0))) (by kernel_rfl) (fun hc23 => ?_) (fun hc23 => ?_)
            · replace hq := cond_t hc23 hq
              refine L_seq ?_
              refine L_regK hb [6] (fun R hR => ?_)
              refine runF 3 (T' := sl 82 [(8, c1 (.ptr 4 0 0)), (9, c1 (vi y21.2)), (10, c1 (.ptr 5 0 0)), (11, c1 (vi y22.2)), (58, c1 (vB (decide (y21.2 = 0)))), (59, c1 (vi y22.2)), (60, c1 (vB (!decide (y22.2 = 0)))), (61, c1 (vB (!decide (y22.2 = 0))))]) (σ' := [some (.box (aV v_)), some (.box (aV x_)), some (.box (aT t_)), some (.box (aV y10)), some (.box (aV y21.1)), some (.box (aV y22.1))]) (by kernel_rfl) ?_
              refine partsF ((!decide (y22.2 = 0))) (fun zz => sl 82 [(8, c1 (.ptr 4 0 0)), (9, c1 (vi y21.2)), (10, c1 (.ptr 5 0 0)), (11, c1 (vi y22.2)), (58, c1 (vB (decide (y21.2 = 0)))), (59, c1 (vi y22.2)), (60, c1 (vB zz)), (61, c1 (vB zz))]) (by kernel_rfl) (fun hc24 => ?_) (fun hc24 => ?_)
              · replace hq := cond_t hc24 hq
                refine runF 5 (T' := sl 82 [(8, c1 (.ptr 4 0 0)), (9, c1 (vi y21.2)), (10, c1 (.ptr 5 0 0)), (11, c1 (vi y22.2)), (58, c1 (vB (decide (y21.2 = 0)))), (59, c1 (vi y22.2)), (60, c1 (vB true)), (61, c1 (vB true)), (62, c1 (.undef)), (63, c1 (.undef)), (64, c1 (.undef)), (65, c1 (vB true)), (66, c1 (vB true))]) (σ' := [some (.box (aV v_)), some (.box (aV x_)), some (.box (aT t_)), some (.box (aV y10)), some (.box (aV y21.1)), some (.box (aV y22.1))]) (by kernel_rfl) ?_
                obtain ⟨y25, hy25, hq⟩ := bind_inv hq
                refine callF (d := some 67) (by kernel_rfl) (g_l11_awake_ok hb he  y25 hy25) ?_
                refine lastK (T' := sl 82 [(6, c1 (vB y25))]) (σ' := [some (.box (aV v_)), some (.box (aV x_)), some (.box (aT t_)), some (.box (aV y10)), some (.box (aV y21.1)), some (.box (aV y22.1))]) (by kernel_rfl) hR ?_
                refine L_ret ?_
                have h0 := Option.some.inj hq
                obtain rfl := h0
                exact end_ret (by kernel_rfl)
              · replace hq := cond_f hc24 hq
                refine runF 2 (T' := sl 82 [(8, c1 (.ptr 4 0 0)), (9, c1 (vi y21.2)), (10, c1 (.ptr 5 0 0)), (11, c1 (vi y22.2)), (58, c1 (vB (decide (y21.2 = 0)))), (59, c1 (vi y22.2)), (60, c1 (vB false)), (61, c1 (vB false)), (62, .one (.agg (aV y22.1))), (63, .one (.agg (aV y21.1)))]) (σ' := [some (.box (aV v_)), some (.box (aV x_)), some (.box (aT t_)), some (.box (aV y10)), some (.box (aV y21.1)), some (.box (aV y22.1))]) (by kernel_rfl) ?_
                obtain ⟨y26, hy26, hq⟩ := bind_inv hq
                refine callF (d := some 64) (by kernel_rfl) (t_value_Refines_ok hb he y22.1 y21.1 y26 hy26) ?_
                refine runF 2 (T' := sl 82 [(8, c1 (.ptr 4 0 0)), (9, c1 (vi y21.2)), (10, c1 (.ptr 5 0 0)), (11, c1 (vi y22.2)), (58, c1 (vB (decide (y21.2 = 0)))), (59, c1 (vi y22.2)), (60, c1 (vB false)), (61, c1 (vB false)), (62, .one (.agg (aV y22.1))), (63, .one (.agg (aV y21.1))), (64, c1 (vB y26)), (65, c1 (vB y26)), (66, c1 (vB y26))]) (σ' := [some (.box (aV v_)), some (.box (aV x_)), some (.box (aT t_)), some (.box (aV y10)), some (.box (aV y21.1)), some (.box (aV y22.1))]) (by kernel_rfl) ?_
                refine partsF (y26) (fun zz => sl 82 [(8, c1 (.ptr 4 0 0)), (9, c1 (vi y21.2)), (10, c1 (.ptr 5 0 0)), (11, c1 (vi y22.2)), (58, c1 (vB (decide (y21.2 = 0)))), (59, c1 (vi y22.2)), (60, c1 (vB false)), (61, c1 (vB false)), (62, .one (.agg (aV y22.1))), (63, .one (.agg (aV y21.1))), (64, c1 (vB zz)), (65, c1 (vB zz)), (66, c1 (vB zz))]) (by kernel_rfl) (fun hc27 => ?_) (fun hc27 => ?_)
                · replace hq := cond_t hc27 hq
                  obtain ⟨y28, hy28, hq⟩ := bind_inv hq
                  refine callF (d := some 67) (by kernel_rfl) (g_l11_awake_ok hb he  y28 hy28) ?_
                  refine lastK (T' := sl 82 [(6, c1 (vB y28))]) (σ' := [some (.box (aV v_)), some (.box (aV x_)), some (.box (aT t_)), some (.box (aV y10)), some (.box (aV y21.1)), some (.box (aV y22.1))]) (by kernel_rfl) hR ?_
                  refine L_ret ?_
                  have h0 := Option.some.inj hq
                  obtain rfl := h0
                  exact end_ret (by kernel_rfl)
                · replace hq := cond_f hc27 hq
                  refine lastK (T' := sl 82 [(6, c1 (vB false))]) (σ' := [some (.box (aV v_)), some (.box (aV x_)), some (.box (aT t_)), some (.box (aV y10)), some (.box (aV y21.1)), some (.box (aV y22.1))]) (by kernel_rfl) hR ?_
                  refine L_ret ?_
                  have h0 := Option.some.inj hq
                  obtain rfl := h0
                  exact end_ret (by kernel_rfl)
            · replace hq := cond_f hc23 hq
              refine L_skip (L_seq ?_)
              refine L_regK hb [6] (fun R hR => ?_)
              refine runF 3 (T' := sl 82 [(8, c1 (.ptr 4 0 0)), (9, c1 (vi y21.2)), (10, c1 (.ptr 5 0 0)), (11, c1 (vi y22.2)), (58, c1 (vB (decide (y21.2 = 0)))), (69, c1 (vi y21.2)), (70, c1 (vB (!decide (y21.2 = 6)))), (71, c1 (vB (!decide (y21.2 = 6))))]) (σ' := [some (.box (aV v_)), some (.box (aV x_)), some (.box (aT t_)), some (.box (aV y10)), some (.box (aV y21.1)), some (.box (aV y22.1))]) (by kernel_rfl) ?_
              refine partsF ((!decide (y21.2 = 6))) (fun zz => sl 82 [(8, c1 (.ptr 4 0 0)), (9, c1 (vi y21.2)), (10, c1 (.ptr 5 0 0)), (11, c1 (vi y22.2)), (58, c1 (vB (decide (y21.2 = 0)))), (69, c1 (vi y21.2)), (70, c1 (vB zz)), (71, c1 (vB zz))]) (by kernel_rfl) (fun hc29 => ?_) (fun hc29 => ?_)
              · replace hq := cond_t hc29 hq
                refine runF 4 (T' := sl 82 [(8, c1 (.ptr 4 0 0)), (9, c1 (vi y21.2)), (10, c1 (.ptr 5 0 0)), (11, c1 (vi y22.2)), (58, c1 (vB (decide (y21.2 = 0)))), (69, c1 (vi y21.2)), (70, c1 (vB true)), (71, c1 (vB true)), (72, c1 (vi y21.2)), (73, c1 (vB (!decide (y21.2 = 13)))), (74, c1 (vB (!decide (y21.2 = 13)))), (75, c1 (vB (!decide (y21.2 = 13))))]) (σ' := [some (.box (aV v_)), some (.box (aV x_)), some (.box (aT t_)), some (.box (aV y10)), some (.box (aV y21.1)), some (.box (aV y22.1))]) (by kernel_rfl) ?_
                refine partsF ((!decide (y21.2 = 13))) (fun zz => sl 82 [(8, c1 (.ptr 4 0 0)), (9, c1 (vi y21.2)), (10, c1 (.ptr 5 0 0)), (11, c1 (vi y22.2)), (58, c1 (vB (decide (y21.2 = 0)))), (69, c1 (vi y21.2)), (70, c1 (vB true)), (71, c1 (vB true)), (72, c1 (vi y21.2)), (73, c1 (vB zz)), (74, c1 (vB zz)), (75, c1 (vB zz))]) (by kernel_rfl) (fun hc30 => ?_) (fun hc30 => ?_)
                · replace hq := cond_t hc30 hq
                  refine runF 4 (T' := sl 82 [(8, c1 (.ptr 4 0 0)), (9, c1 (vi y21.2)), (10, c1 (.ptr 5 0 0)), (11, c1 (vi y22.2)), (58, c1 (vB (decide (y21.2 = 0)))), (69, c1 (vi y21.2)), (70, c1 (vB true)), (71, c1 (vB true)), (72, c1 (vi y21.2)), (73, c1 (vB true)), (74, c1 (vB true)), (75, c1 (vB true)), (76, c1 (.undef)), (77, c1 (.undef)), (78, c1 (vB true)), (79, c1 (vB true))]) (σ' := [some (.box (aV v_)), some (.box (aV x_)), some (.box (aT t_)), some (.box (aV y10)), some (.box (aV y21.1)), some (.box (aV y22.1))]) (by kernel_rfl) ?_
                  obtain ⟨y31, hy31, hq⟩ := bind_inv hq
                  refine callF (d := some 80) (by kernel_rfl) (g_l11_awake_ok hb he  y31 hy31) ?_
                  refine lastK (T' := sl 82 [(6, c1 (vB y31))]) (σ' := [some (.box (aV v_)), some (.box (aV x_)), some (.box (aT t_)), some (.box (aV y10)), some (.box (aV y21.1)), some (.box (aV y22.1))]) (by kernel_rfl) hR ?_
                  refine L_ret ?_
                  have h0 := Option.some.inj hq
                  obtain rfl := h0
                  exact end_ret (by kernel_rfl)
                · replace hq := cond_f hc30 hq
                  refine runF 4 (T' := sl 82 [(8, c1 (.ptr 4 0 0)), (9, c1 (vi y21.2)), (10, c1 (.ptr 5 0 0)), (11, c1 (vi y22.2)), (58, c1 (vB (decide (y21.2 = 0)))), (69, c1 (vi y21.2)), (70, c1 (vB true)), (71, c1 (vB true)), (72, c1 (vi y21.2)), (73, c1 (vB false)), (74, c1 (vB false)), (75, c1 (vB false)), (76, c1 (vi y22.2)), (77, c1 (vB (!decide (y22.2 = 0)))), (78, c1 (vB (!decide (y22.2 = 0)))), (79, c1 (vB (!decide (y22.2 = 0))))]) (σ' := [some (.box (aV v_)), some (.box (aV x_)), some (.box (aT t_)), some (.box (aV y10)), some (.box (aV y21.1)), some (.box (aV y22.1))]) (by kernel_rfl) ?_
                  refine partsF ((!decide (y22.2 = 0))) (fun zz => sl 82 [(8, c1 (.ptr 4 0 0)), (9, c1 (vi y21.2)), (10, c1 (.ptr 5 0 0)), (11, c1 (vi y22.2)), (58, c1 (vB (decide (y21.2 = 0)))), (69, c1 (vi y21.2)), (70, c1 (vB true)), (71, c1 (vB true)), (72, c1 (vi y21.2)), (73, c1 (vB false)), (74, c1 (vB false)), (75, c1 (vB false)), (76, c1 (vi y22.2)), (77, c1 (vB zz)), (78, c1 (vB zz)), (79, c1 (vB zz))]) (by kernel_rfl) (fun hc32 => ?_) (fun hc32 => ?_)
                  · replace hq := cond_t hc32 hq
                    obtain ⟨y33, hy33, hq⟩ := bind_inv hq
                    refine callF (d := some 80) (by kernel_rfl) (g_l11_awake_ok hb he  y33 hy33) ?_
                    refine lastK (T' := sl 82 [(6, c1 (vB y33))]) (σ' := [some (.box (aV v_)), some (.box (aV x_)), some (.box (aT t_)), some (.box (aV y10)), some (.box (aV y21.1)), some (.box (aV y22.1))]) (by kernel_rfl) hR ?_
                    refine L_ret ?_
                    have h0 := Option.some.inj hq
                    obtain rfl := h0
                    exact end_ret (by kernel_rfl)
                  · replace hq := cond_f hc32 hq
                    refine lastK (T' := sl 82 [(6, c1 (vB false))]) (σ' := [some (.box (aV v_)), some (.box (aV x_)), some (.box (aT t_)), some (.box (aV y10)), some (.box (aV y21.1)), some (.box (aV y22.1))]) (by kernel_rfl) hR ?_
                    refine L_ret ?_
                    have h0 := Option.some.inj hq
                    obtain rfl := h0
                    exact end_ret (by kernel_rfl)
              · replace hq := cond_f hc29 hq
                refine runF 8 (T' := sl 82 [(8, c1 (.ptr 4 0 0)), (9, c1 (vi y21.2)), (10, c1 (.ptr 5 0 0)), (11, c1 (vi y22.2)), (58, c1 (vB (decide (y21.2 = 0)))), (69, c1 (vi y21.2)), (70, c1 (vB false)), (71, c1 (vB false)), (72, c1 (.undef)), (73, c1 (.undef)), (74, c1 (vB false)), (75, c1 (vB false)), (76, c1 (vi y22.2)), (77, c1 (vB (!decide (y22.2 = 0)))), (78, c1 (vB (!decide (y22.2 = 0)))), (79, c1 (vB (!decide (y22.2 = 0))))]) (σ' := [some (.box (aV v_)), some (.box (aV x_)), some (.box (aT t_)), some (.box (aV y10)), some (.box (aV y21.1)), some (.box (aV y22.1))]) (by kernel_rfl) ?_
                refine partsF ((!decide (y22.2 = 0))) (fun zz => sl 82 [(8, c1 (.ptr 4 0 0)), (9, c1 (vi y21.2)), (10, c1 (.ptr 5 0 0)), (11, c1 (vi y22.2)), (58, c1 (vB (decide (y21.2 = 0)))), (69, c1 (vi y21.2)), (70, c1 (vB false)), (71, c1 (vB false)), (72, c1 (.undef)), (73, c1 (.undef)), (74, c1 (vB false)), (75, c1 (vB false)), (76, c1 (vi y22.2)), (77, c1 (vB zz)), (78, c1 (vB zz)), (79, c1 (vB zz))]) (by kernel_rfl) (fun hc34 => ?_) (fun hc34 => ?_)
                · replace hq := cond_t hc34 hq
                  obtain ⟨y35, hy35, hq⟩ := bind_inv hq
                  refine callF (d := some 80) (by kernel_rfl) (g_l11_awake_ok hb he  y35 hy35) ?_
                  refine lastK (T' := sl 82 [(6, c1 (vB y35))]) (σ' := [some (.box (aV v_)), some (.box (aV x_)), some (.box (aT t_)), some (.box (aV y10)), some (.box (aV y21.1)), some (.box (aV y22.1))]) (by kernel_rfl) hR ?_
                  refine L_ret ?_
                  have h0 := Option.some.inj hq
                  obtain rfl := h0
                  exact end_ret (by kernel_rfl)
                · replace hq := cond_f hc34 hq
                  refine lastK (T' := sl 82 [(6, c1 (vB false))]) (σ' := [some (.box (aV v_)), some (.box (aV x_)), some (.box (aT t_)), some (.box (aV y10)), some (.box (aV y21.1)), some (.box (aV y22.1))]) (by kernel_rfl) hR ?_
                  refine L_ret ?_
                  have h0 := Option.some.inj hq
                  obtain rfl := h0
                  exact end_ret (by kernel_rfl)
noncomputable def g_types_every_i5 (r_types_Fits : Val → Ty → Option (Bool)) (t_ : List Ty) (x3 : Val) : Option (Bool) :=
  (idx t_ 0).bind fun x4 => (r_types_Fits x3 x4).bind fun y5 => some (!y5)
theorem g_types_every_i5_ok (hb : Base E E0 G) (he : ∀ w, E w → EnvV w) (r_types_Fits : Val → Ty → Option (Bool)) (hr_types_Fits : ∀ (a0 : Val) (a1 : Ty) (r : Bool), r_types_Fits a0 a1 = some r → Pure E E0 Tryd.prog 13 [.agg (aV a0), .agg (aT a1)] (c1 (vB r))) (t_ : List Ty) (x3 : Val) (r_ : Bool) (hq : g_types_every_i5 r_types_Fits t_ x3 = some r_) :
    Ok E E0 Tryd.prog 42 [.agg (aV x3), .cell (.ptr 0 0 0)] [some (.box [vL flT t_])] (c1 (vB r_)) [some (.box [vL flT t_])] := by
  refine ok_L Tryd.func42 rfl ?_
  refine L_keepF [0, 1] (T' := sl 10 [(0, .one (.agg (aV x3))), (1, c1 (.ptr 0 0 0))]) (by kernel_rfl) ?_
  refine L_seq ?_
  refine L_regF hb [1, 2] (T' := sl 10 [(1, c1 (.ptr 0 0 0)), (2, c1 (.ptr 1 0 0))]) (σ' := [some (.box [vL flT t_]), some (.box (aV x3))]) (by kernel_rfl) ?_
  refine L_seq ?_
  refine L_drwK hb mixed [3] 4 (by kernel_rfl) (by kernel_rfl) (fun R hR => ?_)
  refine runF 2 (T' := sl 10 [(1, c1 (.ptr 0 0 0)), (2, c1 (.ptr 1 0 0)), (4, .one (.agg (aV x3))), (5, c1 (vL flT t_))]) (σ' := [some (.box [vL flT t_]), some (.box (aV x3))]) (by kernel_rfl) ?_
  obtain ⟨x4, hx4, hq⟩ := bind_inv hq
  refine idxF flT (d := some 6) hx4 (by kernel_rfl) ?_
  refine lastF (T' := sl 10 [(1, c1 (.ptr 0 0 0)), (2, c1 (.ptr 1 0 0)), (4, .one (.agg (aV x3))), (5, c1 (vL flT t_)), (6, c1 (.pv (.pp (flT.c x4 ++ flT.f (List.drop ((0 : Int).toNat + 1) t_))))), (7, .one (.agg (aT x4)))]) (σ' := [some (.box [vL flT t_]), some (.box (aV x3))]) (by kernel_rfl) ?_
  obtain ⟨y5, hy5, hq⟩ := bind_inv hq
  refine callF (d := some 8) (by kernel_rfl) (hr_types_Fits x3 x4 y5 hy5) ?_
  refine lastK (T' := sl 10 [(3, c1 (vB (!y5)))]) (σ' := [some (.box [vL flT t_]), some (.box (aV x3))]) (by kernel_rfl) hR ?_
  refine L_backF [3] [] 1 (T' := sl 10 [(3, c1 (vB (!y5)))]) (σ' := [some (.box [vL flT t_])]) (by kernel_rfl) (by kernel_rfl) (by simp) (by kernel_rfl) ⟨(by kernel_rfl), trivial⟩ ?_
  refine L_ret ?_
  have h0 := Option.some.inj hq
  obtain rfl := h0
  exact endO (by kernel_rfl)
noncomputable def g_types_every_i2_L1 (r_types_Fits : Val → Ty → Option (Bool)) (l_ : List Val) (t_ : List Ty) (s1 : Int) : Option ((Int) ⊕ (Int)) :=
  bif (decide (s1 < (l_.length : Int))) then (idx l_ s1).bind fun x3 => (g_types_every_i5 r_types_Fits t_ x3).bind fun y6 => bif y6 then some (.inr (s1)) else some (.inl (IntKind.i64.wrap (s1 + 1))) else some (.inr (-1))
noncomputable def g_types_every_i2 (r_types_Fits : Val → Ty → Option (Bool)) (l_ : List Val) (t_ : List Ty) : Option (Int) :=
  loopO (g_types_every_i2_L1 r_types_Fits l_ t_) 0
theorem g_types_every_i2_ok (hb : Base E E0 G) (he : ∀ w, E w → EnvV w) (r_types_Fits : Val → Ty → Option (Bool)) (hr_types_Fits : ∀ (a0 : Val) (a1 : Ty) (r : Bool), r_types_Fits a0 a1 = some r → Pure E E0 Tryd.prog 13 [.agg (aV a0), .agg (aT a1)] (c1 (vB r))) (l_ : List Val) (t_ : List Ty) (r_ : Int) (hq : g_types_every_i2 r_types_Fits l_ t_ = some r_) :
    Ok E E0 Tryd.prog 60 [.cell (vL flV l_), .cell (.fn 42 [(0, 0, 0)])] [some (.box [vL flT t_])] (c1 (vi r_)) [some (.box [vL flT t_])] := by
  refine ok_L Tryd.func60 rfl ?_
  refine L_keepF [0, 1] (T' := sl 19 [(0, c1 (vL flV l_)), (1, c1 (.fn 42 [(0, 0, 0)]))]) (by kernel_rfl) ?_
  refine L_seq ?_
  refine L_regF hb [0, 1] (T' := sl 19 [(0, c1 (vL flV l_)), (1, c1 (.fn 42 [(0, 0, 0)]))]) (σ' := [some (.box [vL flT t_])]) (by kernel_rfl) ?_
  refine L_seq (L_seq ?_)
  refine L_regF hb [0, 1, 7, 8] (T' := sl 19 [(0, c1 (vL flV l_)), (1, c1 (.fn 42 [(0, 0, 0)])), (7, c1 (vi (l_.length : Int))), (8, c1 (vi 0))]) (σ' := [some (.box [vL flT t_])]) (by kernel_rfl) ?_
  refine L_block (fun K1 hA1 hB1 hC1 hD1 => ?_)
  refine L_backF [0, 1, 7, 8] [] 1 (T' := sl 19 [(0, c1 (vL flV l_)), (1, c1 (.fn 42 [(0, 0, 0)])), (7, c1 (vi (l_.length : Int))), (8, c1 (vi 0))]) (σ' := [some (.box [vL flT t_])]) (by kernel_rfl) (by kernel_rfl) (by simp) (by kernel_rfl) ⟨(by kernel_rfl), trivial⟩ ?_
  refine L_as (by kernel_rfl) (by kernel_rfl) (L_loopO (body := (g_types_every_i2_L1 r_types_Fits l_ t_)) (fun s1 => sl 19 [(0, c1 (vL flV l_)), (1, c1 (.fn 42 [(0, 0, 0)])), (7, c1 (vi (l_.length : Int))), (8, c1 (vi s1))]) (fun s1 => [some (.box [vL flT t_])]) (s0 := 0) (fun s1 x1 hq hn1 he1 => ?_) hq)
  refine L_seq ?_
  refine L_regF hb [0, 1, 7, 8, 9] (T' := sl 19 [(0, c1 (vL flV l_)), (1, c1 (.fn 42 [(0, 0, 0)])), (7, c1 (vi (l_.length : Int))), (8, c1 (vi s1)), (9, c1 (vB (decide (s1 < (l_.length : Int)))))]) (σ' := [some (.box [vL flT t_])]) (by kernel_rfl) ?_
  refine L_seq ?_
  refine L_if hb (b := (decide (s1 < (l_.length : Int)))) (by kernel_rfl) (fun hc2 => ?_) (fun hc2 => ?_)
  · replace hq := cond_t hc2 hq
    refine L_skip (L_seq (L_block (fun K2 hA2 hB2 hC2 hD2 => (L_seq ?_))))
    refine L_regF hb [0, 1, 5, 7, 8] (T' := sl 19 [(0, c1 (vL flV l_)), (1, c1 (.fn 42 [(0, 0, 0)])), (5, c1 (vi s1)), (7, c1 (vi (l_.length : Int))), (8, c1 (vi s1))]) (σ' := [some (.box [vL flT t_])]) (by kernel_rfl) ?_
    refine L_seq ?_
    refine L_regK hb [0, 1, 5, 7, 8, 16] (fun R hR => ?_)
    refine runF 3 (T' := sl 19 [(0, c1 (vL flV l_)), (1, c1 (.fn 42 [(0, 0, 0)])), (5, c1 (vi s1)), (7, c1 (vi (l_.length : Int))), (8, c1 (vi s1)), (11, c1 (.fn 42 [(0, 0, 0)])), (12, c1 (vL flV l_)), (13, c1 (vi s1))]) (σ' := [some (.box [vL flT t_])]) (by kernel_rfl) ?_
    obtain ⟨x3, hx3, hq⟩ := bind_inv hq
    refine idxF flV (d := some 14) hx3 (by kernel_rfl) ?_
    refine runF 1 (T' := sl 19 [(0, c1 (vL flV l_)), (1, c1 (.fn 42 [(0, 0, 0)])), (5, c1 (vi s1)), (7, c1 (vi (l_.length : Int))), (8, c1 (vi s1)), (11, c1 (.fn 42 [(0, 0, 0)])), (12, c1 (vL flV l_)), (13, c1 (vi s1)), (14, c1 (.pv (.pp (flV.c x3 ++ flV.f (List.drop (s1.toNat + 1) l_))))), (15, .one (.agg (aV x3)))]) (σ' := [some (.box [vL flT t_])]) (by kernel_rfl) ?_
    obtain ⟨y6, hy6, hq⟩ := bind_inv hq
    refine callOF (d := some 16) (by kernel_rfl) (g_types_every_i5_ok hb he r_types_Fits hr_types_Fits t_ x3 y6 hy6) ?_
    refine lastK (T' := sl 19 [(0, c1 (vL flV l_)), (1, c1 (.fn 42 [(0, 0, 0)])), (5, c1 (vi s1)), (7, c1 (vi (l_.length : Int))), (8, c1 (vi s1)), (16, c1 (vB y6))]) (σ' := [some (.box [vL flT t_])]) (by kernel_rfl) hR ?_
    refine L_if hb (b := y6) (by kernel_rfl) (fun hc7 => ?_) (fun hc7 => ?_)
    · replace hq := cond_t hc7 hq
      refine L_seq ?_
      refine L_regF hb [4] (T' := sl 19 [(4, c1 (vi s1))]) (σ' := [some (.box [vL flT t_])]) (by kernel_rfl) ?_
      refine L_backF [4] [] 1 (T' := sl 19 [(4, c1 (vi s1))]) (σ' := [some (.box [vL flT t_])]) (by kernel_rfl) (by kernel_rfl) (by simp) (by kernel_rfl) ⟨(by kernel_rfl), trivial⟩ ?_
      refine L_ret (hD2 _ _ (hD1 _ _ ?_))
      have h0 := (Option.some.inj hq).symm
      replace h0 := he1 _ h0
      obtain rfl := h0
      exact endO (by kernel_rfl)
    · replace hq := cond_f hc7 hq
      refine L_skip (L_nil (hA2 _ _ ?_))
      refine L_regF hb [0, 1, 7, 8] (T' := sl 19 [(0, c1 (vL flV l_)), (1, c1 (.fn 42 [(0, 0, 0)])), (7, c1 (vi (l_.length : Int))), (8, c1 (vi (IntKind.i64.wrap (s1 + 1))))]) (σ' := [some (.box [vL flT t_])]) (by kernel_rfl) ?_
      refine L_backF [0, 1, 7, 8] [] 1 (T' := sl 19 [(0, c1 (vL flV l_)), (1, c1 (.fn 42 [(0, 0, 0)])), (7, c1 (vi (l_.length : Int))), (8, c1 (vi (IntKind.i64.wrap (s1 + 1))))]) (σ' := [some (.box [vL flT t_])]) (by kernel_rfl) (by kernel_rfl) (by simp) (by kernel_rfl) ⟨(by kernel_rfl), trivial⟩ ?_
      have h0 := (Option.some.inj hq).symm
      exact L_as (by kernel_rfl) (by kernel_rfl) (hn1 _ h0)
  · replace hq := cond_f hc2 hq
    refine L_exit (hB1 _ _ (L_seq ?_))
    refine L_regF hb [4] (T' := sl 19 [(4, c1 (vi (-1)))]) (σ' := [some (.box [vL flT t_])]) (by kernel_rfl) ?_
    refine L_backF [4] [] 1 (T' := sl 19 [(4, c1 (vi (-1)))]) (σ' := [some (.box [vL flT t_])]) (by kernel_rfl) (by kernel_rfl) (by simp) (by kernel_rfl) ⟨(by kernel_rfl), trivial⟩ ?_
    refine L_ret ?_
    have h0 := (Option.some.inj hq).symm
    replace h0 := he1 _ h0
    obtain rfl := h0
    exact endO (by kernel_rfl)
noncomputable def g_types_every_i1 (r_types_Fits : Val → Ty → Option (Bool)) (l_ : List Val) (t_ : List Ty) : Option (Bool) :=
  (g_types_every_i2 r_types_Fits l_ t_).bind fun y8 => some (decide (y8 ≥ 0))
theorem g_types_every_i1_ok (hb : Base E E0 G) (he : ∀ w, E w → EnvV w) (r_types_Fits : Val → Ty → Option (Bool)) (hr_types_Fits : ∀ (a0 : Val) (a1 : Ty) (r : Bool), r_types_Fits a0 a1 = some r → Pure E E0 Tryd.prog 13 [.agg (aV a0), .agg (aT a1)] (c1 (vB r))) (l_ : List Val) (t_ : List Ty) (r_ : Bool) (hq : g_types_every_i1 r_types_Fits l_ t_ = some r_) :
    Ok E E0 Tryd.prog 41 [.cell (vL flV l_), .cell (.fn 42 [(0, 0, 0)])] [some (.box [vL flT t_])] (c1 (vB r_)) [some (.box [vL flT t_])] := by
  refine ok_L Tryd.func41 rfl ?_
  refine L_keepF [0, 1] (T' := sl 9 [(0, c1 (vL flV l_)), (1, c1 (.fn 42 [(0, 0, 0)]))]) (by kernel_rfl) ?_
  refine L_seq ?_
  refine L_regF hb [0, 1] (T' := sl 9 [(0, c1 (vL flV l_)), (1, c1 (.fn 42 [(0, 0, 0)]))]) (σ' := [some (.box [vL flT t_])]) (by kernel_rfl) ?_
  refine L_seq ?_
  refine L_regK hb [4] (fun R hR => ?_)
  refine runF 2 (T' := sl 9 [(0, c1 (vL flV l_)), (1, c1 (.fn 42 [(0, 0, 0)])), (5, c1 (vL flV l_)), (6, c1 (.fn 42 [(0, 0, 0)]))]) (σ' := [some (.box [vL flT t_])]) (by kernel_rfl) ?_
  obtain ⟨y8, hy8, hq⟩ := bind_inv hq
  refine callOF (d := some 7) (by kernel_rfl) (g_types_every_i2_ok hb he r_types_Fits hr_types_Fits l_ t_ y8 hy8) ?_
  refine lastK (T' := sl 9 [(4, c1 (vB (decide (y8 ≥ 0))))]) (σ' := [some (.box [vL flT t_])]) (by kernel_rfl) hR ?_
  refine L_backF [4] [] 1 (T' := sl 9 [(4, c1 (vB (decide (y8 ≥ 0))))]) (σ' := [some (.box [vL flT t_])]) (by kernel_rfl) (by kernel_rfl) (by simp) (by kernel_rfl) ⟨(by kernel_rfl), trivial⟩ ?_
  refine L_ret ?_
  have h0 := Option.some.inj hq
  obtain rfl := h0
  exact endO (by kernel_rfl)
noncomputable def g_types_every (r_types_Fits : Val → Ty → Option (Bool)) (l_ : List Val) (t_ : List Ty) : Option (Bool) :=
  bif (decide ((t_.length : Int) > 0)) then (g_types_every_i1 r_types_Fits l_ t_).bind fun y9 => some (!y9) else some (false)
theorem g_types_every_ok (hb : Base E E0 G) (he : ∀ w, E w → EnvV w) (r_types_Fits : Val → Ty → Option (Bool)) (hr_types_Fits : ∀ (a0 : Val) (a1 : Ty) (r : Bool), r_types_Fits a0 a1 = some r → Pure E E0 Tryd.prog 13 [.agg (aV a0), .agg (aT a1)] (c1 (vB r))) (l_ : List Val) (t_ : List Ty) (r_ : Bool) (hq : g_types_every r_types_Fits l_ t_ = some r_) :
    Pure E E0 Tryd.prog 27 [.cell (vL flV l_), .cell (vL flT t_)] (c1 (vB r_)) := by
  refine pure_L Tryd.func27 rfl ?_
  refine L_keepF [0, 1] (T' := sl 14 [(0, c1 (vL flV l_)), (1, c1 (vL flT t_))]) (by kernel_rfl) ?_
  refine L_seq ?_
  refine L_regF hb [0, 3] (T' := sl 14 [(0, c1 (vL flV l_)), (3, c1 (.ptr 0 0 0))]) (σ' := [some (.box [vL flT t_])]) (by kernel_rfl) ?_
  refine L_seq ?_
  refine L_regK hb [4] (fun R hR => ?_)
  refine runF 4 (T' := sl 14 [(0, c1 (vL flV l_)), (3, c1 (.ptr 0 0 0)), (5, c1 (vL flT t_)), (6, c1 (vi (t_.length : Int))), (7, c1 (vB (decide ((t_.length : Int) > 0)))), (8, c1 (vB (decide ((t_.length : Int) > 0))))]) (σ' := [some (.box [vL flT t_])]) (by kernel_rfl) ?_
  refine partsF ((decide ((t_.length : Int) > 0))) (fun zz => sl 14 [(0, c1 (vL flV l_)), (3, c1 (.ptr 0 0 0)), (5, c1 (vL flT t_)), (6, c1 (vi (t_.length : Int))), (7, c1 (vB zz)), (8, c1 (vB zz))]) (by kernel_rfl) (fun hc1 => ?_) (fun hc1 => ?_)
  · replace hq := cond_t hc1 hq
    refine runF 2 (T' := sl 14 [(0, c1 (vL flV l_)), (3, c1 (.ptr 0 0 0)), (5, c1 (vL flT t_)), (6, c1 (vi (t_.length : Int))), (7, c1 (vB true)), (8, c1 (vB true)), (9, c1 (vL flV l_)), (10, c1 (.fn 42 [(0, 0, 0)]))]) (σ' := [some (.box [vL flT t_])]) (by kernel_rfl) ?_
    obtain ⟨y9, hy9, hq⟩ := bind_inv hq
    refine callOF (d := some 11) (by kernel_rfl) (g_types_every_i1_ok hb he r_types_Fits hr_types_Fits l_ t_ y9 hy9) ?_
    refine lastK (T' := sl 14 [(4, c1 (vB (!y9)))]) (σ' := [some (.box [vL flT t_])]) (by kernel_rfl) hR ?_
    refine L_ret ?_
    have h0 := Option.some.inj hq
    obtain rfl := h0
    exact end_ret (by kernel_rfl)
  · replace hq := cond_f hc1 hq
    refine lastK (T' := sl 14 [(4, c1 (vB false))]) (σ' := [some (.box [vL flT t_])]) (by kernel_rfl) hR ?_
    refine L_ret ?_
    have h0 := Option.some.inj hq
    obtain rfl := h0
    exact end_ret (by kernel_rfl)
noncomputable def g_types_Fits_L1 (r_types_Fits : Val → Ty → Option (Bool)) (v_ : Val) (t_ : Ty) (s1 : Int) : Option ((Int) ⊕ (Bool)) :=
  bif (decide (s1 < (v_.items.length : Int))) then (idx v_.items s1).bind fun x18 => (idx t_.elems s1).bind fun x19 => (r_types_Fits x18 x19).bind fun y20 => bif (!y20) then some (.inr (false)) else some (.inl (IntKind.i64.wrap (s1 + 1))) else some (.inr (true))
noncomputable def g_types_Fits (r_types_every : List Val → List Ty → Option (Bool)) (r_types_Fits : Val → Ty → Option (Bool)) (v_ : Val) (t_ : Ty) : Option (Bool) :=
  bif (decide (v_.kind = 0)) then some (true) else bif (decide (v_.kind = 6)) then some (true) else bif (decide (t_.kind = 0)) then some (true) else bif (decide (t_.kind = 1)) then some (decide (v_.kind = 1)) else bif (decide (t_.kind = 2)) then some (decide (v_.kind = 2)) else bif (decide (t_.kind = 3)) then some (decide (v_.kind = 3)) else bif (decide (t_.kind = 4)) then bif (decide (v_.kind = 4)) then (r_types_every v_.items t_.elems).bind fun y9 => some (y9) else some (false) else bif (decide (t_.kind = 5)) then bif (decide (v_.kind = 5)) then (r_types_every v_.items t_.elems).bind fun y12 => some (y12) else some (false) else bif (!decide (v_.kind = 5)) then some (false) else (g_slices_Equal v_.keys t_.names).bind fun y14 => bif (!y14) then some (false) else bif (!decide ((v_.items.length : Int) = (t_.elems.length : Int))) then some (false) else loopO (g_types_Fits_L1 r_types_Fits v_ t_) 0
theorem g_types_Fits_ok (hb : Base E E0 G) (he : ∀ w, E w → EnvV w) (r_types_every : List Val → List Ty → Option (Bool)) (r_types_Fits : Val → Ty → Option (Bool)) (hr_types_every : ∀ (a0 : List Val) (a1 : List Ty) (r : Bool), r_types_every a0 a1 = some r → Pure E E0 Tryd.prog 27 [.cell (vL flV a0), .cell (vL flT a1)] (c1 (vB r))) (hr_types_Fits : ∀ (a0 : Val) (a1 : Ty) (r : Bool), r_types_Fits a0 a1 = some r → Pure E E0 Tryd.prog 13 [.agg (aV a0), .agg (aT a1)] (c1 (vB r))) (v_ : Val) (t_ : Ty) (r_ : Bool) (hq : g_types_Fits r_types_every r_types_Fits v_ t_ = some r_) :
    Pure E E0 Tryd.prog 13 [.agg (aV v_), .agg (aT t_)] (c1 (vB r_)) := by
  refine pure_L Tryd.func13 rfl ?_
  refine L_keepF [0, 1] (T' := sl 95 [(0, .one (.agg (aV v_))), (1, .one (.agg (aT t_)))]) (by kernel_rfl) ?_
  refine L_seq ?_
  refine L_regF hb [2, 3] (T' := sl 95 [(2, c1 (.ptr 0 0 0)), (3, c1 (.ptr 1 0 0))]) (σ' := [some (.box (aV v_)), some (.box (aT t_))]) (by kernel_rfl) ?_
  refine L_seq (L_seq ?_)
  refine L_regK hb [2, 3, 14] (fun R hR => ?_)
  refine runF 4 (T' := sl 95 [(2, c1 (.ptr 0 0 0)), (3, c1 (.ptr 1 0 0)), (7, c1 (.ptr 0 0 0)), (8, c1 (vi v_.kind)), (9, c1 (vB (decide (v_.kind = 0)))), (10, c1 (vB (decide (v_.kind = 0))))]) (σ' := [some (.box (aV v_)), some (.box (aT t_))]) (by kernel_rfl) ?_
  refine partsF ((decide (v_.kind = 0))) (fun zz => sl 95 [(2, c1 (.ptr 0 0 0)), (3, c1 (.ptr 1 0 0)), (7, c1 (.ptr 0 0 0)), (8, c1 (vi v_.kind)), (9, c1 (vB zz)), (10, c1 (vB zz))]) (by kernel_rfl) (fun hc1 => ?_) (fun hc1 => ?_)
  · replace hq := cond_t hc1 hq
    refine lastK (T' := sl 95 [(2, c1 (.ptr 0 0 0)), (3, c1 (.ptr 1 0 0)), (14, c1 (vB true))]) (σ' := [some (.box (aV v_)), some (.box (aT t_))]) (by kernel_rfl) hR ?_
    refine L_true hb (by kernel_rfl) (L_seq ?_)
    refine L_regF hb [4] (T' := sl 95 [(4, c1 (vB true))]) (σ' := [some (.box (aV v_)), some (.box (aT t_))]) (by kernel_rfl) ?_
    refine L_ret ?_
    have h0 := Option.some.inj hq
    obtain rfl := h0
    exact end_ret (by kernel_rfl)
  · replace hq := cond_f hc1 hq
    refine lastK (T' := sl 95 [(2, c1 (.ptr 0 0 0)), (3, c1 (.ptr 1 0 0)), (14, c1 (vB (decide (v_.kind = 6))))]) (σ' := [some (.box (aV v_)), some (.box (aT t_))]) (by kernel_rfl) hR ?_
    refine L_if hb (b := (decide (v_.kind = 6))) (by kernel_rfl) (fun hc2 => ?_) (fun hc2 => ?_)
    · replace hq := cond_t hc2 hq
      refine L_seq ?_
      refine L_regF hb [4] (T' := sl 95 [(4, c1 (vB true))]) (σ' := [some (.box (aV v_)), some (.box (aT t_))]) (by kernel_rfl) ?_
      refine L_ret ?_
      have h0 := Option.some.inj hq
      obtain rfl := h0
      exact end_ret (by kernel_rfl)
    · replace hq := cond_f hc2 hq
      refine L_skip (L_seq (L_seq ?_))
      refine L_regF hb [2, 3, 16] (T' := sl 95 [(2, c1 (.ptr 0 0 0)), (3, c1 (.ptr 1 0 0)), (16, c1 (vi t_.kind))]) (σ' := [some (.box (aV v_)), some (.box (aT t_))]) (by kernel_rfl) ?_
      refine L_block (fun K1 hA1 hB1 hC1 hD1 => (L_seq ?_))
      refine L_regF hb [2, 3, 16, 17] (T' := sl 95 [(2, c1 (.ptr 0 0 0)), (3, c1 (.ptr 1 0 0)), (16, c1 (vi t_.kind)), (17, c1 (vB (decide (t_.kind = 0))))]) (σ' := [some (.box (aV v_)), some (.box (aT t_))]) (by kernel_rfl) ?_
      refine L_if hb (b := (decide (t_.kind = 0))) (by kernel_rfl) (fun hc3 => ?_) (fun hc3 => ?_)
      · replace hq := cond_t hc3 hq
        refine L_seq ?_
        refine L_regF hb [4] (T' := sl 95 [(4, c1 (vB true))]) (σ' := [some (.box (aV v_)), some (.box (aT t_))]) (by kernel_rfl) ?_
        refine L_ret (hD1 _ _ ?_)
        have h0 := Option.some.inj hq
        obtain rfl := h0
        exact end_ret (by kernel_rfl)
      · replace hq := cond_f hc3 hq
        refine L_seq ?_
        refine L_regF hb [2, 3, 16, 19] (T' := sl 95 [(2, c1 (.ptr 0 0 0)), (3, c1 (.ptr 1 0 0)), (16, c1 (vi t_.kind)), (19, c1 (vB (decide (t_.kind = 1))))]) (σ' := [some (.box (aV v_)), some (.box (aT t_))]) (by kernel_rfl) ?_
        refine L_if hb (b := (decide (t_.kind = 1))) (by kernel_rfl) (fun hc4 => ?_) (fun hc4 => ?_)
        · replace hq := cond_t hc4 hq
          refine L_seq ?_
          refine L_regF hb [4] (T' := sl 95 [(4, c1 (vB (decide (v_.kind = 1))))]) (σ' := [some (.box (aV v_)), some (.box (aT t_))]) (by kernel_rfl) ?_
          refine L_ret (hD1 _ _ ?_)
          have h0 := Option.some.inj hq
          obtain rfl := h0
          exact end_ret (by kernel_rfl)
        · replace hq := cond_f hc4 hq
          refine L_seq ?_
          refine L_regF hb [2, 3, 16, 24] (T' := sl 95 [(2, c1 (.ptr 0 0 0)), (3, c1 (.ptr 1 0 0)), (16, c1 (vi t_.kind)), (24, c1 (vB (decide (t_.kind = 2))))]) (σ' := [some (.box (aV v_)), some (.box (aT t_))]) (by kernel_rfl) ?_
          refine L_if hb (b := (decide (t_.kind = 2))) (by kernel_rfl) (fun hc5 => ?_) (fun hc5 => ?_)
          · replace hq := cond_t hc5 hq
            refine L_seq ?_
            refine L_regF hb [4] (T' := sl 95 [(4, c1 (vB (decide (v_.kind = 2))))]) (σ' := [some (.box (aV v_)), some (.box (aT t_))]) (by kernel_rfl) ?_
            refine L_ret (hD1 _ _ ?_)
            have h0 := Option.some.inj hq
            obtain rfl := h0
            exact end_ret (by kernel_rfl)
          · replace hq := cond_f hc5 hq
            refine L_seq ?_
            refine L_regF hb [2, 3, 16, 29] (T' := sl 95 [(2, c1 (.ptr 0 0 0)), (3, c1 (.ptr 1 0 0)), (16, c1 (vi t_.kind)), (29, c1 (vB (decide (t_.kind = 3))))]) (σ' := [some (.box (aV v_)), some (.box (aT t_))]) (by kernel_rfl) ?_
            refine L_if hb (b := (decide (t_.kind = 3))) (by kernel_rfl) (fun hc6 => ?_) (fun hc6 => ?_)
            · replace hq := cond_t hc6 hq
              refine L_seq ?_
              refine L_regF hb [4] (T' := sl 95 [(4, c1 (vB (decide (v_.kind = 3))))]) (σ' := [some (.box (aV v_)), some (.box (aT t_))]) (by kernel_rfl) ?_
              refine L_ret (hD1 _ _ ?_)
              have h0 := Option.some.inj hq
              obtain rfl := h0
              exact end_ret (by kernel_rfl)
            · replace hq := cond_f hc6 hq
              refine L_seq ?_
              refine L_regF hb [2, 3, 16, 34] (T' := sl 95 [(2, c1 (.ptr 0 0 0)), (3, c1 (.ptr 1 0 0)), (16, c1 (vi t_.kind)), (34, c1 (vB (decide (t_.kind = 4))))]) (σ' := [some (.box (aV v_)), some (.box (aT t_))]) (by kernel_rfl) ?_
              refine L_if hb (b := (decide (t_.kind = 4))) (by kernel_rfl) (fun hc7 => ?_) (fun hc7 => ?_)
              · replace hq := cond_t hc7 hq
                refine L_seq ?_
                refine L_regK hb [4] (fun R hR => ?_)
                refine runF 4 (T' := sl 95 [(2, c1 (.ptr 0 0 0)), (3, c1 (.ptr 1 0 0)), (16, c1 (vi t_.kind)), (34, c1 (vB (decide (t_.kind = 4)))), (36, c1 (.ptr 0 0 0)), (37, c1 (vi v_.kind)), (38, c1 (vB (decide (v_.kind = 4)))), (39, c1 (vB (decide (v_.kind = 4))))]) (σ' := [some (.box (aV v_)), some (.box (aT t_))]) (by kernel_rfl) ?_
                refine partsF ((decide (v_.kind = 4))) (fun zz => sl 95 [(2, c1 (.ptr 0 0 0)), (3, c1 (.ptr 1 0 0)), (16, c1 (vi t_.kind)), (34, c1 (vB (decide (t_.kind = 4)))), (36, c1 (.ptr 0 0 0)), (37, c1 (vi v_.kind)), (38, c1 (vB zz)), (39, c1 (vB zz))]) (by kernel_rfl) (fun hc8 => ?_) (fun hc8 => ?_)
                · replace hq := cond_t hc8 hq
                  refine runF 4 (T' := sl 95 [(2, c1 (.ptr 0 0 0)), (3, c1 (.ptr 1 0 0)), (16, c1 (vi t_.kind)), (34, c1 (vB (decide (t_.kind = 4)))), (36, c1 (.ptr 0 0 0)), (37, c1 (vi v_.kind)), (38, c1 (vB true)), (39, c1 (vB true)), (40, c1 (.ptr 0 0 3)), (41, c1 (vL flV v_.items)), (42, c1 (.ptr 1 0 1)), (43, c1 (vL flT t_.elems))]) (σ' := [some (.box (aV v_)), some (.box (aT t_))]) (by kernel_rfl) ?_
                  obtain ⟨y9, hy9, hq⟩ := bind_inv hq
                  refine callF (d := some 44) (by kernel_rfl) (hr_types_every v_.items t_.elems y9 hy9) ?_
                  refine lastK (T' := sl 95 [(4, c1 (vB y9))]) (σ' := [some (.box (aV v_)), some (.box (aT t_))]) (by kernel_rfl) hR ?_
                  refine L_ret (hD1 _ _ ?_)
                  have h0 := Option.some.inj hq
                  obtain rfl := h0
                  exact end_ret (by kernel_rfl)
                · replace hq := cond_f hc8 hq
                  refine lastK (T' := sl 95 [(4, c1 (vB false))]) (σ' := [some (.box (aV v_)), some (.box (aT t_))]) (by kernel_rfl) hR ?_
                  refine L_ret (hD1 _ _ ?_)
                  have h0 := Option.some.inj hq
                  obtain rfl := h0
                  exact end_ret (by kernel_rfl)
              · replace hq := cond_f hc7 hq
                refine L_seq ?_
                refine L_regF hb [2, 3, 46] (T' := sl 95 [(2, c1 (.ptr 0 0 0)), (3, c1 (.ptr 1 0 0)), (46, c1 (vB (decide (t_.kind = 5))))]) (σ' := [some (.box (aV v_)), some (.box (aT t_))]) (by kernel_rfl) ?_
                refine L_if hb (b := (decide (t_.kind = 5))) (by kernel_rfl) (fun hc10 => ?_) (fun hc10 => ?_)
                · replace hq := cond_t hc10 hq
                  refine L_seq ?_
                  refine L_regK hb [4] (fun R hR => ?_)
                  refine runF 4 (T' := sl 95 [(2, c1 (.ptr 0 0 0)), (3, c1 (.ptr 1 0 0)), (46, c1 (vB (decide (t_.kind = 5)))), (48, c1 (.ptr 0 0 0)), (49, c1 (vi v_.kind)), (50, c1 (vB (decide (v_.kind = 5)))), (51, c1 (vB (decide (v_.kind = 5))))]) (σ' := [some (.box (aV v_)), some (.box (aT t_))]) (by kernel_rfl) ?_
                  refine partsF ((decide (v_.kind = 5))) (fun zz => sl 95 [(2, c1 (.ptr 0 0 0)), (3, c1 (.ptr 1 0 0)), (46, c1 (vB (decide (t_.kind = 5)))), (48, c1 (.ptr 0 0 0)), (49, c1 (vi v_.kind)), (50, c1 (vB zz)), (51, c1 (vB zz))]) (by kernel_rfl) (fun hc11 => ?_) (fun hc11 => ?_)
                  · replace hq := cond_t hc11 hq
                    refine runF 4 (T' := sl 95 [(2, c1 (.ptr 0 0 0)), (3, c1 (.ptr 1 0 0)), (46, c1 (vB (decide (t_.kind = 5)))), (48, c1 (.ptr 0 0 0)), (49, c1 (vi v_.kind)), (50, c1 (vB true)), (51, c1 (vB true)), (52, c1 (.ptr 0 0 3)), (53, c1 (vL flV v_.items)), (54, c1 (.ptr 1 0 1)), (55, c1 (vL flT t_.elems))]) (σ' := [some (.box (aV v_)), some (.box (aT t_))]) (by kernel_rfl) ?_
                    obtain ⟨y12, hy12, hq⟩ := bind_inv hq
                    refine callF (d := some 56) (by kernel_rfl) (hr_types_every v_.items t_.elems y12 hy12) ?_
                    refine lastK (T' := sl 95 [(4, c1 (vB y12))]) (σ' := [some (.box (aV v_)), some (.box (aT t_))]) (by kernel_rfl) hR ?_
                    refine L_ret (hD1 _ _ ?_)
                    have h0 := Option.some.inj hq
                    obtain rfl := h0
                    exact end_ret (by kernel_rfl)
                  · replace hq := cond_f hc11 hq
                    refine lastK (T' := sl 95 [(4, c1 (vB false))]) (σ' := [some (.box (aV v_)), some (.box (aT t_))]) (by kernel_rfl) hR ?_
                    refine L_ret (hD1 _ _ ?_)
                    have h0 := Option.some.inj hq
                    obtain rfl := h0
                    exact end_ret (by kernel_rfl)
                · replace hq := cond_f hc10 hq
                  refine L_skip (L_nil (hA1 _ _ (L_seq (L_seq ?_))))
                  refine L_regK hb [2, 3, 77] (fun R hR => ?_)
                  refine runF 4 (T' := sl 95 [(2, c1 (.ptr 0 0 0)), (3, c1 (.ptr 1 0 0)), (46, c1 (vB (decide (t_.kind = 5)))), (58, c1 (.ptr 0 0 0)), (59, c1 (vi v_.kind)), (60, c1 (vB (!decide (v_.kind = 5)))), (61, c1 (vB (!decide (v_.kind = 5))))]) (σ' := [some (.box (aV v_)), some (.box (aT t_))]) (by kernel_rfl) ?_
                  refine partsF ((!decide (v_.kind = 5))) (fun zz => sl 95 [(2, c1 (.ptr 0 0 0)), (3, c1 (.ptr 1 0 0)), (46, c1 (vB (decide (t_.kind = 5)))), (58, c1 (.ptr 0 0 0)), (59, c1 (vi v_.kind)), (60, c1 (vB zz)), (61, c1 (vB zz))]) (by kernel_rfl) (fun hc13 => ?_) (fun hc13 => ?_)
                  · replace hq := cond_t hc13 hq
                    refine lastK (T' := sl 95 [(2, c1 (.ptr 0 0 0)), (3, c1 (.ptr 1 0 0)), (77, c1 (vB true))]) (σ' := [some (.box (aV v_)), some (.box (aT t_))]) (by kernel_rfl) hR ?_
                    refine L_true hb (by kernel_rfl) (L_seq ?_)
                    refine L_regF hb [4] (T' := sl 95 [(4, c1 (vB false))]) (σ' := [some (.box (aV v_)), some (.box (aT t_))]) (by kernel_rfl) ?_
                    refine L_ret ?_
                    have h0 := Option.some.inj hq
                    obtain rfl := h0
                    exact end_ret (by kernel_rfl)
                  · replace hq := cond_f hc13 hq
                    refine runF 4 (T' := sl 95 [(2, c1 (.ptr 0 0 0)), (3, c1 (.ptr 1 0 0)), (46, c1 (vB (decide (t_.kind = 5)))), (58, c1 (.ptr 0 0 0)), (59, c1 (vi v_.kind)), (60, c1 (vB false)), (61, c1 (vB false)), (62, c1 (.ptr 0 0 4)), (63, c1 (vL flS v_.keys)), (64, c1 (.ptr 1 0 2)), (65, c1 (vL flS t_.names))]) (σ' := [some (.box (aV v_)), some (.box (aT t_))]) (by kernel_rfl) ?_
                    obtain ⟨y14, hy14, hq⟩ := bind_inv hq
                    refine callF (d := some 66) (by kernel_rfl) (g_slices_Equal_ok hb he v_.keys t_.names y14 hy14) ?_
                    refine runF 3 (T' := sl 95 [(2, c1 (.ptr 0 0 0)), (3, c1 (.ptr 1 0 0)), (46, c1 (vB (decide (t_.kind = 5)))), (58, c1 (.ptr 0 0 0)), (59, c1 (vi v_.kind)), (60, c1 (vB false)), (61, c1 (vB false)), (62, c1 (.ptr 0 0 4)), (63, c1 (vL flS v_.keys)), (64, c1 (.ptr 1 0 2)), (65, c1 (vL flS t_.names)), (66, c1 (vB y14)), (67, c1 (vB (!y14))), (68, c1 (vB (!y14))), (69, c1 (vB (!y14)))]) (σ' := [some (.box (aV v_)), some (.box (aT t_))]) (by kernel_rfl) ?_
                    refine partsF ((!y14)) (fun zz => sl 95 [(2, c1 (.ptr 0 0 0)), (3, c1 (.ptr 1 0 0)), (46, c1 (vB (decide (t_.kind = 5)))), (58, c1 (.ptr 0 0 0)), (59, c1 (vi v_.kind)), (60, c1 (vB false)), (61, c1 (vB false)), (62, c1 (.ptr 0 0 4)), (63, c1 (vL flS v_.keys)), (64, c1 (.ptr 1 0 2)), (65, c1 (vL flS t_.names)), (66, c1 (vB y14)), (67, c1 (vB zz)), (68, c1 (vB zz)), (69, c1 (vB zz))]) (by kernel_rfl) (fun hc15 => ?_) (fun hc15 => ?_)
                    · replace hq := cond_t hc15 hq
                      refine lastK (T' := sl 95 [(2, c1 (.ptr 0 0 0)), (3, c1 (.ptr 1 0 0)), (77, c1 (vB true))]) (σ' := [some (.box (aV v_)), some (.box (aT t_))]) (by kernel_rfl) hR ?_
                      refine L_true hb (by kernel_rfl) (L_seq ?_)
                      refine L_regF hb [4] (T' := sl 95 [(4, c1 (vB false))]) (σ' := [some (.box (aV v_)), some (.box (aT t_))]) (by kernel_rfl) ?_
                      refine L_ret ?_
                      have h0 := Option.some.inj hq
                      obtain rfl := h0
                      exact end_ret (by kernel_rfl)
                    · replace hq := cond_f hc15 hq
                      refine lastK (T' := sl 95 [(2, c1 (.ptr 0 0 0)), (3, c1 (.ptr 1 0 0)), (77, c1 (vB (!decide ((v_.items.length : Int) = (t_.elems.length : Int)))))]) (σ' := [some (.box (aV v_)), some (.box (aT t_))]) (by kernel_rfl) hR ?_
                      refine L_if hb (b := (!decide ((v_.items.length : Int) = (t_.elems.length : Int)))) (by kernel_rfl) (fun hc16 => ?_) (fun hc16 => ?_)
                      · replace hq := cond_t hc16 hq
                        refine L_seq ?_
                        refine L_regF hb [4] (T' := sl 95 [(4, c1 (vB false))]) (σ' := [some (.box (aV v_)), some (.box (aT t_))]) (by kernel_rfl) ?_
                        refine L_ret ?_
                        have h0 := Option.some.inj hq
                        obtain rfl := h0
                        exact end_ret (by kernel_rfl)
                      · replace hq := cond_f hc16 hq
                        refine L_skip (L_seq (L_seq ?_))
                        refine L_regF hb [3, 79, 80, 81] (T' := sl 95 [(3, c1 (.ptr 1 0 0)), (79, c1 (vL flV v_.items)), (80, c1 (vi (v_.items.length : Int))), (81, c1 (vi 0))]) (σ' := [some (.box (aV v_)), some (.box (aT t_))]) (by kernel_rfl) ?_
                        refine L_block (fun K1 hA1 hB1 hC1 hD1 => ?_)
                        refine L_backF [3, 79, 80, 81] [0] 2 (T' := sl 95 [(3, c1 (.ptr 1 0 0)), (79, c1 (vL flV v_.items)), (80, c1 (vi (v_.items.length : Int))), (81, c1 (vi 0))]) (σ' := [none, some (.box (aT t_))]) (by kernel_rfl) (by kernel_rfl) (by simp) (by kernel_rfl) ⟨rfl, (by kernel_rfl), trivial⟩ ?_
                        refine L_as (by kernel_rfl) (by kernel_rfl) (L_loopO (body := (g_types_Fits_L1 r_types_Fits v_ t_)) (fun s1 => sl 95 [(3, c1 (.ptr 1 0 0)), (79, c1 (vL flV v_.items)), (80, c1 (vi (v_.items.length : Int))), (81, c1 (vi s1))]) (fun s1 => [none, some (.box (aT t_))]) (s0 := 0) (fun s1 x1 hq hn1 he1 => ?_) hq)
                        refine L_seq ?_
                        refine L_regF hb [3, 79, 80, 81, 82] (T' := sl 95 [(3, c1 (.ptr 1 0 0)), (79, c1 (vL flV v_.items)), (80, c1 (vi (v_.items.length : Int))), (81, c1 (vi s1)), (82, c1 (vB (decide (s1 < (v_.items.length : Int)))))]) (σ' := [none, some (.box (aT t_))]) (by kernel_rfl) ?_
                        refine L_seq ?_
                        refine L_if hb (b := (decide (s1 < (v_.items.length : Int)))) (by kernel_rfl) (fun hc17 => ?_) (fun hc17 => ?_)
                        · replace hq := cond_t hc17 hq
                          refine L_skip (L_seq (L_block (fun K2 hA2 hB2 hC2 hD2 => (L_seq ?_))))
                          refine L_regK hb [3, 5, 6, 79, 80, 81] (fun R hR => ?_)
                          refine runF 1 (T' := sl 95 [(3, c1 (.ptr 1 0 0)), (79, c1 (vL flV v_.items)), (80, c1 (vi (v_.items.length : Int))), (81, c1 (vi s1)), (82, c1 (vB (decide (s1 < (v_.items.length : Int))))), (83, c1 (vi s1))]) (σ' := [none, some (.box (aT t_))]) (by kernel_rfl) ?_
                          obtain ⟨x18, hx18, hq⟩ := bind_inv hq
                          refine idxF flV (d := some 84) hx18 (by kernel_rfl) ?_
                          refine lastK (T' := sl 95 [(3, c1 (.ptr 1 0 0)), (5, c1 (vi s1)), (6, c1 (.ptr 2 0 0)), (79, c1 (vL flV v_.items)), (80, c1 (vi (v_.items.length : Int))), (81, c1 (vi s1))]) (σ' := [none, some (.box (aT t_)), some (.box (aV x18))]) (by kernel_rfl) hR ?_
                          refine L_seq ?_
                          refine L_drwK hb mixed [3, 79, 80, 81, 93] 6 (by kernel_rfl) (by kernel_rfl) (fun R hR => ?_)
                          refine runF 4 (T' := sl 95 [(3, c1 (.ptr 1 0 0)), (5, c1 (vi s1)), (6, c1 (.ptr 2 0 0)), (79, c1 (vL flV v_.items)), (80, c1 (vi (v_.items.length : Int))), (81, c1 (vi s1)), (86, .one (.agg (aV x18))), (87, c1 (.ptr 1 0 1)), (88, c1 (vL flT t_.elems)), (89, c1 (vi s1))]) (σ' := [none, some (.box (aT t_)), some (.box (aV x18))]) (by kernel_rfl) ?_
                          obtain ⟨x19, hx19, hq⟩ := bind_inv hq
                          refine idxF flT (d := some 90) hx19 (by kernel_rfl) ?_
                          refine lastF (T' := sl 95 [(3, c1 (.ptr 1 0 0)), (5, c1 (vi s1)), (6, c1 (.ptr 2 0 0)), (79, c1 (vL flV v_.items)), (80, c1 (vi (v_.items.length : Int))), (81, c1 (vi s1)), (86, .one (.agg (aV x18))), (87, c1 (.ptr 1 0 1)), (88, c1 (vL flT t_.elems)), (89, c1 (vi s1)), (90, c1 (.pv (.pp (flT.c x19 ++ flT.f (List.drop (s1.toNat + 1) t_.elems))))), (91, .one (.agg (aT x19)))]) (σ' := [none, some (.box (aT t_)), some (.box (aV x18))]) (by kernel_rfl) ?_
                          obtain ⟨y20, hy20, hq⟩ := bind_inv hq
                          refine callF (d := some 92) (by kernel_rfl) (hr_types_Fits x18 x19 y20 hy20) ?_
                          refine lastK (T' := sl 95 [(3, c1 (.ptr 1 0 0)), (79, c1 (vL flV v_.items)), (80, c1 (vi (v_.items.length : Int))), (81, c1 (vi s1)), (93, c1 (vB (!y20)))]) (σ' := [none, some (.box (aT t_)), some (.box (aV x18))]) (by kernel_rfl) hR ?_
                          refine L_if hb (b := (!y20)) (by kernel_rfl) (fun hc21 => ?_) (fun hc21 => ?_)
                          · replace hq := cond_t hc21 hq
                            refine L_seq ?_
                            refine L_regF hb [4] (T' := sl 95 [(4, c1 (vB false))]) (σ' := [none, some (.box (aT t_)), some (.box (aV x18))]) (by kernel_rfl) ?_
                            refine L_ret (hD2 _ _ (hD1 _ _ ?_))
                            have h0 := (Option.some.inj hq).symm
                            replace h0 := he1 _ h0
                            obtain rfl := h0
                            exact end_ret (by kernel_rfl)
                          · replace hq := cond_f hc21 hq
                            refine L_skip (L_nil (hA2 _ _ ?_))
                            refine L_regF hb [3, 79, 80, 81] (T' := sl 95 [(3, c1 (.ptr 1 0 0)), (79, c1 (vL flV v_.items)), (80, c1 (vi (v_.items.length : Int))), (81, c1 (vi (IntKind.i64.wrap (s1 + 1))))]) (σ' := [none, some (.box (aT t_)), some (.box (aV x18))]) (by kernel_rfl) ?_
                            refine L_backF [3, 79, 80, 81] [] 2 (T' := sl 95 [(3, c1 (.ptr 1 0 0)), (79, c1 (vL flV v_.items)), (80, c1 (vi (v_.items.length : Int))), (81, c1 (vi (IntKind.i64.wrap (s1 + 1))))]) (σ' := [none, some (.box (aT t_))]) (by kernel_rfl) (by kernel_rfl) (by simp) (by kernel_rfl) ⟨rfl, (by kernel_rfl), trivial⟩ ?_
                            have h0 := (Option.some.inj hq).symm
                            exact L_as (by kernel_rfl) (by kernel_rfl) (hn1 _ h0)
                        · replace hq := cond_f hc17 hq
                          refine L_exit (hB1 _ _ (L_seq ?_))
                          refine L_regF hb [4] (T' := sl 95 [(4, c1 (vB true))]) (σ' := [none, some (.box (aT t_))]) (by kernel_rfl) ?_
                          refine L_ret ?_
                          have h0 := (Option.some.inj hq).symm
                          replace h0 := he1 _ h0
                          obtain rfl := h0
                          exact end_ret (by kernel_rfl)
noncomputable def t_types_Fits_step (rec : Val → Ty → Option (Bool)) (a : Val) (b : Ty) : Option (Bool) :=
  g_types_Fits (g_types_every (fun a0 a1 => rec a0 a1)) (fun a0 a1 => rec a0 a1) a b
noncomputable def t_types_Fits (a0 : Val) (a1 : Ty) : Option (Bool) := tieF relV wfV t_types_Fits_step a0 a1
theorem t_types_Fits_ok (hb : Base E E0 G) (he : ∀ w, E w → EnvV w) (a0 : Val) (a1 : Ty) (r : Bool) (hq : t_types_Fits a0 a1 = some r) : Pure E E0 Tryd.prog 13 [.agg (aV a0), .agg (aT a1)] (c1 (vB r)) :=
  tieF_ok (C := fun a b r => Pure E E0 Tryd.prog 13 [.agg (aV a), .agg (aT b)] (c1 (vB r))) (fun rec hr a b r hq => g_types_Fits_ok hb he (g_types_every (fun a0 a1 => rec a0 a1)) (fun a0 a1 => rec a0 a1) (g_types_every_ok hb he (fun a0 a1 => rec a0 a1) (fun a0 a1 r e => hr a0 a1 r e)) (fun a0 a1 r e => hr a0 a1 r e) a b r hq) a0 a1 r hq
noncomputable def t_types_every (a0 : List Val) (a1 : List Ty) : Option (Bool) := (g_types_every t_types_Fits) a0 a1
theorem t_types_every_ok (hb : Base E E0 G) (he : ∀ w, E w → EnvV w) (a0 : List Val) (a1 : List Ty) (r : Bool) (hq : t_types_every a0 a1 = some r) : Pure E E0 Tryd.prog 27 [.cell (vL flV a0), .cell (vL flT a1)] (c1 (vB r)) :=
  g_types_every_ok hb he t_types_Fits (t_types_Fits_ok hb he) a0 a1 r hq
noncomputable def g_value_Equal_slices_EqualFunc_value_Equal_L1 (r_value_Equal : Val → Val → Option (Bool)) (s1_ : List Val) (s2_ : List Val) (s1 : Int) : Option ((Int) ⊕ (Bool)) :=
  bif (decide (s1 < (s1_.length : Int))) then (idx s1_ s1).bind fun x3 => (idx s2_ s1).bind fun x4 => (r_value_Equal x3 x4).bind fun y5 => bif (!y5) then some (.inr (false)) else some (.inl (IntKind.i64.wrap (s1 + 1))) else some (.inr (true))
noncomputable def g_value_Equal_slices_EqualFunc_value_Equal (r_value_Equal : Val → Val → Option (Bool)) (s1_ : List Val) (s2_ : List Val) : Option (Bool) :=
  bif (!decide ((s1_.length : Int) = (s2_.length : Int))) then some (false) else loopO (g_value_Equal_slices_EqualFunc_value_Equal_L1 r_value_Equal s1_ s2_) 0
theorem g_value_Equal_slices_EqualFunc_value_Equal_ok (hb : Base E E0 G) (he : ∀ w, E w → EnvV w) (r_value_Equal : Val → Val → Option (Bool)) (hr_value_Equal : ∀ (a0 : Val) (a1 : Val) (r : Bool), r_value_Equal a0 a1 = some r → Pure E E0 Tryd.prog 14 [.agg (aV a0), .agg (aV a1)] (c1 (vB r))) (s1_ : List Val) (s2_ : List Val) (r_ : Bool) (hq : g_value_Equal_slices_EqualFunc_value_Equal r_value_Equal s1_ s2_ = some r_) :
    Pure E E0 Tryd.prog 24 [.cell (vL flV s1_), .cell (vL flV s2_), .cell (.pv (.sc (.func (.func 14) #[] #[])))] (c1 (vB r_)) := by
  refine pure_L Tryd.func24 rfl ?_
  refine L_keepF [0, 1, 2] (T' := sl 32 [(0, c1 (vL flV s1_)), (1, c1 (vL flV s2_)), (2, c1 (.pv (.sc (.func (.func 14) #[] #[]))))]) (by kernel_rfl) ?_
  refine L_seq ?_
  refine L_regF hb [0, 1, 2] (T' := sl 32 [(0, c1 (vL flV s1_)), (1, c1 (vL flV s2_)), (2, c1 (.pv (.sc (.func (.func 14) #[] #[]))))]) (σ' := []) (by kernel_rfl) ?_
  refine L_seq (L_seq ?_)
  refine L_regF hb [0, 1, 2, 14] (T' := sl 32 [(0, c1 (vL flV s1_)), (1, c1 (vL flV s2_)), (2, c1 (.pv (.sc (.func (.func 14) #[] #[])))), (14, c1 (vB (!decide ((s1_.length : Int) = (s2_.length : Int)))))]) (σ' := []) (by kernel_rfl) ?_
  refine L_if hb (b := (!decide ((s1_.length : Int) = (s2_.length : Int)))) (by kernel_rfl) (fun hc1 => ?_) (fun hc1 => ?_)
  · replace hq := cond_t hc1 hq
    refine L_seq ?_
    refine L_regF hb [6] (T' := sl 32 [(6, c1 (vB false))]) (σ' := []) (by kernel_rfl) ?_
    refine L_ret ?_
    have h0 := Option.some.inj hq
    obtain rfl := h0
    exact end_ret (by kernel_rfl)
  · replace hq := cond_f hc1 hq
    refine L_skip (L_seq (L_seq ?_))
    refine L_regF hb [1, 2, 15, 16, 17] (T' := sl 32 [(1, c1 (vL flV s2_)), (2, c1 (.pv (.sc (.func (.func 14) #[] #[])))), (15, c1 (vL flV s1_)), (16, c1 (vi (s1_.length : Int))), (17, c1 (vi 0))]) (σ' := []) (by kernel_rfl) ?_
    refine L_block (fun K1 hA1 hB1 hC1 hD1 => ?_)
    refine L_backF [1, 2, 15, 16, 17] [] 0 (T' := sl 32 [(1, c1 (vL flV s2_)), (2, c1 (.pv (.sc (.func (.func 14) #[] #[])))), (15, c1 (vL flV s1_)), (16, c1 (vi (s1_.length : Int))), (17, c1 (vi 0))]) (σ' := []) (by kernel_rfl) (by kernel_rfl) (by simp) (by kernel_rfl) trivial ?_
    refine L_as (by kernel_rfl) (by kernel_rfl) (L_loopO (body := (g_value_Equal_slices_EqualFunc_value_Equal_L1 r_value_Equal s1_ s2_)) (fun s1 => sl 32 [(1, c1 (vL flV s2_)), (2, c1 (.pv (.sc (.func (.func 14) #[] #[])))), (15, c1 (vL flV s1_)), (16, c1 (vi (s1_.length : Int))), (17, c1 (vi s1))]) (fun s1 => []) (s0 := 0) (fun s1 x1 hq hn1 he1 => ?_) hq)
    refine L_seq ?_
    refine L_regF hb [1, 2, 15, 16, 17, 18] (T' := sl 32 [(1, c1 (vL flV s2_)), (2, c1 (.pv (.sc (.func (.func 14) #[] #[])))), (15, c1 (vL flV s1_)), (16, c1 (vi (s1_.length : Int))), (17, c1 (vi s1)), (18, c1 (vB (decide (s1 < (s1_.length : Int)))))]) (σ' := []) (by kernel_rfl) ?_
    refine L_seq ?_
    refine L_if hb (b := (decide (s1 < (s1_.length : Int)))) (by kernel_rfl) (fun hc2 => ?_) (fun hc2 => ?_)
    · replace hq := cond_t hc2 hq
      refine L_skip (L_seq (L_block (fun K2 hA2 hB2 hC2 hD2 => (L_seq ?_))))
      refine L_regK hb [1, 2, 7, 8, 15, 16, 17] (fun R hR => ?_)
      refine runF 1 (T' := sl 32 [(1, c1 (vL flV s2_)), (2, c1 (.pv (.sc (.func (.func 14) #[] #[])))), (15, c1 (vL flV s1_)), (16, c1 (vi (s1_.length : Int))), (17, c1 (vi s1)), (18, c1 (vB (decide (s1 < (s1_.length : Int))))), (19, c1 (vi s1))]) (σ' := []) (by kernel_rfl) ?_
      obtain ⟨x3, hx3, hq⟩ := bind_inv hq
      refine idxF flV (d := some 20) hx3 (by kernel_rfl) ?_
      refine lastK (T' := sl 32 [(1, c1 (vL flV s2_)), (2, c1 (.pv (.sc (.func (.func 14) #[] #[])))), (7, c1 (vi s1)), (8, c1 (.ptr 0 0 0)), (15, c1 (vL flV s1_)), (16, c1 (vi (s1_.length : Int))), (17, c1 (vi s1))]) (σ' := [some (.box (aV x3))]) (by kernel_rfl) hR ?_
      refine L_seq ?_
      refine L_regK hb [1, 2, 8, 9, 15, 16, 17] (fun R hR => ?_)
      refine runF 2 (T' := sl 32 [(1, c1 (vL flV s2_)), (2, c1 (.pv (.sc (.func (.func 14) #[] #[])))), (7, c1 (vi s1)), (8, c1 (.ptr 0 0 0)), (15, c1 (vL flV s1_)), (16, c1 (vi (s1_.length : Int))), (17, c1 (vi s1)), (22, c1 (vL flV s2_)), (23, c1 (vi s1))]) (σ' := [some (.box (aV x3))]) (by kernel_rfl) ?_
      obtain ⟨x4, hx4, hq⟩ := bind_inv hq
      refine idxF flV (d := some 24) hx4 (by kernel_rfl) ?_
      refine lastK (T' := sl 32 [(1, c1 (vL flV s2_)), (2, c1 (.pv (.sc (.func (.func 14) #[] #[])))), (8, c1 (.ptr 0 0 0)), (9, c1 (.ptr 1 0 0)), (15, c1 (vL flV s1_)), (16, c1 (vi (s1_.length : Int))), (17, c1 (vi s1))]) (σ' := [some (.box (aV x3)), some (.box (aV x4))]) (by kernel_rfl) hR ?_
      refine L_seq ?_
      refine L_regK hb [1, 2, 15, 16, 17, 30] (fun R hR => ?_)
      refine runF 3 (T' := sl 32 [(1, c1 (vL flV s2_)), (2, c1 (.pv (.sc (.func (.func 14) #[] #[])))), (8, c1 (.ptr 0 0 0)), (9, c1 (.ptr 1 0 0)), (15, c1 (vL flV s1_)), (16, c1 (vi (s1_.length : Int))), (17, c1 (vi s1)), (26, c1 (.pv (.sc (.func (.func 14) #[] #[])))), (27, .one (.agg (aV x3))), (28, .one (.agg (aV x4)))]) (σ' := [some (.box (aV x3)), some (.box (aV x4))]) (by kernel_rfl) ?_
      obtain ⟨y5, hy5, hq⟩ := bind_inv hq
      refine callF (d := some 29) (by kernel_rfl) (hr_value_Equal x3 x4 y5 hy5) ?_
      refine lastK (T' := sl 32 [(1, c1 (vL flV s2_)), (2, c1 (.pv (.sc (.func (.func 14) #[] #[])))), (15, c1 (vL flV s1_)), (16, c1 (vi (s1_.length : Int))), (17, c1 (vi s1)), (30, c1 (vB (!y5)))]) (σ' := [some (.box (aV x3)), some (.box (aV x4))]) (by kernel_rfl) hR ?_
      refine L_if hb (b := (!y5)) (by kernel_rfl) (fun hc6 => ?_) (fun hc6 => ?_)
      · replace hq := cond_t hc6 hq
        refine L_seq ?_
        refine L_regF hb [6] (T' := sl 32 [(6, c1 (vB false))]) (σ' := [some (.box (aV x3)), some (.box (aV x4))]) (by kernel_rfl) ?_
        refine L_ret (hD2 _ _ (hD1 _ _ ?_))
        have h0 := (Option.some.inj hq).symm
        replace h0 := he1 _ h0
        obtain rfl := h0
        exact end_ret (by kernel_rfl)
      · replace hq := cond_f hc6 hq
        refine L_skip (L_nil (hA2 _ _ ?_))
        refine L_regF hb [1, 2, 15, 16, 17] (T' := sl 32 [(1, c1 (vL flV s2_)), (2, c1 (.pv (.sc (.func (.func 14) #[] #[])))), (15, c1 (vL flV s1_)), (16, c1 (vi (s1_.length : Int))), (17, c1 (vi (IntKind.i64.wrap (s1 + 1))))]) (σ' := [some (.box (aV x3)), some (.box (aV x4))]) (by kernel_rfl) ?_
        refine L_backF [1, 2, 15, 16, 17] [] 0 (T' := sl 32 [(1, c1 (vL flV s2_)), (2, c1 (.pv (.sc (.func (.func 14) #[] #[])))), (15, c1 (vL flV s1_)), (16, c1 (vi (s1_.length : Int))), (17, c1 (vi (IntKind.i64.wrap (s1 + 1))))]) (σ' := []) (by kernel_rfl) (by kernel_rfl) (by simp) (by kernel_rfl) trivial ?_
        have h0 := (Option.some.inj hq).symm
        exact L_as (by kernel_rfl) (by kernel_rfl) (hn1 _ h0)
    · replace hq := cond_f hc2 hq
      refine L_exit (hB1 _ _ (L_seq ?_))
      refine L_regF hb [6] (T' := sl 32 [(6, c1 (vB true))]) (σ' := []) (by kernel_rfl) ?_
      refine L_ret ?_
      have h0 := (Option.some.inj hq).symm
      replace h0 := he1 _ h0
      obtain rfl := h0
      exact end_ret (by kernel_rfl)
noncomputable def g_value_Equal (r_value_Equal : Val → Val → Option (Bool)) (a_ : Val) (b_ : Val) : Option (Bool) :=
  bif (decide (a_.kind = b_.kind)) then bif (decide (a_.num = b_.num)) then bif (decide (a_.str = b_.str)) then (g_slices_Equal a_.keys b_.keys).bind fun y4 => bif y4 then (g_value_Equal_slices_EqualFunc_value_Equal r_value_Equal a_.items b_.items).bind fun y6 => some (y6) else some (false) else some (false) else some (false) else some (false)
theorem g_value_Equal_ok (hb : Base E E0 G) (he : ∀ w, E w → EnvV w) (r_value_Equal : Val → Val → Option (Bool)) (hr_value_Equal : ∀ (a0 : Val) (a1 : Val) (r : Bool), r_value_Equal a0 a1 = some r → Pure E E0 Tryd.prog 14 [.agg (aV a0), .agg (aV a1)] (c1 (vB r))) (a_ : Val) (b_ : Val) (r_ : Bool) (hq : g_value_Equal r_value_Equal a_ b_ = some r_) :
    Pure E E0 Tryd.prog 14 [.agg (aV a_), .agg (aV b_)] (c1 (vB r_)) := by
  refine pure_L Tryd.func14 rfl ?_
  refine L_keepF [0, 1] (T' := sl 38 [(0, .one (.agg (aV a_))), (1, .one (.agg (aV b_)))]) (by kernel_rfl) ?_
  refine L_seq ?_
  refine L_regF hb [2, 3] (T' := sl 38 [(2, c1 (.ptr 0 0 0)), (3, c1 (.ptr 1 0 0))]) (σ' := [some (.box (aV a_)), some (.box (aV b_))]) (by kernel_rfl) ?_
  refine L_seq ?_
  refine L_regK hb [4] (fun R hR => ?_)
  refine runF 6 (T' := sl 38 [(2, c1 (.ptr 0 0 0)), (3, c1 (.ptr 1 0 0)), (5, c1 (.ptr 0 0 0)), (6, c1 (vi a_.kind)), (7, c1 (.ptr 1 0 0)), (8, c1 (vi b_.kind)), (9, c1 (vB (decide (a_.kind = b_.kind)))), (10, c1 (vB (decide (a_.kind = b_.kind))))]) (σ' := [some (.box (aV a_)), some (.box (aV b_))]) (by kernel_rfl) ?_
  refine partsF ((decide (a_.kind = b_.kind))) (fun zz => sl 38 [(2, c1 (.ptr 0 0 0)), (3, c1 (.ptr 1 0 0)), (5, c1 (.ptr 0 0 0)), (6, c1 (vi a_.kind)), (7, c1 (.ptr 1 0 0)), (8, c1 (vi b_.kind)), (9, c1 (vB zz)), (10, c1 (vB zz))]) (by kernel_rfl) (fun hc1 => ?_) (fun hc1 => ?_)
  · replace hq := cond_t hc1 hq
    refine runF 7 (T' := sl 38 [(2, c1 (.ptr 0 0 0)), (3, c1 (.ptr 1 0 0)), (5, c1 (.ptr 0 0 0)), (6, c1 (vi a_.kind)), (7, c1 (.ptr 1 0 0)), (8, c1 (vi b_.kind)), (9, c1 (vB true)), (10, c1 (vB true)), (11, c1 (.ptr 0 0 1)), (12, c1 (vi a_.num)), (13, c1 (.ptr 1 0 1)), (14, c1 (vi b_.num)), (15, c1 (vB (decide (a_.num = b_.num)))), (16, c1 (vB (decide (a_.num = b_.num)))), (17, c1 (vB (decide (a_.num = b_.num))))]) (σ' := [some (.box (aV a_)), some (.box (aV b_))]) (by kernel_rfl) ?_
    refine partsF ((decide (a_.num = b_.num))) (fun zz => sl 38 [(2, c1 (.ptr 0 0 0)), (3, c1 (.ptr 1 0 0)), (5, c1 (.ptr 0 0 0)), (6, c1 (vi a_.kind)), (7, c1 (.ptr 1 0 0)), (8, c1 (vi b_.kind)), (9, c1 (vB true)), (10, c1 (vB true)), (11, c1 (.ptr 0 0 1)), (12, c1 (vi a_.num)), (13, c1 (.ptr 1 0 1)), (14, c1 (vi b_.num)), (15, c1 (vB zz)), (16, c1 (vB zz)), (17, c1 (vB zz))]) (by kernel_rfl) (fun hc2 => ?_) (fun hc2 => ?_)
    · replace hq := cond_t hc2 hq
      refine runF 7 (T' := sl 38 [(2, c1 (.ptr 0 0 0)), (3, c1 (.ptr 1 0 0)), (5, c1 (.ptr 0 0 0)), (6, c1 (vi a_.kind)), (7, c1 (.ptr 1 0 0)), (8, c1 (vi b_.kind)), (9, c1 (vB true)), (10, c1 (vB true)), (11, c1 (.ptr 0 0 1)), (12, c1 (vi a_.num)), (13, c1 (.ptr 1 0 1)), (14, c1 (vi b_.num)), (15, c1 (vB true)), (16, c1 (vB true)), (17, c1 (vB true)), (18, c1 (.ptr 0 0 2)), (19, c1 (vS a_.str)), (20, c1 (.ptr 1 0 2)), (21, c1 (vS b_.str)), (22, c1 (vB (decide (a_.str = b_.str)))), (23, c1 (vB (decide (a_.str = b_.str)))), (24, c1 (vB (decide (a_.str = b_.str))))]) (σ' := [some (.box (aV a_)), some (.box (aV b_))]) (by kernel_rfl) ?_
      refine partsF ((decide (a_.str = b_.str))) (fun zz => sl 38 [(2, c1 (.ptr 0 0 0)), (3, c1 (.ptr 1 0 0)), (5, c1 (.ptr 0 0 0)), (6, c1 (vi a_.kind)), (7, c1 (.ptr 1 0 0)), (8, c1 (vi b_.kind)), (9, c1 (vB true)), (10, c1 (vB true)), (11, c1 (.ptr 0 0 1)), (12, c1 (vi a_.num)), (13, c1 (.ptr 1 0 1)), (14, c1 (vi b_.num)), (15, c1 (vB true)), (16, c1 (vB true)), (17, c1 (vB true)), (18, c1 (.ptr 0 0 2)), (19, c1 (vS a_.str)), (20, c1 (.ptr 1 0 2)), (21, c1 (vS b_.str)), (22, c1 (vB zz)), (23, c1 (vB zz)), (24, c1 (vB zz))]) (by kernel_rfl) (fun hc3 => ?_) (fun hc3 => ?_)
      · replace hq := cond_t hc3 hq
        refine runF 4 (T' := sl 38 [(2, c1 (.ptr 0 0 0)), (3, c1 (.ptr 1 0 0)), (5, c1 (.ptr 0 0 0)), (6, c1 (vi a_.kind)), (7, c1 (.ptr 1 0 0)), (8, c1 (vi b_.kind)), (9, c1 (vB true)), (10, c1 (vB true)), (11, c1 (.ptr 0 0 1)), (12, c1 (vi a_.num)), (13, c1 (.ptr 1 0 1)), (14, c1 (vi b_.num)), (15, c1 (vB true)), (16, c1 (vB true)), (17, c1 (vB true)), (18, c1 (.ptr 0 0 2)), (19, c1 (vS a_.str)), (20, c1 (.ptr 1 0 2)), (21, c1 (vS b_.str)), (22, c1 (vB true)), (23, c1 (vB true)), (24, c1 (vB true)), (25, c1 (.ptr 0 0 4)), (26, c1 (vL flS a_.keys)), (27, c1 (.ptr 1 0 4)), (28, c1 (vL flS b_.keys))]) (σ' := [some (.box (aV a_)), some (.box (aV b_))]) (by kernel_rfl) ?_
        obtain ⟨y4, hy4, hq⟩ := bind_inv hq
        refine callF (d := some 29) (by kernel_rfl) (g_slices_Equal_ok hb he a_.keys b_.keys y4 hy4) ?_
        refine runF 2 (T' := sl 38 [(2, c1 (.ptr 0 0 0)), (3, c1 (.ptr 1 0 0)), (5, c1 (.ptr 0 0 0)), (6, c1 (vi a_.kind)), (7, c1 (.ptr 1 0 0)), (8, c1 (vi b_.kind)), (9, c1 (vB true)), (10, c1 (vB true)), (11, c1 (.ptr 0 0 1)), (12, c1 (vi a_.num)), (13, c1 (.ptr 1 0 1)), (14, c1 (vi b_.num)), (15, c1 (vB true)), (16, c1 (vB true)), (17, c1 (vB true)), (18, c1 (.ptr 0 0 2)), (19, c1 (vS a_.str)), (20, c1 (.ptr 1 0 2)), (21, c1 (vS b_.str)), (22, c1 (vB true)), (23, c1 (vB true)), (24, c1 (vB true)), (25, c1 (.ptr 0 0 4)), (26, c1 (vL flS a_.keys)), (27, c1 (.ptr 1 0 4)), (28, c1 (vL flS b_.keys)), (29, c1 (vB y4)), (30, c1 (vB y4)), (31, c1 (vB y4))]) (σ' := [some (.box (aV a_)), some (.box (aV b_))]) (by kernel_rfl) ?_
        refine partsF (y4) (fun zz => sl 38 [(2, c1 (.ptr 0 0 0)), (3, c1 (.ptr 1 0 0)), (5, c1 (.ptr 0 0 0)), (6, c1 (vi a_.kind)), (7, c1 (.ptr 1 0 0)), (8, c1 (vi b_.kind)), (9, c1 (vB true)), (10, c1 (vB true)), (11, c1 (.ptr 0 0 1)), (12, c1 (vi a_.num)), (13, c1 (.ptr 1 0 1)), (14, c1 (vi b_.num)), (15, c1 (vB true)), (16, c1 (vB true)), (17, c1 (vB true)), (18, c1 (.ptr 0 0 2)), (19, c1 (vS a_.str)), (20, c1 (.ptr 1 0 2)), (21, c1 (vS b_.str)), (22, c1 (vB true)), (23, c1 (vB true)), (24, c1 (vB true)), (25, c1 (.ptr 0 0 4)), (26, c1 (vL flS a_.keys)), (27, c1 (.ptr 1 0 4)), (28, c1 (vL flS b_.keys)), (29, c1 (vB zz)), (30, c1 (vB zz)), (31, c1 (vB zz))]) (by kernel_rfl) (fun hc5 => ?_) (fun hc5 => ?_)
        · replace hq := cond_t hc5 hq
          refine runF 4 (T' := sl 38 [(2, c1 (.ptr 0 0 0)), (3, c1 (.ptr 1 0 0)), (5, c1 (.ptr 0 0 0)), (6, c1 (vi a_.kind)), (7, c1 (.ptr 1 0 0)), (8, c1 (vi b_.kind)), (9, c1 (vB true)), (10, c1 (vB true)), (11, c1 (.ptr 0 0 1)), (12, c1 (vi a_.num)), (13, c1 (.ptr 1 0 1)), (14, c1 (vi b_.num)), (15, c1 (vB true)), (16, c1 (vB true)), (17, c1 (vB true)), (18, c1 (.ptr 0 0 2)), (19, c1 (vS a_.str)), (20, c1 (.ptr 1 0 2)), (21, c1 (vS b_.str)), (22, c1 (vB true)), (23, c1 (vB true)), (24, c1 (vB true)), (25, c1 (.ptr 0 0 4)), (26, c1 (vL flS a_.keys)), (27, c1 (.ptr 1 0 4)), (28, c1 (vL flS b_.keys)), (29, c1 (vB true)), (30, c1 (vB true)), (31, c1 (vB true)), (32, c1 (.ptr 0 0 3)), (33, c1 (vL flV a_.items)), (34, c1 (.ptr 1 0 3)), (35, c1 (vL flV b_.items))]) (σ' := [some (.box (aV a_)), some (.box (aV b_))]) (by kernel_rfl) ?_
          obtain ⟨y6, hy6, hq⟩ := bind_inv hq
          refine callF (d := some 36) (by kernel_rfl) (g_value_Equal_slices_EqualFunc_value_Equal_ok hb he r_value_Equal hr_value_Equal a_.items b_.items y6 hy6) ?_
          refine lastK (T' := sl 38 [(4, c1 (vB y6))]) (σ' := [some (.box (aV a_)), some (.box (aV b_))]) (by kernel_rfl) hR ?_
          refine L_ret ?_
          have h0 := Option.some.inj hq
          obtain rfl := h0
          exact end_ret (by kernel_rfl)
        · replace hq := cond_f hc5 hq
          refine lastK (T' := sl 38 [(4, c1 (vB false))]) (σ' := [some (.box (aV a_)), some (.box (aV b_))]) (by kernel_rfl) hR ?_
          refine L_ret ?_
          have h0 := Option.some.inj hq
          obtain rfl := h0
          exact end_ret (by kernel_rfl)
      · replace hq := cond_f hc3 hq
        refine lastK (T' := sl 38 [(4, c1 (vB false))]) (σ' := [some (.box (aV a_)), some (.box (aV b_))]) (by kernel_rfl) hR ?_
        refine L_ret ?_
        have h0 := Option.some.inj hq
        obtain rfl := h0
        exact end_ret (by kernel_rfl)
    · replace hq := cond_f hc2 hq
      refine lastK (T' := sl 38 [(4, c1 (vB false))]) (σ' := [some (.box (aV a_)), some (.box (aV b_))]) (by kernel_rfl) hR ?_
      refine L_ret ?_
      have h0 := Option.some.inj hq
      obtain rfl := h0
      exact end_ret (by kernel_rfl)
  · replace hq := cond_f hc1 hq
    refine lastK (T' := sl 38 [(4, c1 (vB false))]) (σ' := [some (.box (aV a_)), some (.box (aV b_))]) (by kernel_rfl) hR ?_
    refine L_ret ?_
    have h0 := Option.some.inj hq
    obtain rfl := h0
    exact end_ret (by kernel_rfl)
noncomputable def t_value_Equal_step (rec : Val → Val → Option (Bool)) (a : Val) (b : Val) : Option (Bool) :=
  g_value_Equal (fun a0 a1 => rec a0 a1) a b
noncomputable def t_value_Equal (a0 : Val) (a1 : Val) : Option (Bool) := tieF relV wfV t_value_Equal_step a0 a1
theorem t_value_Equal_ok (hb : Base E E0 G) (he : ∀ w, E w → EnvV w) (a0 : Val) (a1 : Val) (r : Bool) (hq : t_value_Equal a0 a1 = some r) : Pure E E0 Tryd.prog 14 [.agg (aV a0), .agg (aV a1)] (c1 (vB r)) :=
  tieF_ok (C := fun a b r => Pure E E0 Tryd.prog 14 [.agg (aV a), .agg (aV b)] (c1 (vB r))) (fun rec hr a b r hq => g_value_Equal_ok hb he (fun a0 a1 => rec a0 a1) (fun a0 a1 r e => hr a0 a1 r e) a b r hq) a0 a1 r hq
noncomputable def g_l11_ConvertFits  (v_ : Val) (t_ : Ty) : Option (Bool) :=
  (g_l11_right v_ t_).bind fun y1 => bif (!y1) then (g_l11_awake).bind fun y3 => some (y3) else (g_convert_To v_ t_).bind fun y4 => bif (!decide (y4.2 = 0)) then (g_l11_awake).bind fun y6 => some (y6) else (g_convert_To y4.1 t_).bind fun y7 => (t_types_Fits y4.1 t_).bind fun y8 => bif y8 then bif (decide (y7.2 = 0)) then (t_value_Equal y4.1 y7.1).bind fun y11 => bif y11 then (g_l11_awake).bind fun y13 => some (y13) else some (false) else some (false) else some (false)
theorem g_l11_ConvertFits_ok (hb : Base E E0 G) (he : ∀ w, E w → EnvV w)   (v_ : Val) (t_ : Ty) (r_ : Bool) (hq : g_l11_ConvertFits v_ t_ = some r_) :
    Pure E E0 Tryd.prog 4 [.agg (aV v_), .agg (aT t_)] (c1 (vB r_)) := by
  refine pure_L Tryd.func4 rfl ?_
  refine L_keepF [0, 1] (T' := sl 44 [(0, .one (.agg (aV v_))), (1, .one (.agg (aT t_)))]) (by kernel_rfl) ?_
  refine L_seq ?_
  refine L_regF hb [2, 3] (T' := sl 44 [(2, c1 (.ptr 0 0 0)), (3, c1 (.ptr 1 0 0))]) (σ' := [some (.box (aV v_)), some (.box (aT t_))]) (by kernel_rfl) ?_
  refine L_seq (L_seq ?_)
  refine L_regK hb [2, 3, 12] (fun R hR => ?_)
  refine runF 2 (T' := sl 44 [(2, c1 (.ptr 0 0 0)), (3, c1 (.ptr 1 0 0)), (9, .one (.agg (aV v_))), (10, .one (.agg (aT t_)))]) (σ' := [some (.box (aV v_)), some (.box (aT t_))]) (by kernel_rfl) ?_
  obtain ⟨y1, hy1, hq⟩ := bind_inv hq
  refine callF (d := some 11) (by kernel_rfl) (g_l11_right_ok hb he v_ t_ y1 hy1) ?_
  refine lastK (T' := sl 44 [(2, c1 (.ptr 0 0 0)), (3, c1 (.ptr 1 0 0)), (12, c1 (vB (!y1)))]) (σ' := [some (.box (aV v_)), some (.box (aT t_))]) (by kernel_rfl) hR ?_
  refine L_if hb (b := (!y1)) (by kernel_rfl) (fun hc2 => ?_) (fun hc2 => ?_)
  · replace hq := cond_t hc2 hq
    refine L_seq ?_
    refine L_regK hb [4] (fun R hR => ?_)
    obtain ⟨y3, hy3, hq⟩ := bind_inv hq
    refine callF (d := some 13) (by kernel_rfl) (g_l11_awake_ok hb he  y3 hy3) ?_
    refine lastK (T' := sl 44 [(4, c1 (vB y3))]) (σ' := [some (.box (aV v_)), some (.box (aT t_))]) (by kernel_rfl) hR ?_
    refine L_ret ?_
    have h0 := Option.some.inj hq
    obtain rfl := h0
    exact end_ret (by kernel_rfl)
  · replace hq := cond_f hc2 hq
    refine L_skip (L_seq ?_)
    refine L_regK hb [3, 5, 6] (fun R hR => ?_)
    refine runF 2 (T' := sl 44 [(2, c1 (.ptr 0 0 0)), (3, c1 (.ptr 1 0 0)), (12, c1 (vB (!y1))), (15, .one (.agg (aV v_))), (16, .one (.agg (aT t_)))]) (σ' := [some (.box (aV v_)), some (.box (aT t_))]) (by kernel_rfl) ?_
    obtain ⟨y4, hy4, hq⟩ := bind_inv hq
    refine callF (d := some 17) (by kernel_rfl) (g_convert_To_ok hb he v_ t_ y4 hy4) ?_
    refine lastK (T' := sl 44 [(3, c1 (.ptr 1 0 0)), (5, c1 (.ptr 2 0 0)), (6, c1 (vi y4.2))]) (σ' := [some (.box (aV v_)), some (.box (aT t_)), some (.box (aV y4.1))]) (by kernel_rfl) hR ?_
    refine L_seq (L_seq ?_)
    refine L_regF hb [3, 5, 21] (T' := sl 44 [(3, c1 (.ptr 1 0 0)), (5, c1 (.ptr 2 0 0)), (21, c1 (vB (!decide (y4.2 = 0))))]) (σ' := [some (.box (aV v_)), some (.box (aT t_)), some (.box (aV y4.1))]) (by kernel_rfl) ?_
    refine L_if hb (b := (!decide (y4.2 = 0))) (by kernel_rfl) (fun hc5 => ?_) (fun hc5 => ?_)
    · replace hq := cond_t hc5 hq
      refine L_seq ?_
      refine L_regK hb [4] (fun R hR => ?_)
      obtain ⟨y6, hy6, hq⟩ := bind_inv hq
      refine callF (d := some 22) (by kernel_rfl) (g_l11_awake_ok hb he  y6 hy6) ?_
      refine lastK (T' := sl 44 [(4, c1 (vB y6))]) (σ' := [some (.box (aV v_)), some (.box (aT t_)), some (.box (aV y4.1))]) (by kernel_rfl) hR ?_
      refine L_ret ?_
      have h0 := Option.some.inj hq
      obtain rfl := h0
      exact end_ret (by kernel_rfl)
    · replace hq := cond_f hc5 hq
      refine L_skip (L_seq ?_)
      refine L_regK hb [3, 5, 7, 8] (fun R hR => ?_)
      refine runF 2 (T' := sl 44 [(3, c1 (.ptr 1 0 0)), (5, c1 (.ptr 2 0 0)), (21, c1 (vB (!decide (y4.2 = 0)))), (24, .one (.agg (aV y4.1))), (25, .one (.agg (aT t_)))]) (σ' := [some (.box (aV v_)), some (.box (aT t_)), some (.box (aV y4.1))]) (by kernel_rfl) ?_
      obtain ⟨y7, hy7, hq⟩ := bind_inv hq
      refine callF (d := some 26) (by kernel_rfl) (g_convert_To_ok hb he y4.1 t_ y7 hy7) ?_
      refine lastK (T' := sl 44 [(3, c1 (.ptr 1 0 0)), (5, c1 (.ptr 2 0 0)), (7, c1 (.ptr 3 0 0)), (8, c1 (vi y7.2))]) (σ' := [some (.box (aV v_)), some (.box (aT t_)), some (.box (aV y4.1)), some (.box (aV y7.1))]) (by kernel_rfl) hR ?_
      refine L_seq ?_
      refine L_regK hb [4] (fun R hR => ?_)
      refine runF 2 (T' := sl 44 [(3, c1 (.ptr 1 0 0)), (5, c1 (.ptr 2 0 0)), (7, c1 (.ptr 3 0 0)), (8, c1 (vi y7.2)), (29, .one (.agg (aV y4.1))), (30, .one (.agg (aT t_)))]) (σ' := [some (.box (aV v_)), some (.box (aT t_)), some (.box (aV y4.1)), some (.box (aV y7.1))]) (by kernel_rfl) ?_
      obtain ⟨y8, hy8, hq⟩ := bind_inv hq
      refine callF (d := some 31) (by kernel_rfl) (t_types_Fits_ok hb he y4.1 t_ y8 hy8) ?_
      refine runF 1 (T' := sl 44 [(3, c1 (.ptr 1 0 0)), (5, c1 (.ptr 2 0 0)), (7, c1 (.ptr 3 0 0)), (8, c1 (vi y7.2)), (29, .one (.agg (aV y4.1))), (30, .one (.agg (aT t_))), (31, c1 (vB y8)), (32, c1 (vB y8))]) (σ' := [some (.box (aV v_)), some (.box (aT t_)), some (.box (aV y4.1)), some (.box (aV y7.1))]) (by kernel_rfl) ?_
      refine partsF (y8) (fun zz => sl 44 [(3, c1 (.ptr 1 0 0)), (5, c1 (.ptr 2 0 0)), (7, c1 (.ptr 3 0 0)), (8, c1 (vi y7.2)), (29, .one (.agg (aV y4.1))), (30, .one (.agg (aT t_))), (31, c1 (vB zz)), (32, c1 (vB zz))]) (by kernel_rfl) (fun hc9 => ?_) (fun hc9 => ?_)
      · replace hq := cond_t hc9 hq
        refine runF 4 (T' := sl 44 [(3, c1 (.ptr 1 0 0)), (5, c1 (.ptr 2 0 0)), (7, c1 (.ptr 3 0 0)), (8, c1 (vi y7.2)), (29, .one (.agg (aV y4.1))), (30, .one (.agg (aT t_))), (31, c1 (vB true)), (32, c1 (vB true)), (33, c1 (vi y7.2)), (34, c1 (vB (decide (y7.2 = 0)))), (35, c1 (vB (decide (y7.2 = 0)))), (36, c1 (vB (decide (y7.2 = 0))))]) (σ' := [some (.box (aV v_)), some (.box (aT t_)), some (.box (aV y4.1)), some (.box (aV y7.1))]) (by kernel_rfl) ?_
        refine partsF ((decide (y7.2 = 0))) (fun zz => sl 44 [(3, c1 (.ptr 1 0 0)), (5, c1 (.ptr 2 0 0)), (7, c1 (.ptr 3 0 0)), (8, c1 (vi y7.2)), (29, .one (.agg (aV y4.1))), (30, .one (.agg (aT t_))), (31, c1 (vB true)), (32, c1 (vB true)), (33, c1 (vi y7.2)), (34, c1 (vB zz)), (35, c1 (vB zz)), (36, c1 (vB zz))]) (by kernel_rfl) (fun hc10 => ?_) (fun hc10 => ?_)
        · replace hq := cond_t hc10 hq
          refine runF 2 (T' := sl 44 [(3, c1 (.ptr 1 0 0)), (5, c1 (.ptr 2 0 0)), (7, c1 (.ptr 3 0 0)), (8, c1 (vi y7.2)), (29, .one (.agg (aV y4.1))), (30, .one (.agg (aT t_))), (31, c1 (vB true)), (32, c1 (vB true)), (33, c1 (vi y7.2)), (34, c1 (vB true)), (35, c1 (vB true)), (36, c1 (vB true)), (37, .one (.agg (aV y4.1))), (38, .one (.agg (aV y7.1)))]) (σ' := [some (.box (aV v_)), some (.box (aT t_)), some (.box (aV y4.1)), some (.box (aV y7.1))]) (by kernel_rfl) ?_
          obtain ⟨y11, hy11, hq⟩ := bind_inv hq
          refine callF (d := some 39) (by kernel_rfl) (t_value_Equal_ok hb he y4.1 y7.1 y11 hy11) ?_
          refine runF 2 (T' := sl 44 [(3, c1 (.ptr 1 0 0)), (5, c1 (.ptr 2 0 0)), (7, c1 (.ptr 3 0 0)), (8, c1 (vi y7.2)), (29, .one (.agg (aV y4.1))), (30, .one (.agg (aT t_))), (31, c1 (vB true)), (32, c1 (vB true)), (33, c1 (vi y7.2)), (34, c1 (vB true)), (35, c1 (vB true)), (36, c1 (vB true)), (37, .one (.agg (aV y4.1))), (38, .one (.agg (aV y7.1))), (39, c1 (vB y11)), (40, c1 (vB y11)), (41, c1 (vB y11))]) (σ' := [some (.box (aV v_)), some (.box (aT t_)), some (.box (aV y4.1)), some (.box (aV y7.1))]) (by kernel_rfl) ?_
          refine partsF (y11) (fun zz => sl 44 [(3, c1 (.ptr 1 0 0)), (5, c1 (.ptr 2 0 0)), (7, c1 (.ptr 3 0 0)), (8, c1 (vi y7.2)), (29, .one (.agg (aV y4.1))), (30, .one (.agg (aT t_))), (31, c1 (vB true)), (32, c1 (vB true)), (33, c1 (vi y7.2)), (34, c1 (vB true)), (35, c1 (vB true)), (36, c1 (vB true)), (37, .one (.agg (aV y4.1))), (38, .one (.agg (aV y7.1))), (39, c1 (vB zz)), (40, c1 (vB zz)), (41, c1 (vB zz))]) (by kernel_rfl) (fun hc12 => ?_) (fun hc12 => ?_)
          · replace hq := cond_t hc12 hq
            obtain ⟨y13, hy13, hq⟩ := bind_inv hq
            refine callF (d := some 42) (by kernel_rfl) (g_l11_awake_ok hb he  y13 hy13) ?_
            refine lastK (T' := sl 44 [(4, c1 (vB y13))]) (σ' := [some (.box (aV v_)), some (.box (aT t_)), some (.box (aV y4.1)), some (.box (aV y7.1))]) (by kernel_rfl) hR ?_
            refine L_ret ?_
            have h0 := Option.some.inj hq
            obtain rfl := h0
            exact end_ret (by kernel_rfl)
          · replace hq := cond_f hc12 hq
            refine lastK (T' := sl 44 [(4, c1 (vB false))]) (σ' := [some (.box (aV v_)), some (.box (aT t_)), some (.box (aV y4.1)), some (.box (aV y7.1))]) (by kernel_rfl) hR ?_
            refine L_ret ?_
            have h0 := Option.some.inj hq
            obtain rfl := h0
            exact end_ret (by kernel_rfl)
        · replace hq := cond_f hc10 hq
          refine lastK (T' := sl 44 [(4, c1 (vB false))]) (σ' := [some (.box (aV v_)), some (.box (aT t_)), some (.box (aV y4.1)), some (.box (aV y7.1))]) (by kernel_rfl) hR ?_
          refine L_ret ?_
          have h0 := Option.some.inj hq
          obtain rfl := h0
          exact end_ret (by kernel_rfl)
      · replace hq := cond_f hc9 hq
        refine lastK (T' := sl 44 [(4, c1 (vB false))]) (σ' := [some (.box (aV v_)), some (.box (aT t_)), some (.box (aV y4.1)), some (.box (aV y7.1))]) (by kernel_rfl) hR ?_
        refine L_ret ?_
        have h0 := Option.some.inj hq
        obtain rfl := h0
        exact end_ret (by kernel_rfl)
noncomputable def g_l11_ConvertKeeps  (v_ : Val) (t_ : Ty) : Option (Bool) :=
  (g_l11_right v_ t_).bind fun y1 => bif (!y1) then (g_l11_awake).bind fun y3 => some (y3) else (t_types_Fits v_ t_).bind fun y4 => bif (!y4) then (g_l11_awake).bind fun y6 => some (y6) else (g_convert_To v_ t_).bind fun y7 => bif (decide (y7.2 = 0)) then (t_value_Equal y7.1 v_).bind fun y9 => bif y9 then (g_l11_awake).bind fun y11 => some (y11) else some (false) else some (false)
theorem g_l11_ConvertKeeps_ok (hb : Base E E0 G) (he : ∀ w, E w → EnvV w)   (v_ : Val) (t_ : Ty) (r_ : Bool) (hq : g_l11_ConvertKeeps v_ t_ = some r_) :
    Pure E E0 Tryd.prog 5 [.agg (aV v_), .agg (aT t_)] (c1 (vB r_)) := by
  refine pure_L Tryd.func5 rfl ?_
  refine L_keepF [0, 1] (T' := sl 34 [(0, .one (.agg (aV v_))), (1, .one (.agg (aT t_)))]) (by kernel_rfl) ?_
  refine L_seq ?_
  refine L_regF hb [2, 3] (T' := sl 34 [(2, c1 (.ptr 0 0 0)), (3, c1 (.ptr 1 0 0))]) (σ' := [some (.box (aV v_)), some (.box (aT t_))]) (by kernel_rfl) ?_
  refine L_seq (L_seq ?_)
  refine L_regK hb [2, 3, 16] (fun R hR => ?_)
  refine runF 2 (T' := sl 34 [(2, c1 (.ptr 0 0 0)), (3, c1 (.ptr 1 0 0)), (7, .one (.agg (aV v_))), (8, .one (.agg (aT t_)))]) (σ' := [some (.box (aV v_)), some (.box (aT t_))]) (by kernel_rfl) ?_
  obtain ⟨y1, hy1, hq⟩ := bind_inv hq
  refine callF (d := some 9) (by kernel_rfl) (g_l11_right_ok hb he v_ t_ y1 hy1) ?_
  refine runF 2 (T' := sl 34 [(2, c1 (.ptr 0 0 0)), (3, c1 (.ptr 1 0 0)), (7, .one (.agg (aV v_))), (8, .one (.agg (aT t_))), (9, c1 (vB y1)), (10, c1 (vB (!y1))), (11, c1 (vB (!y1)))]) (σ' := [some (.box (aV v_)), some (.box (aT t_))]) (by kernel_rfl) ?_
  refine partsF ((!y1)) (fun zz => sl 34 [(2, c1 (.ptr 0 0 0)), (3, c1 (.ptr 1 0 0)), (7, .one (.agg (aV v_))), (8, .one (.agg (aT t_))), (9, c1 (vB y1)), (10, c1 (vB zz)), (11, c1 (vB zz))]) (by kernel_rfl) (fun hc2 => ?_) (fun hc2 => ?_)
  · replace hq := cond_t hc2 hq
    refine lastK (T' := sl 34 [(2, c1 (.ptr 0 0 0)), (3, c1 (.ptr 1 0 0)), (16, c1 (vB true))]) (σ' := [some (.box (aV v_)), some (.box (aT t_))]) (by kernel_rfl) hR ?_
    refine L_true hb (by kernel_rfl) (L_seq ?_)
    refine L_regK hb [4] (fun R hR => ?_)
    obtain ⟨y3, hy3, hq⟩ := bind_inv hq
    refine callF (d := some 17) (by kernel_rfl) (g_l11_awake_ok hb he  y3 hy3) ?_
    refine lastK (T' := sl 34 [(4, c1 (vB y3))]) (σ' := [some (.box (aV v_)), some (.box (aT t_))]) (by kernel_rfl) hR ?_
    refine L_ret ?_
    have h0 := Option.some.inj hq
    obtain rfl := h0
    exact end_ret (by kernel_rfl)
  · replace hq := cond_f hc2 hq
    refine runF 2 (T' := sl 34 [(2, c1 (.ptr 0 0 0)), (3, c1 (.ptr 1 0 0)), (7, .one (.agg (aV v_))), (8, .one (.agg (aT t_))), (9, c1 (vB y1)), (10, c1 (vB false)), (11, c1 (vB false)), (12, .one (.agg (aV v_))), (13, .one (.agg (aT t_)))]) (σ' := [some (.box (aV v_)), some (.box (aT t_))]) (by kernel_rfl) ?_
    obtain ⟨y4, hy4, hq⟩ := bind_inv hq
    refine callF (d := some 14) (by kernel_rfl) (t_types_Fits_ok hb he v_ t_ y4 hy4) ?_
    refine lastK (T' := sl 34 [(2, c1 (.ptr 0 0 0)), (3, c1 (.ptr 1 0 0)), (16, c1 (vB (!y4)))]) (σ' := [some (.box (aV v_)), some (.box (aT t_))]) (by kernel_rfl) hR ?_
    refine L_if hb (b := (!y4)) (by kernel_rfl) (fun hc5 => ?_) (fun hc5 => ?_)
    · replace hq := cond_t hc5 hq
      refine L_seq ?_
      refine L_regK hb [4] (fun R hR => ?_)
      obtain ⟨y6, hy6, hq⟩ := bind_inv hq
      refine callF (d := some 17) (by kernel_rfl) (g_l11_awake_ok hb he  y6 hy6) ?_
      refine lastK (T' := sl 34 [(4, c1 (vB y6))]) (σ' := [some (.box (aV v_)), some (.box (aT t_))]) (by kernel_rfl) hR ?_
      refine L_ret ?_
      have h0 := Option.some.inj hq
      obtain rfl := h0
      exact end_ret (by kernel_rfl)
    · replace hq := cond_f hc5 hq
      refine L_skip (L_seq ?_)
      refine L_regK hb [2, 5, 6] (fun R hR => ?_)
      refine runF 2 (T' := sl 34 [(2, c1 (.ptr 0 0 0)), (3, c1 (.ptr 1 0 0)), (16, c1 (vB (!y4))), (19, .one (.agg (aV v_))), (20, .one (.agg (aT t_)))]) (σ' := [some (.box (aV v_)), some (.box (aT t_))]) (by kernel_rfl) ?_
      obtain ⟨y7, hy7, hq⟩ := bind_inv hq
      refine callF (d := some 21) (by kernel_rfl) (g_convert_To_ok hb he v_ t_ y7 hy7) ?_
      refine lastK (T' := sl 34 [(2, c1 (.ptr 0 0 0)), (5, c1 (.ptr 2 0 0)), (6, c1 (vi y7.2))]) (σ' := [some (.box (aV v_)), some (.box (aT t_)), some (.box (aV y7.1))]) (by kernel_rfl) hR ?_
      refine L_seq ?_
      refine L_regK hb [4] (fun R hR => ?_)
      refine runF 3 (T' := sl 34 [(2, c1 (.ptr 0 0 0)), (5, c1 (.ptr 2 0 0)), (6, c1 (vi y7.2)), (24, c1 (vi y7.2)), (25, c1 (vB (decide (y7.2 = 0)))), (26, c1 (vB (decide (y7.2 = 0))))]) (σ' := [some (.box (aV v_)), some (.box (aT t_)), some (.box (aV y7.1))]) (by kernel_rfl) ?_
      refine partsF ((decide (y7.2 = 0))) (fun zz => sl 34 [(2, c1 (.ptr 0 0 0)), (5, c1 (.ptr 2 0 0)), (6, c1 (vi y7.2)), (24, c1 (vi y7.2)), (25, c1 (vB zz)), (26, c1 (vB zz))]) (by kernel_rfl) (fun hc8 => ?_) (fun hc8 => ?_)
      · replace hq := cond_t hc8 hq
        refine runF 2 (T' := sl 34 [(2, c1 (.ptr 0 0 0)), (5, c1 (.ptr 2 0 0)), (6, c1 (vi y7.2)), (24, c1 (vi y7.2)), (25, c1 (vB true)), (26, c1 (vB true)), (27, .one (.agg (aV y7.1))), (28, .one (.agg (aV v_)))]) (σ' := [some (.box (aV v_)), some (.box (aT t_)), some (.box (aV y7.1))]) (by kernel_rfl) ?_
        obtain ⟨y9, hy9, hq⟩ := bind_inv hq
        refine callF (d := some 29) (by kernel_rfl) (t_value_Equal_ok hb he y7.1 v_ y9 hy9) ?_
        refine runF 2 (T' := sl 34 [(2, c1 (.ptr 0 0 0)), (5, c1 (.ptr 2 0 0)), (6, c1 (vi y7.2)), (24, c1 (vi y7.2)), (25, c1 (vB true)), (26, c1 (vB true)), (27, .one (.agg (aV y7.1))), (28, .one (.agg (aV v_))), (29, c1 (vB y9)), (30, c1 (vB y9)), (31, c1 (vB y9))]) (σ' := [some (.box (aV v_)), some (.box (aT t_)), some (.box (aV y7.1))]) (by kernel_rfl) ?_
        refine partsF (y9) (fun zz => sl 34 [(2, c1 (.ptr 0 0 0)), (5, c1 (.ptr 2 0 0)), (6, c1 (vi y7.2)), (24, c1 (vi y7.2)), (25, c1 (vB true)), (26, c1 (vB true)), (27, .one (.agg (aV y7.1))), (28, .one (.agg (aV v_))), (29, c1 (vB zz)), (30, c1 (vB zz)), (31, c1 (vB zz))]) (by kernel_rfl) (fun hc10 => ?_) (fun hc10 => ?_)
        · replace hq := cond_t hc10 hq
          obtain ⟨y11, hy11, hq⟩ := bind_inv hq
          refine callF (d := some 32) (by kernel_rfl) (g_l11_awake_ok hb he  y11 hy11) ?_
          refine lastK (T' := sl 34 [(4, c1 (vB y11))]) (σ' := [some (.box (aV v_)), some (.box (aT t_)), some (.box (aV y7.1))]) (by kernel_rfl) hR ?_
          refine L_ret ?_
          have h0 := Option.some.inj hq
          obtain rfl := h0
          exact end_ret (by kernel_rfl)
        · replace hq := cond_f hc10 hq
          refine lastK (T' := sl 34 [(4, c1 (vB false))]) (σ' := [some (.box (aV v_)), some (.box (aT t_)), some (.box (aV y7.1))]) (by kernel_rfl) hR ?_
          refine L_ret ?_
          have h0 := Option.some.inj hq
          obtain rfl := h0
          exact end_ret (by kernel_rfl)
      · replace hq := cond_f hc8 hq
        refine lastK (T' := sl 34 [(4, c1 (vB false))]) (σ' := [some (.box (aV v_)), some (.box (aT t_)), some (.box (aV y7.1))]) (by kernel_rfl) hR ?_
        refine L_ret ?_
        have h0 := Option.some.inj hq
        obtain rfl := h0
        exact end_ret (by kernel_rfl)
end Abs
end Go.Proofs.YtkmhhboihgckcaaDoor
