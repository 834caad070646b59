/-
  Convert: Go functions as functions over plain values, with the proof that the code computes them; printed by gen.py.
-/
import Derived.Test.YtkmhhboihgckcaaGreatDoorGzB
namespace Go.Proofs.YtkmhhboihgckcaaGreatDoor
set_option linter.unusedSimpArgs false
set_option linter.unusedVariables false
namespace Abs
open Go.RowKit
variable {E : World → Prop} {E0 : Nat} {G : Nat → Option (List PV)}
set_option maxRecDepth 100000
set_option linter.unusedVariables false
attribute [local irreducible] asqX awpL awp asq asqD Pure Ok asqF sl loopO
noncomputable def g_r11_to_L1 (r_r11_to : Val → Ty → Option (Val × Int)) (v_ : Val) (t_ : Ty) (s1 : Int × List Val) : Option ((Int × List Val) ⊕ (Val × Int)) :=
  bif (decide (s1.1 < (v_.items.length : Int))) then (idx v_.items s1.1).bind fun x13 => (idx t_.elems 0).bind fun x14 => (r_r11_to x13 x14).bind fun y15 => bif (!decide (y15.2 = 0)) then some (.inr ((Val.mk 0 0 eS [] []), y15.2)) else (app 80 s1.2 [y15.1]).bind fun l17 => some (.inl ((IntKind.i64.wrap (s1.1 + 1)), l17)) else some (.inr ((Val.mk v_.kind 0 eS s1.2 v_.keys), 0))
noncomputable def g_r11_to_L2 (r_r11_to : Val → Ty → Option (Val × Int)) (v_ : Val) (t_ : Ty) (s1 : Int × List Val) : Option ((Int × List Val) ⊕ (Val × Int)) :=
  bif (decide (s1.1 < (v_.items.length : Int))) then (idx v_.items s1.1).bind fun x23 => (idx t_.elems 0).bind fun x24 => (r_r11_to x23 x24).bind fun y25 => bif (!decide (y25.2 = 0)) then some (.inr ((Val.mk 0 0 eS [] []), y25.2)) else (app 80 s1.2 [y25.1]).bind fun l27 => some (.inl ((IntKind.i64.wrap (s1.1 + 1)), l27)) else some (.inr ((Val.mk v_.kind 0 eS s1.2 v_.keys), 0))
noncomputable def g_r11_to_L3 (r_r11_to : Val → Ty → Option (Val × Int)) (v_ : Val) (t_ : Ty) (s1 : Int × List Val) : Option ((Int × List Val) ⊕ (Val × Int)) :=
  bif (decide (s1.1 < (v_.items.length : Int))) then (idx v_.items s1.1).bind fun x30 => (idx t_.elems 0).bind fun x31 => (r_r11_to x30 x31).bind fun y32 => bif (!decide (y32.2 = 0)) then some (.inr ((Val.mk 0 0 eS [] []), y32.2)) else (app 80 s1.2 [y32.1]).bind fun l34 => some (.inl ((IntKind.i64.wrap (s1.1 + 1)), l34)) else some (.inr ((Val.mk v_.kind 0 eS s1.2 v_.keys), 0))
noncomputable def g_r11_to (r_r11_object : Val → Ty → Option (Val × Int)) (r_r11_to : Val → Ty → Option (Val × Int)) (v_ : Val) (t_ : Ty) : Option (Val × Int) :=
  bif (decide (t_.kind = 0)) then some (v_, 0) else bif (decide (v_.kind = 0)) then some (v_, 0) else bif (decide (v_.kind = 6)) then some (v_, 0) else bif (decide (t_.kind = 6)) then bif (!decide (v_.kind = 5)) then some ((Val.mk 0 0 eS [] []), 6) else (r_r11_object v_ t_).bind fun y6 => some (y6.1, y6.2) else bif (!decide (t_.kind = 4)) then bif (!decide (t_.kind = 5)) then (g_r11_simple v_ t_.kind).bind fun y9 => some (y9.1, y9.2) else bif (!decide (v_.kind = 5)) then some ((Val.mk 0 0 eS [] []), 6) else bif (!decide ((t_.elems.length : Int) = 1)) then some ((Val.mk 0 0 eS [] []), 6) else loopO (g_r11_to_L1 r_r11_to v_ t_) (0, []) else bif (!decide (v_.kind = 4)) then some ((Val.mk 0 0 eS [] []), 6) else bif (decide (t_.kind = 5)) then bif (!decide (v_.kind = 5)) then some ((Val.mk 0 0 eS [] []), 6) else bif (!decide ((t_.elems.length : Int) = 1)) then some ((Val.mk 0 0 eS [] []), 6) else loopO (g_r11_to_L2 r_r11_to v_ t_) (0, []) else bif (!decide ((t_.elems.length : Int) = 1)) then some ((Val.mk 0 0 eS [] []), 6) else loopO (g_r11_to_L3 r_r11_to v_ t_) (0, [])
theorem g_r11_to_ok (hb : Base E E0 G) (he : ∀ w, E w → EnvV w) (r_r11_object : Val → Ty → Option (Val × Int)) (r_r11_to : Val → Ty → Option (Val × Int)) (hr_r11_object : ∀ (a0 : Val) (a1 : Ty) (r : Val × Int), r_r11_object a0 a1 = some r → Pure E E0 Tryz.prog 43 [.agg (aV a0), .agg (aT a1)] (.tup [.agg (aV r.1), .cell (vi r.2)])) (hr_r11_to : ∀ (a0 : Val) (a1 : Ty) (r : Val × Int), r_r11_to a0 a1 = some r → Pure E E0 Tryz.prog 25 [.agg (aV a0), .agg (aT a1)] (.tup [.agg (aV r.1), .cell (vi r.2)])) (v_ : Val) (t_ : Ty) (r_ : Val × Int) (hq : g_r11_to r_r11_object r_r11_to v_ t_ = some r_) :
    Pure E E0 Tryz.prog 25 [.agg (aV v_), .agg (aT t_)] (.tup [.agg (aV r_.1), .cell (vi r_.2)]) := by
  refine pure_L Tryz.func25 rfl ?_
  refine L_keepF [0, 1] (T' := sl 111 [(0, .one (.agg (aV v_))), (1, .one (.agg (aT t_)))]) (by kernel_rfl) ?_
  refine L_seq ?_
  refine L_regF hb [2, 3, 4] (T' := sl 111 [(2, c1 (.ptr 0 0 0)), (3, c1 (.ptr 1 0 0)), (4, c1 (.ptr 2 0 0))]) (σ' := [some (.box (aV v_)), some (.box (aT t_)), some (.box zV)]) (by kernel_rfl) ?_
  refine L_seq (L_seq ?_)
  refine L_regK hb [2, 3, 4, 22] (fun R hR => ?_)
  refine runF 4 (T' := sl 111 [(2, c1 (.ptr 0 0 0)), (3, c1 (.ptr 1 0 0)), (4, c1 (.ptr 2 0 0)), (10, c1 (.ptr 1 0 0)), (11, c1 (vi t_.kind)), (12, c1 (vB (decide (t_.kind = 0)))), (13, c1 (vB (decide (t_.kind = 0))))]) (σ' := [some (.box (aV v_)), some (.box (aT t_)), some (.box zV)]) (by kernel_rfl) ?_
  refine partsF ((decide (t_.kind = 0))) (fun zz => sl 111 [(2, c1 (.ptr 0 0 0)), (3, c1 (.ptr 1 0 0)), (4, c1 (.ptr 2 0 0)), (10, c1 (.ptr 1 0 0)), (11, c1 (vi t_.kind)), (12, c1 (vB zz)), (13, c1 (vB zz))]) (by kernel_rfl) (fun hc1 => ?_) (fun hc1 => ?_)
  · replace hq := cond_t hc1 hq
    refine lastK (T' := sl 111 [(2, c1 (.ptr 0 0 0)), (3, c1 (.ptr 1 0 0)), (4, c1 (.ptr 2 0 0)), (22, c1 (vB true))]) (σ' := [some (.box (aV v_)), some (.box (aT t_)), some (.box zV)]) (by kernel_rfl) hR ?_
    refine L_true hb (by kernel_rfl) (L_seq ?_)
    refine L_regF hb [4, 5] (T' := sl 111 [(4, c1 (.ptr 2 0 0)), (5, c1 (vi 0))]) (σ' := [some (.box (aV v_)), some (.box (aT t_)), some (.box (aV v_))]) (by kernel_rfl) ?_
    refine L_ret ?_
    have h0 := Option.some.inj hq
    obtain rfl := h0
    exact end_ret (by kernel_rfl)
  · replace hq := cond_f hc1 hq
    refine runF 5 (T' := sl 111 [(2, c1 (.ptr 0 0 0)), (3, c1 (.ptr 1 0 0)), (4, c1 (.ptr 2 0 0)), (10, c1 (.ptr 1 0 0)), (11, c1 (vi t_.kind)), (12, c1 (vB false)), (13, c1 (vB false)), (14, c1 (.ptr 0 0 0)), (15, c1 (vi v_.kind)), (16, c1 (vB (decide (v_.kind = 0)))), (17, c1 (vB (decide (v_.kind = 0)))), (18, c1 (vB (decide (v_.kind = 0))))]) (σ' := [some (.box (aV v_)), some (.box (aT t_)), some (.box zV)]) (by kernel_rfl) ?_
    refine partsF ((decide (v_.kind = 0))) (fun zz => sl 111 [(2, c1 (.ptr 0 0 0)), (3, c1 (.ptr 1 0 0)), (4, c1 (.ptr 2 0 0)), (10, c1 (.ptr 1 0 0)), (11, c1 (vi t_.kind)), (12, c1 (vB false)), (13, c1 (vB false)), (14, c1 (.ptr 0 0 0)), (15, c1 (vi v_.kind)), (16, c1 (vB zz)), (17, c1 (vB zz)), (18, c1 (vB zz))]) (by kernel_rfl) (fun hc2 => ?_) (fun hc2 => ?_)
    · replace hq := cond_t hc2 hq
      refine lastK (T' := sl 111 [(2, c1 (.ptr 0 0 0)), (3, c1 (.ptr 1 0 0)), (4, c1 (.ptr 2 0 0)), (22, c1 (vB true))]) (σ' := [some (.box (aV v_)), some (.box (aT t_)), some (.box zV)]) (by kernel_rfl) hR ?_
      refine L_true hb (by kernel_rfl) (L_seq ?_)
      refine L_regF hb [4, 5] (T' := sl 111 [(4, c1 (.ptr 2 0 0)), (5, c1 (vi 0))]) (σ' := [some (.box (aV v_)), some (.box (aT t_)), some (.box (aV v_))]) (by kernel_rfl) ?_
      refine L_ret ?_
      have h0 := Option.some.inj hq
      obtain rfl := h0
      exact end_ret (by kernel_rfl)
    · replace hq := cond_f hc2 hq
      refine lastK (T' := sl 111 [(2, c1 (.ptr 0 0 0)), (3, c1 (.ptr 1 0 0)), (4, c1 (.ptr 2 0 0)), (22, c1 (vB (decide (v_.kind = 6))))]) (σ' := [some (.box (aV v_)), some (.box (aT t_)), some (.box zV)]) (by kernel_rfl) hR ?_
      refine L_if hb (b := (decide (v_.kind = 6))) (by kernel_rfl) (fun hc3 => ?_) (fun hc3 => ?_)
      · replace hq := cond_t hc3 hq
        refine L_seq ?_
        refine L_regF hb [4, 5] (T' := sl 111 [(4, c1 (.ptr 2 0 0)), (5, c1 (vi 0))]) (σ' := [some (.box (aV v_)), some (.box (aT t_)), some (.box (aV v_))]) (by kernel_rfl) ?_
        refine L_ret ?_
        have h0 := Option.some.inj hq
        obtain rfl := h0
        exact end_ret (by kernel_rfl)
      · replace hq := cond_f hc3 hq
        refine L_skip (L_seq (L_seq ?_))
        refine L_regF hb [2, 3, 4, 26] (T' := sl 111 [(2, c1 (.ptr 0 0 0)), (3, c1 (.ptr 1 0 0)), (4, c1 (.ptr 2 0 0)), (26, c1 (vB (decide (t_.kind = 6))))]) (σ' := [some (.box (aV v_)), some (.box (aT t_)), some (.box zV)]) (by kernel_rfl) ?_
        refine L_if hb (b := (decide (t_.kind = 6))) (by kernel_rfl) (fun hc4 => ?_) (fun hc4 => ?_)
        · replace hq := cond_t hc4 hq
          refine L_seq (L_seq ?_)
          refine L_regF hb [2, 3, 4, 29] (T' := sl 111 [(2, c1 (.ptr 0 0 0)), (3, c1 (.ptr 1 0 0)), (4, c1 (.ptr 2 0 0)), (29, c1 (vB (!decide (v_.kind = 5))))]) (σ' := [some (.box (aV v_)), some (.box (aT t_)), some (.box zV)]) (by kernel_rfl) ?_
          refine L_if hb (b := (!decide (v_.kind = 5))) (by kernel_rfl) (fun hc5 => ?_) (fun hc5 => ?_)
          · replace hq := cond_t hc5 hq
            refine L_seq ?_
            refine L_regF hb [4, 5] (T' := sl 111 [(4, c1 (.ptr 2 0 0)), (5, c1 (vi 6))]) (σ' := [some (.box (aV v_)), some (.box (aT t_)), some (.box zV)]) (by kernel_rfl) ?_
            refine L_ret ?_
            have h0 := Option.some.inj hq
            obtain rfl := h0
            exact end_ret (by kernel_rfl)
          · replace hq := cond_f hc5 hq
            refine L_skip (L_seq ?_)
            refine L_regK hb [4, 5] (fun R hR => ?_)
            refine runF 2 (T' := sl 111 [(2, c1 (.ptr 0 0 0)), (3, c1 (.ptr 1 0 0)), (4, c1 (.ptr 2 0 0)), (29, c1 (vB (!decide (v_.kind = 5)))), (31, .one (.agg (aV v_))), (32, .one (.agg (aT t_)))]) (σ' := [some (.box (aV v_)), some (.box (aT t_)), some (.box zV)]) (by kernel_rfl) ?_
            obtain ⟨y6, hy6, hq⟩ := bind_inv hq
            refine callF (d := some 33) (by kernel_rfl) (hr_r11_object v_ t_ y6 hy6) ?_
            refine lastK (T' := sl 111 [(4, c1 (.ptr 2 0 0)), (5, c1 (vi y6.2))]) (σ' := [some (.box (aV v_)), some (.box (aT t_)), some (.box (aV y6.1))]) (by kernel_rfl) hR ?_
            refine L_ret ?_
            have h0 := Option.some.inj hq
            obtain rfl := h0
            exact end_ret (by kernel_rfl)
        · replace hq := cond_f hc4 hq
          refine L_skip (L_seq (L_seq ?_))
          refine L_regK hb [2, 3, 4, 43] (fun R hR => ?_)
          refine runF 4 (T' := sl 111 [(2, c1 (.ptr 0 0 0)), (3, c1 (.ptr 1 0 0)), (4, c1 (.ptr 2 0 0)), (26, c1 (vB (decide (t_.kind = 6)))), (36, c1 (.ptr 1 0 0)), (37, c1 (vi t_.kind)), (38, c1 (vB (!decide (t_.kind = 4)))), (39, c1 (vB (!decide (t_.kind = 4))))]) (σ' := [some (.box (aV v_)), some (.box (aT t_)), some (.box zV)]) (by kernel_rfl) ?_
          refine partsF ((!decide (t_.kind = 4))) (fun zz => sl 111 [(2, c1 (.ptr 0 0 0)), (3, c1 (.ptr 1 0 0)), (4, c1 (.ptr 2 0 0)), (26, c1 (vB (decide (t_.kind = 6)))), (36, c1 (.ptr 1 0 0)), (37, c1 (vi t_.kind)), (38, c1 (vB zz)), (39, c1 (vB zz))]) (by kernel_rfl) (fun hc7 => ?_) (fun hc7 => ?_)
          · replace hq := cond_t hc7 hq
            refine lastK (T' := sl 111 [(2, c1 (.ptr 0 0 0)), (3, c1 (.ptr 1 0 0)), (4, c1 (.ptr 2 0 0)), (43, c1 (vB (!decide (t_.kind = 5))))]) (σ' := [some (.box (aV v_)), some (.box (aT t_)), some (.box zV)]) (by kernel_rfl) hR ?_
            refine L_if hb (b := (!decide (t_.kind = 5))) (by kernel_rfl) (fun hc8 => ?_) (fun hc8 => ?_)
            · replace hq := cond_t hc8 hq
              refine L_seq ?_
              refine L_regK hb [4, 5] (fun R hR => ?_)
              refine runF 3 (T' := sl 111 [(2, c1 (.ptr 0 0 0)), (3, c1 (.ptr 1 0 0)), (4, c1 (.ptr 2 0 0)), (43, c1 (vB (!decide (t_.kind = 5)))), (44, .one (.agg (aV v_))), (45, c1 (.ptr 1 0 0)), (46, c1 (vi t_.kind))]) (σ' := [some (.box (aV v_)), some (.box (aT t_)), some (.box zV)]) (by kernel_rfl) ?_
              obtain ⟨y9, hy9, hq⟩ := bind_inv hq
              refine callF (d := some 47) (by kernel_rfl) (g_r11_simple_ok hb he v_ t_.kind y9 hy9) ?_
              refine lastK (T' := sl 111 [(4, c1 (.ptr 2 0 0)), (5, c1 (vi y9.2))]) (σ' := [some (.box (aV v_)), some (.box (aT t_)), some (.box (aV y9.1))]) (by kernel_rfl) hR ?_
              refine L_ret ?_
              have h0 := Option.some.inj hq
              obtain rfl := h0
              exact end_ret (by kernel_rfl)
            · replace hq := cond_f hc8 hq
              refine L_skip (L_seq (L_seq ?_))
              refine L_regK hb [2, 3, 4, 73] (fun R hR => ?_)
              refine runF 4 (T' := sl 111 [(2, c1 (.ptr 0 0 0)), (3, c1 (.ptr 1 0 0)), (4, c1 (.ptr 2 0 0)), (43, c1 (vB (!decide (t_.kind = 5)))), (50, c1 (.ptr 1 0 0)), (51, c1 (vi t_.kind)), (52, c1 (vB (decide (t_.kind = 4)))), (53, c1 (vB (decide (t_.kind = 4))))]) (σ' := [some (.box (aV v_)), some (.box (aT t_)), some (.box zV)]) (by kernel_rfl) ?_
              refine partsFF ((decide (t_.kind = 4))) (fun zz => sl 111 [(2, c1 (.ptr 0 0 0)), (3, c1 (.ptr 1 0 0)), (4, c1 (.ptr 2 0 0)), (43, c1 (vB (!decide (t_.kind = 5)))), (50, c1 (.ptr 1 0 0)), (51, c1 (vi t_.kind)), (52, c1 (vB zz)), (53, c1 (vB zz))]) (by kernel_rfl) (not_t hc7) ?_
              refine runF 9 (T' := sl 111 [(2, c1 (.ptr 0 0 0)), (3, c1 (.ptr 1 0 0)), (4, c1 (.ptr 2 0 0)), (43, c1 (vB (!decide (t_.kind = 5)))), (50, c1 (.ptr 1 0 0)), (51, c1 (vi t_.kind)), (52, c1 (vB false)), (53, c1 (vB false)), (54, c1 (.undef)), (55, c1 (.undef)), (56, c1 (.undef)), (57, c1 (vB false)), (58, c1 (vB false)), (59, c1 (.ptr 1 0 0)), (60, c1 (vi t_.kind)), (61, c1 (vB (decide (t_.kind = 5)))), (62, c1 (vB (decide (t_.kind = 5))))]) (σ' := [some (.box (aV v_)), some (.box (aT t_)), some (.box zV)]) (by kernel_rfl) ?_
              refine partsT ((decide (t_.kind = 5))) (fun zz => sl 111 [(2, c1 (.ptr 0 0 0)), (3, c1 (.ptr 1 0 0)), (4, c1 (.ptr 2 0 0)), (43, c1 (vB (!decide (t_.kind = 5)))), (50, c1 (.ptr 1 0 0)), (51, c1 (vi t_.kind)), (52, c1 (vB false)), (53, c1 (vB false)), (54, c1 (.undef)), (55, c1 (.undef)), (56, c1 (.undef)), (57, c1 (vB false)), (58, c1 (vB false)), (59, c1 (.ptr 1 0 0)), (60, c1 (vi t_.kind)), (61, c1 (vB zz)), (62, c1 (vB zz))]) (by kernel_rfl) (not_f hc8) ?_
              refine runF 6 (T' := sl 111 [(2, c1 (.ptr 0 0 0)), (3, c1 (.ptr 1 0 0)), (4, c1 (.ptr 2 0 0)), (43, c1 (vB (!decide (t_.kind = 5)))), (50, c1 (.ptr 1 0 0)), (51, c1 (vi t_.kind)), (52, c1 (vB false)), (53, c1 (vB false)), (54, c1 (.undef)), (55, c1 (.undef)), (56, c1 (.undef)), (57, c1 (vB false)), (58, c1 (vB false)), (59, c1 (.ptr 1 0 0)), (60, c1 (vi t_.kind)), (61, c1 (vB true)), (62, c1 (vB true)), (63, c1 (.ptr 0 0 0)), (64, c1 (vi v_.kind)), (65, c1 (vB (!decide (v_.kind = 5)))), (66, c1 (vB (!decide (v_.kind = 5)))), (67, c1 (vB (!decide (v_.kind = 5)))), (68, c1 (vB (!decide (v_.kind = 5))))]) (σ' := [some (.box (aV v_)), some (.box (aT t_)), some (.box zV)]) (by kernel_rfl) ?_
              refine partsF ((!decide (v_.kind = 5))) (fun zz => sl 111 [(2, c1 (.ptr 0 0 0)), (3, c1 (.ptr 1 0 0)), (4, c1 (.ptr 2 0 0)), (43, c1 (vB (!decide (t_.kind = 5)))), (50, c1 (.ptr 1 0 0)), (51, c1 (vi t_.kind)), (52, c1 (vB false)), (53, c1 (vB false)), (54, c1 (.undef)), (55, c1 (.undef)), (56, c1 (.undef)), (57, c1 (vB false)), (58, c1 (vB false)), (59, c1 (.ptr 1 0 0)), (60, c1 (vi t_.kind)), (61, c1 (vB true)), (62, c1 (vB true)), (63, c1 (.ptr 0 0 0)), (64, c1 (vi v_.kind)), (65, c1 (vB zz)), (66, c1 (vB zz)), (67, c1 (vB zz)), (68, c1 (vB zz))]) (by kernel_rfl) (fun hc10 => ?_) (fun hc10 => ?_)
              · replace hq := cond_t hc10 hq
                refine lastK (T' := sl 111 [(2, c1 (.ptr 0 0 0)), (3, c1 (.ptr 1 0 0)), (4, c1 (.ptr 2 0 0)), (73, c1 (vB true))]) (σ' := [some (.box (aV v_)), some (.box (aT t_)), some (.box zV)]) (by kernel_rfl) hR ?_
                refine L_true hb (by kernel_rfl) (L_seq ?_)
                refine L_regF hb [4, 5] (T' := sl 111 [(4, c1 (.ptr 2 0 0)), (5, c1 (vi 6))]) (σ' := [some (.box (aV v_)), some (.box (aT t_)), some (.box zV)]) (by kernel_rfl) ?_
                refine L_ret ?_
                have h0 := Option.some.inj hq
                obtain rfl := h0
                exact end_ret (by kernel_rfl)
              · replace hq := cond_f hc10 hq
                refine lastK (T' := sl 111 [(2, c1 (.ptr 0 0 0)), (3, c1 (.ptr 1 0 0)), (4, c1 (.ptr 2 0 0)), (73, c1 (vB (!decide ((t_.elems.length : Int) = 1))))]) (σ' := [some (.box (aV v_)), some (.box (aT t_)), some (.box zV)]) (by kernel_rfl) hR ?_
                refine L_if hb (b := (!decide ((t_.elems.length : Int) = 1))) (by kernel_rfl) (fun hc11 => ?_) (fun hc11 => ?_)
                · replace hq := cond_t hc11 hq
                  refine L_seq ?_
                  refine L_regF hb [4, 5] (T' := sl 111 [(4, c1 (.ptr 2 0 0)), (5, c1 (vi 6))]) (σ' := [some (.box (aV v_)), some (.box (aT t_)), some (.box zV)]) (by kernel_rfl) ?_
                  refine L_ret ?_
                  have h0 := Option.some.inj hq
                  obtain rfl := h0
                  exact end_ret (by kernel_rfl)
                · replace hq := cond_f hc11 hq
                  refine L_skip (L_seq ?_)
                  refine L_regF hb [2, 3, 4, 6] (T' := sl 111 [(2, c1 (.ptr 0 0 0)), (3, c1 (.ptr 1 0 0)), (4, c1 (.ptr 2 0 0)), (6, c1 (.ptr 3 0 0))]) (σ' := [some (.box (aV v_)), some (.box (aT t_)), some (.box zV), some (.box [vi v_.kind, vi 0, vS eS, vN, vL flS v_.keys])]) (by kernel_rfl) ?_
                  refine L_seq (L_seq ?_)
                  refine L_regF hb [2, 3, 4, 6, 7] (T' := sl 111 [(2, c1 (.ptr 0 0 0)), (3, c1 (.ptr 1 0 0)), (4, c1 (.ptr 2 0 0)), (6, c1 (.ptr 3 0 0)), (7, c1 (vi 0))]) (σ' := [some (.box (aV v_)), some (.box (aT t_)), some (.box zV), some (.box [vi v_.kind, vi 0, vS eS, vN, vL flS v_.keys])]) (by kernel_rfl) ?_
                  refine L_block (fun K1 hA1 hB1 hC1 hD1 => ?_)
                  refine L_ownσ 3 3 5 (cs := [vi v_.kind, vi 0, vS eS, vN, vL flS v_.keys]) (by kernel_rfl) (by kernel_rfl) rfl ?_
                  refine L_backF [2, 3, 4, 6, 7] [] 5 (T' := sl 111 [(2, c1 (.ptr 0 0 0)), (3, c1 (.ptr 1 0 0)), (4, c1 (.ptr 2 0 0)), (6, c1 (.ptr 3 0 0)), (7, c1 (vi 0))]) (σ' := [some (.box (aV v_)), some (.box (aT t_)), some (.box zV), some (.box [vi v_.kind, vi 0, vS eS, vO flV 4 [], vL flS v_.keys]), some (arO true flV.sz ((flV.f []).length) (flV.f []))]) (by kernel_rfl) (by kernel_rfl) (by simp) (by kernel_rfl) ⟨(by kernel_rfl), (by kernel_rfl), (by kernel_rfl), (by kernel_rfl), (under_arO _ _ _ _ _), trivial⟩ ?_
                  refine L_as (by kernel_rfl) (by kernel_rfl) (L_loopO (body := (g_r11_to_L1 r_r11_to v_ t_)) (fun s1 => sl 111 [(2, c1 (.ptr 0 0 0)), (3, c1 (.ptr 1 0 0)), (4, c1 (.ptr 2 0 0)), (6, c1 (.ptr 3 0 0)), (7, c1 (vi s1.1))]) (fun s1 => [some (.box (aV v_)), some (.box (aT t_)), some (.box zV), some (.box [vi v_.kind, vi 0, vS eS, vO flV 4 s1.2, vL flS v_.keys]), some (arO true flV.sz ((flV.f s1.2).length) (flV.f s1.2))]) (s0 := (0, [])) (fun s1 x1 hq hn1 he1 => ?_) hq)
                  refine L_seq (L_seq ?_)
                  refine L_regF hb [2, 3, 4, 6, 7, 84] (T' := sl 111 [(2, c1 (.ptr 0 0 0)), (3, c1 (.ptr 1 0 0)), (4, c1 (.ptr 2 0 0)), (6, c1 (.ptr 3 0 0)), (7, c1 (vi s1.1)), (84, c1 (vB (decide (s1.1 < (v_.items.length : Int)))))]) (σ' := [some (.box (aV v_)), some (.box (aT t_)), some (.box zV), some (.box [vi v_.kind, vi 0, vS eS, vO flV 4 s1.2, vL flS v_.keys]), some (arO true flV.sz ((flV.f s1.2).length) (flV.f s1.2))]) (by kernel_rfl) ?_
                  refine L_if hb (b := (decide (s1.1 < (v_.items.length : Int)))) (by kernel_rfl) (fun hc12 => ?_) (fun hc12 => ?_)
                  · replace hq := cond_t hc12 hq
                    refine L_skip (L_seq (L_block (fun K2 hA2 hB2 hC2 hD2 => (L_seq ?_))))
                    refine L_drwK hb mixed [2, 3, 4, 6, 7, 8, 9] 14 (by kernel_rfl) (by kernel_rfl) (fun R hR => ?_)
                    refine runF 3 (T' := sl 111 [(2, c1 (.ptr 0 0 0)), (3, c1 (.ptr 1 0 0)), (4, c1 (.ptr 2 0 0)), (6, c1 (.ptr 3 0 0)), (7, c1 (vi s1.1)), (84, c1 (vB (decide (s1.1 < (v_.items.length : Int))))), (88, c1 (.ptr 0 0 3)), (89, c1 (vL flV v_.items)), (90, c1 (vi s1.1))]) (σ' := [some (.box (aV v_)), some (.box (aT t_)), some (.box zV), some (.box [vi v_.kind, vi 0, vS eS, vO flV 4 s1.2, vL flS v_.keys]), some (arO true flV.sz ((flV.f s1.2).length) (flV.f s1.2))]) (by kernel_rfl) ?_
                    obtain ⟨x13, hx13, hq⟩ := bind_inv hq
                    refine idxF flV (d := some 91) hx13 (by kernel_rfl) ?_
                    refine runF 3 (T' := sl 111 [(2, c1 (.ptr 0 0 0)), (3, c1 (.ptr 1 0 0)), (4, c1 (.ptr 2 0 0)), (6, c1 (.ptr 3 0 0)), (7, c1 (vi s1.1)), (84, c1 (vB (decide (s1.1 < (v_.items.length : Int))))), (88, c1 (.ptr 0 0 3)), (89, c1 (vL flV v_.items)), (90, c1 (vi s1.1)), (91, c1 (.pv (.pp (flV.c x13 ++ flV.f (List.drop (s1.1.toNat + 1) v_.items))))), (92, .one (.agg (aV x13))), (93, c1 (.ptr 1 0 1)), (94, c1 (vL flT t_.elems))]) (σ' := [some (.box (aV v_)), some (.box (aT t_)), some (.box zV), some (.box [vi v_.kind, vi 0, vS eS, vO flV 4 s1.2, vL flS v_.keys]), some (arO true flV.sz ((flV.f s1.2).length) (flV.f s1.2))]) (by kernel_rfl) ?_
                    obtain ⟨x14, hx14, hq⟩ := bind_inv hq
                    refine idxF flT (d := some 95) hx14 (by kernel_rfl) ?_
                    refine runF 1 (T' := sl 111 [(2, c1 (.ptr 0 0 0)), (3, c1 (.ptr 1 0 0)), (4, c1 (.ptr 2 0 0)), (6, c1 (.ptr 3 0 0)), (7, c1 (vi s1.1)), (84, c1 (vB (decide (s1.1 < (v_.items.length : Int))))), (88, c1 (.ptr 0 0 3)), (89, c1 (vL flV v_.items)), (90, c1 (vi s1.1)), (91, c1 (.pv (.pp (flV.c x13 ++ flV.f (List.drop (s1.1.toNat + 1) v_.items))))), (92, .one (.agg (aV x13))), (93, c1 (.ptr 1 0 1)), (94, c1 (vL flT t_.elems)), (95, c1 (.pv (.pp (flT.c x14 ++ flT.f (List.drop ((0 : Int).toNat + 1) t_.elems))))), (96, .one (.agg (aT x14)))]) (σ' := [some (.box (aV v_)), some (.box (aT t_)), some (.box zV), some (.box [vi v_.kind, vi 0, vS eS, vO flV 4 s1.2, vL flS v_.keys]), some (arO true flV.sz ((flV.f s1.2).length) (flV.f s1.2))]) (by kernel_rfl) ?_
                    obtain ⟨y15, hy15, hq⟩ := bind_inv hq
                    refine callF (d := some 97) (by kernel_rfl) (hr_r11_to x13 x14 y15 hy15) ?_
                    refine lastF (T' := sl 111 [(2, c1 (.ptr 0 0 0)), (3, c1 (.ptr 1 0 0)), (4, c1 (.ptr 2 0 0)), (6, c1 (.ptr 3 0 0)), (7, c1 (vi s1.1)), (8, c1 (.ptr 5 0 0)), (84, c1 (vB (decide (s1.1 < (v_.items.length : Int))))), (87, .tup [.agg (aV y15.1), .cell (vi y15.2)]), (88, c1 (.ptr 0 0 3)), (89, c1 (vL flV v_.items)), (90, c1 (vi s1.1)), (91, c1 (.pv (.pp (flV.c x13 ++ flV.f (List.drop (s1.1.toNat + 1) v_.items))))), (92, .one (.agg (aV x13))), (93, c1 (.ptr 1 0 1)), (94, c1 (vL flT t_.elems)), (95, c1 (.pv (.pp (flT.c x14 ++ flT.f (List.drop ((0 : Int).toNat + 1) t_.elems))))), (96, .one (.agg (aT x14))), (97, .tup [.agg (aV y15.1), .cell (vi y15.2)]), (98, .one (.agg (aV y15.1))), (99, c1 (vi y15.2))]) (σ' := [some (.box (aV v_)), some (.box (aT t_)), some (.box zV), some (.box [vi v_.kind, vi 0, vS eS, vO flV 4 s1.2, vL flS v_.keys]), some (arO true flV.sz ((flV.f s1.2).length) (flV.f s1.2)), some (.box zV)]) (by kernel_rfl) ?_
                    refine lastK (T' := sl 111 [(2, c1 (.ptr 0 0 0)), (3, c1 (.ptr 1 0 0)), (4, c1 (.ptr 2 0 0)), (6, c1 (.ptr 3 0 0)), (7, c1 (vi s1.1)), (8, c1 (.ptr 5 0 0)), (9, c1 (vi y15.2))]) (σ' := [some (.box (aV v_)), some (.box (aT t_)), some (.box zV), some (.box [vi v_.kind, vi 0, vS eS, vO flV 4 s1.2, vL flS v_.keys]), some (arO true flV.sz ((flV.f s1.2).length) (flV.f s1.2)), some (.box (aV y15.1))]) (by kernel_rfl) hR ?_
                    refine L_seq (L_seq ?_)
                    refine L_regF hb [2, 3, 4, 6, 7, 8, 9, 101] (T' := sl 111 [(2, c1 (.ptr 0 0 0)), (3, c1 (.ptr 1 0 0)), (4, c1 (.ptr 2 0 0)), (6, c1 (.ptr 3 0 0)), (7, c1 (vi s1.1)), (8, c1 (.ptr 5 0 0)), (9, c1 (vi y15.2)), (101, c1 (vB (!decide (y15.2 = 0))))]) (σ' := [some (.box (aV v_)), some (.box (aT t_)), some (.box zV), some (.box [vi v_.kind, vi 0, vS eS, vO flV 4 s1.2, vL flS v_.keys]), some (arO true flV.sz ((flV.f s1.2).length) (flV.f s1.2)), some (.box (aV y15.1))]) (by kernel_rfl) ?_
                    refine L_if hb (b := (!decide (y15.2 = 0))) (by kernel_rfl) (fun hc16 => ?_) (fun hc16 => ?_)
                    · replace hq := cond_t hc16 hq
                      refine L_seq ?_
                      refine L_regF hb [4, 5] (T' := sl 111 [(4, c1 (.ptr 2 0 0)), (5, c1 (vi y15.2))]) (σ' := [some (.box (aV v_)), some (.box (aT t_)), some (.box zV), some (.box [vi v_.kind, vi 0, vS eS, vO flV 4 s1.2, vL flS v_.keys]), some (arO true flV.sz ((flV.f s1.2).length) (flV.f s1.2)), some (.box (aV y15.1))]) (by kernel_rfl) ?_
                      refine L_ret (hD2 _ _ (hD1 _ _ ?_))
                      have h0 := (Option.some.inj hq).symm
                      replace h0 := he1 _ h0
                      obtain rfl := h0
                      exact end_ret (by kernel_rfl)
                    · replace hq := cond_f hc16 hq
                      refine L_skip ?_
                      refine L_regN hb (fun R hR => ?_)
                      refine runF 4 (T' := sl 111 [(2, c1 (.ptr 0 0 0)), (3, c1 (.ptr 1 0 0)), (4, c1 (.ptr 2 0 0)), (6, c1 (.ptr 3 0 0)), (7, c1 (vi s1.1)), (8, c1 (.ptr 5 0 0)), (9, c1 (vi y15.2)), (101, c1 (vB (!decide (y15.2 = 0)))), (104, c1 (.ptr 3 0 3)), (105, c1 (vO flV 4 s1.2)), (106, .one (.agg (aV y15.1))), (107, c1 (.pv (.sl true 1 [pI .i64 y15.1.kind, pI .i64 y15.1.num, pS y15.1.str, pL flV y15.1.items, pL flS y15.1.keys])))]) (σ' := [some (.box (aV v_)), some (.box (aT t_)), some (.box zV), some (.box [vi v_.kind, vi 0, vS eS, vO flV 4 s1.2, vL flS v_.keys]), some (arO true flV.sz ((flV.f s1.2).length) (flV.f s1.2)), some (.box (aV y15.1))]) (by kernel_rfl) ?_
                      obtain ⟨l17, hl17, hq⟩ := bind_inv hq
                      refine appOwnF flV (d := some 108) (id := 4) (s := .pv (.sl true 1 [pI .i64 y15.1.kind, pI .i64 y15.1.num, pS y15.1.str, pL flV y15.1.items, pL flS y15.1.keys])) (nb := true) (fr := (flV.f s1.2).length) hl17 (by kernel_rfl) (src_lit flV (flV.one y15.1) rfl) (by kernel_rfl) (Nat.le_refl _) ?_
                      refine lastF (T' := sl 111 [(2, c1 (.ptr 0 0 0)), (3, c1 (.ptr 1 0 0)), (4, c1 (.ptr 2 0 0)), (6, c1 (.ptr 3 0 0)), (7, c1 (vi s1.1)), (8, c1 (.ptr 5 0 0)), (9, c1 (vi y15.2)), (101, c1 (vB (!decide (y15.2 = 0)))), (104, c1 (.ptr 3 0 3)), (105, c1 (vO flV 4 s1.2)), (106, .one (.agg (aV y15.1))), (107, c1 (.pv (.sl true 1 [pI .i64 y15.1.kind, pI .i64 y15.1.num, pS y15.1.str, pL flV y15.1.items, pL flS y15.1.keys]))), (108, c1 (vO flV 4 l17)), (109, c1 (.ptr 3 0 3))]) (σ' := [some (.box (aV v_)), some (.box (aT t_)), some (.box zV), some (.box [vi v_.kind, vi 0, vS eS, vO flV 4 l17, vL flS v_.keys]), some (arO true flV.sz ((flV.f s1.2).length) (flV.f l17)), some (.box (aV y15.1))]) (by kernel_rfl) (hR _ _ ?_)
                      refine L_nil (hA2 _ _ ?_)
                      refine L_regF hb [2, 3, 4, 6, 7] (T' := sl 111 [(2, c1 (.ptr 0 0 0)), (3, c1 (.ptr 1 0 0)), (4, c1 (.ptr 2 0 0)), (6, c1 (.ptr 3 0 0)), (7, c1 (vi (IntKind.i64.wrap (s1.1 + 1))))]) (σ' := [some (.box (aV v_)), some (.box (aT t_)), some (.box zV), some (.box [vi v_.kind, vi 0, vS eS, vO flV 4 l17, vL flS v_.keys]), some (arO true flV.sz ((flV.f s1.2).length) (flV.f l17)), some (.box (aV y15.1))]) (by kernel_rfl) ?_
                      refine L_mark 4 (nb := true) (cs := flV.f l17) rfl (app_le flV hl17) ?_
                      refine L_backF [2, 3, 4, 6, 7] [] 5 (T' := sl 111 [(2, c1 (.ptr 0 0 0)), (3, c1 (.ptr 1 0 0)), (4, c1 (.ptr 2 0 0)), (6, c1 (.ptr 3 0 0)), (7, c1 (vi (IntKind.i64.wrap (s1.1 + 1))))]) (σ' := [some (.box (aV v_)), some (.box (aT t_)), some (.box zV), some (.box [vi v_.kind, vi 0, vS eS, vO flV 4 l17, vL flS v_.keys]), some (arO true flV.sz ((flV.f l17).length) (flV.f l17))]) (by kernel_rfl) (by kernel_rfl) (by simp) (by kernel_rfl) ⟨(by kernel_rfl), (by kernel_rfl), (by kernel_rfl), (by kernel_rfl), (under_arO _ _ _ _ _), trivial⟩ ?_
                      have h0 := (Option.some.inj hq).symm
                      exact L_as (by kernel_rfl) (by kernel_rfl) (hn1 _ h0)
                  · replace hq := cond_f hc12 hq
                    refine L_exit (hB1 _ _ (L_seq ?_))
                    refine L_regF hb [4, 5] (T' := sl 111 [(4, c1 (.ptr 2 0 0)), (5, c1 (vi 0))]) (σ' := [some (.box (aV v_)), some (.box (aT t_)), some (.box [vi v_.kind, vi 0, vS eS, vO flV 4 s1.2, vL flS v_.keys]), some (.box [vi v_.kind, vi 0, vS eS, vO flV 4 s1.2, vL flS v_.keys]), some (arO true flV.sz ((flV.f s1.2).length) (flV.f s1.2))]) (by kernel_rfl) ?_
                    refine L_cellσ 2 3 (cs := [vi v_.kind, vi 0, vS eS, vO flV 4 s1.2, vL flS v_.keys]) (c := vO flV 4 s1.2) (by kernel_rfl) (by kernel_rfl) (conv_own flV (nb := true) (id := 4) (xs := s1.2) (by kernel_rfl)) ?_
                    refine L_ret ?_
                    have h0 := (Option.some.inj hq).symm
                    replace h0 := he1 _ h0
                    obtain rfl := h0
                    exact end_ret (by kernel_rfl)
          · replace hq := cond_f hc7 hq
            refine lastK (T' := sl 111 [(2, c1 (.ptr 0 0 0)), (3, c1 (.ptr 1 0 0)), (4, c1 (.ptr 2 0 0)), (43, c1 (vB false))]) (σ' := [some (.box (aV v_)), some (.box (aT t_)), some (.box zV)]) (by kernel_rfl) hR ?_
            refine L_false hb (by kernel_rfl) (L_skip (L_seq (L_seq ?_)))
            refine L_regK hb [2, 3, 4, 73] (fun R hR => ?_)
            refine runF 4 (T' := sl 111 [(2, c1 (.ptr 0 0 0)), (3, c1 (.ptr 1 0 0)), (4, c1 (.ptr 2 0 0)), (43, c1 (vB false)), (50, c1 (.ptr 1 0 0)), (51, c1 (vi t_.kind)), (52, c1 (vB (decide (t_.kind = 4)))), (53, c1 (vB (decide (t_.kind = 4))))]) (σ' := [some (.box (aV v_)), some (.box (aT t_)), some (.box zV)]) (by kernel_rfl) ?_
            refine partsT ((decide (t_.kind = 4))) (fun zz => sl 111 [(2, c1 (.ptr 0 0 0)), (3, c1 (.ptr 1 0 0)), (4, c1 (.ptr 2 0 0)), (43, c1 (vB false)), (50, c1 (.ptr 1 0 0)), (51, c1 (vi t_.kind)), (52, c1 (vB zz)), (53, c1 (vB zz))]) (by kernel_rfl) (not_f hc7) ?_
            refine runF 5 (T' := sl 111 [(2, c1 (.ptr 0 0 0)), (3, c1 (.ptr 1 0 0)), (4, c1 (.ptr 2 0 0)), (43, c1 (vB false)), (50, c1 (.ptr 1 0 0)), (51, c1 (vi t_.kind)), (52, c1 (vB true)), (53, c1 (vB true)), (54, c1 (.ptr 0 0 0)), (55, c1 (vi v_.kind)), (56, c1 (vB (!decide (v_.kind = 4)))), (57, c1 (vB (!decide (v_.kind = 4)))), (58, c1 (vB (!decide (v_.kind = 4))))]) (σ' := [some (.box (aV v_)), some (.box (aT t_)), some (.box zV)]) (by kernel_rfl) ?_
            refine partsF ((!decide (v_.kind = 4))) (fun zz => sl 111 [(2, c1 (.ptr 0 0 0)), (3, c1 (.ptr 1 0 0)), (4, c1 (.ptr 2 0 0)), (43, c1 (vB false)), (50, c1 (.ptr 1 0 0)), (51, c1 (vi t_.kind)), (52, c1 (vB true)), (53, c1 (vB true)), (54, c1 (.ptr 0 0 0)), (55, c1 (vi v_.kind)), (56, c1 (vB zz)), (57, c1 (vB zz)), (58, c1 (vB zz))]) (by kernel_rfl) (fun hc18 => ?_) (fun hc18 => ?_)
            · replace hq := cond_t hc18 hq
              refine lastK (T' := sl 111 [(2, c1 (.ptr 0 0 0)), (3, c1 (.ptr 1 0 0)), (4, c1 (.ptr 2 0 0)), (73, c1 (vB true))]) (σ' := [some (.box (aV v_)), some (.box (aT t_)), some (.box zV)]) (by kernel_rfl) hR ?_
              refine L_true hb (by kernel_rfl) (L_seq ?_)
              refine L_regF hb [4, 5] (T' := sl 111 [(4, c1 (.ptr 2 0 0)), (5, c1 (vi 6))]) (σ' := [some (.box (aV v_)), some (.box (aT t_)), some (.box zV)]) (by kernel_rfl) ?_
              refine L_ret ?_
              have h0 := Option.some.inj hq
              obtain rfl := h0
              exact end_ret (by kernel_rfl)
            · replace hq := cond_f hc18 hq
              refine runF 4 (T' := sl 111 [(2, c1 (.ptr 0 0 0)), (3, c1 (.ptr 1 0 0)), (4, c1 (.ptr 2 0 0)), (43, c1 (vB false)), (50, c1 (.ptr 1 0 0)), (51, c1 (vi t_.kind)), (52, c1 (vB true)), (53, c1 (vB true)), (54, c1 (.ptr 0 0 0)), (55, c1 (vi v_.kind)), (56, c1 (vB false)), (57, c1 (vB false)), (58, c1 (vB false)), (59, c1 (.ptr 1 0 0)), (60, c1 (vi t_.kind)), (61, c1 (vB (decide (t_.kind = 5)))), (62, c1 (vB (decide (t_.kind = 5))))]) (σ' := [some (.box (aV v_)), some (.box (aT t_)), some (.box zV)]) (by kernel_rfl) ?_
              refine partsF ((decide (t_.kind = 5))) (fun zz => sl 111 [(2, c1 (.ptr 0 0 0)), (3, c1 (.ptr 1 0 0)), (4, c1 (.ptr 2 0 0)), (43, c1 (vB false)), (50, c1 (.ptr 1 0 0)), (51, c1 (vi t_.kind)), (52, c1 (vB true)), (53, c1 (vB true)), (54, c1 (.ptr 0 0 0)), (55, c1 (vi v_.kind)), (56, c1 (vB false)), (57, c1 (vB false)), (58, c1 (vB false)), (59, c1 (.ptr 1 0 0)), (60, c1 (vi t_.kind)), (61, c1 (vB zz)), (62, c1 (vB zz))]) (by kernel_rfl) (fun hc19 => ?_) (fun hc19 => ?_)
              · replace hq := cond_t hc19 hq
                refine runF 6 (T' := sl 111 [(2, c1 (.ptr 0 0 0)), (3, c1 (.ptr 1 0 0)), (4, c1 (.ptr 2 0 0)), (43, c1 (vB false)), (50, c1 (.ptr 1 0 0)), (51, c1 (vi t_.kind)), (52, c1 (vB true)), (53, c1 (vB true)), (54, c1 (.ptr 0 0 0)), (55, c1 (vi v_.kind)), (56, c1 (vB false)), (57, c1 (vB false)), (58, c1 (vB false)), (59, c1 (.ptr 1 0 0)), (60, c1 (vi t_.kind)), (61, c1 (vB true)), (62, c1 (vB true)), (63, c1 (.ptr 0 0 0)), (64, c1 (vi v_.kind)), (65, c1 (vB (!decide (v_.kind = 5)))), (66, c1 (vB (!decide (v_.kind = 5)))), (67, c1 (vB (!decide (v_.kind = 5)))), (68, c1 (vB (!decide (v_.kind = 5))))]) (σ' := [some (.box (aV v_)), some (.box (aT t_)), some (.box zV)]) (by kernel_rfl) ?_
                refine partsF ((!decide (v_.kind = 5))) (fun zz => sl 111 [(2, c1 (.ptr 0 0 0)), (3, c1 (.ptr 1 0 0)), (4, c1 (.ptr 2 0 0)), (43, c1 (vB false)), (50, c1 (.ptr 1 0 0)), (51, c1 (vi t_.kind)), (52, c1 (vB true)), (53, c1 (vB true)), (54, c1 (.ptr 0 0 0)), (55, c1 (vi v_.kind)), (56, c1 (vB false)), (57, c1 (vB false)), (58, c1 (vB false)), (59, c1 (.ptr 1 0 0)), (60, c1 (vi t_.kind)), (61, c1 (vB true)), (62, c1 (vB true)), (63, c1 (.ptr 0 0 0)), (64, c1 (vi v_.kind)), (65, c1 (vB zz)), (66, c1 (vB zz)), (67, c1 (vB zz)), (68, c1 (vB zz))]) (by kernel_rfl) (fun hc20 => ?_) (fun hc20 => ?_)
                · replace hq := cond_t hc20 hq
                  refine lastK (T' := sl 111 [(2, c1 (.ptr 0 0 0)), (3, c1 (.ptr 1 0 0)), (4, c1 (.ptr 2 0 0)), (73, c1 (vB true))]) (σ' := [some (.box (aV v_)), some (.box (aT t_)), some (.box zV)]) (by kernel_rfl) hR ?_
                  refine L_true hb (by kernel_rfl) (L_seq ?_)
                  refine L_regF hb [4, 5] (T' := sl 111 [(4, c1 (.ptr 2 0 0)), (5, c1 (vi 6))]) (σ' := [some (.box (aV v_)), some (.box (aT t_)), some (.box zV)]) (by kernel_rfl) ?_
                  refine L_ret ?_
                  have h0 := Option.some.inj hq
                  obtain rfl := h0
                  exact end_ret (by kernel_rfl)
                · replace hq := cond_f hc20 hq
                  refine lastK (T' := sl 111 [(2, c1 (.ptr 0 0 0)), (3, c1 (.ptr 1 0 0)), (4, c1 (.ptr 2 0 0)), (73, c1 (vB (!decide ((t_.elems.length : Int) = 1))))]) (σ' := [some (.box (aV v_)), some (.box (aT t_)), some (.box zV)]) (by kernel_rfl) hR ?_
                  refine L_if hb (b := (!decide ((t_.elems.length : Int) = 1))) (by kernel_rfl) (fun hc21 => ?_) (fun hc21 => ?_)
                  · replace hq := cond_t hc21 hq
                    refine L_seq ?_
                    refine L_regF hb [4, 5] (T' := sl 111 [(4, c1 (.ptr 2 0 0)), (5, c1 (vi 6))]) (σ' := [some (.box (aV v_)), some (.box (aT t_)), some (.box zV)]) (by kernel_rfl) ?_
                    refine L_ret ?_
                    have h0 := Option.some.inj hq
                    obtain rfl := h0
                    exact end_ret (by kernel_rfl)
                  · replace hq := cond_f hc21 hq
                    refine L_skip (L_seq ?_)
                    refine L_regF hb [2, 3, 4, 6] (T' := sl 111 [(2, c1 (.ptr 0 0 0)), (3, c1 (.ptr 1 0 0)), (4, c1 (.ptr 2 0 0)), (6, c1 (.ptr 3 0 0))]) (σ' := [some (.box (aV v_)), some (.box (aT t_)), some (.box zV), some (.box [vi v_.kind, vi 0, vS eS, vN, vL flS v_.keys])]) (by kernel_rfl) ?_
                    refine L_seq (L_seq ?_)
                    refine L_regF hb [2, 3, 4, 6, 7] (T' := sl 111 [(2, c1 (.ptr 0 0 0)), (3, c1 (.ptr 1 0 0)), (4, c1 (.ptr 2 0 0)), (6, c1 (.ptr 3 0 0)), (7, c1 (vi 0))]) (σ' := [some (.box (aV v_)), some (.box (aT t_)), some (.box zV), some (.box [vi v_.kind, vi 0, vS eS, vN, vL flS v_.keys])]) (by kernel_rfl) ?_
                    refine L_block (fun K1 hA1 hB1 hC1 hD1 => ?_)
                    refine L_ownσ 3 3 5 (cs := [vi v_.kind, vi 0, vS eS, vN, vL flS v_.keys]) (by kernel_rfl) (by kernel_rfl) rfl ?_
                    refine L_backF [2, 3, 4, 6, 7] [] 5 (T' := sl 111 [(2, c1 (.ptr 0 0 0)), (3, c1 (.ptr 1 0 0)), (4, c1 (.ptr 2 0 0)), (6, c1 (.ptr 3 0 0)), (7, c1 (vi 0))]) (σ' := [some (.box (aV v_)), some (.box (aT t_)), some (.box zV), some (.box [vi v_.kind, vi 0, vS eS, vO flV 4 [], vL flS v_.keys]), some (arO true flV.sz ((flV.f []).length) (flV.f []))]) (by kernel_rfl) (by kernel_rfl) (by simp) (by kernel_rfl) ⟨(by kernel_rfl), (by kernel_rfl), (by kernel_rfl), (by kernel_rfl), (under_arO _ _ _ _ _), trivial⟩ ?_
                    refine L_as (by kernel_rfl) (by kernel_rfl) (L_loopO (body := (g_r11_to_L2 r_r11_to v_ t_)) (fun s1 => sl 111 [(2, c1 (.ptr 0 0 0)), (3, c1 (.ptr 1 0 0)), (4, c1 (.ptr 2 0 0)), (6, c1 (.ptr 3 0 0)), (7, c1 (vi s1.1))]) (fun s1 => [some (.box (aV v_)), some (.box (aT t_)), some (.box zV), some (.box [vi v_.kind, vi 0, vS eS, vO flV 4 s1.2, vL flS v_.keys]), some (arO true flV.sz ((flV.f s1.2).length) (flV.f s1.2))]) (s0 := (0, [])) (fun s1 x1 hq hn1 he1 => ?_) hq)
                    refine L_seq (L_seq ?_)
                    refine L_regF hb [2, 3, 4, 6, 7, 84] (T' := sl 111 [(2, c1 (.ptr 0 0 0)), (3, c1 (.ptr 1 0 0)), (4, c1 (.ptr 2 0 0)), (6, c1 (.ptr 3 0 0)), (7, c1 (vi s1.1)), (84, c1 (vB (decide (s1.1 < (v_.items.length : Int)))))]) (σ' := [some (.box (aV v_)), some (.box (aT t_)), some (.box zV), some (.box [vi v_.kind, vi 0, vS eS, vO flV 4 s1.2, vL flS v_.keys]), some (arO true flV.sz ((flV.f s1.2).length) (flV.f s1.2))]) (by kernel_rfl) ?_
                    refine L_if hb (b := (decide (s1.1 < (v_.items.length : Int)))) (by kernel_rfl) (fun hc22 => ?_) (fun hc22 => ?_)
                    · replace hq := cond_t hc22 hq
                      refine L_skip (L_seq (L_block (fun K2 hA2 hB2 hC2 hD2 => (L_seq ?_))))
                      refine L_drwK hb mixed [2, 3, 4, 6, 7, 8, 9] 14 (by kernel_rfl) (by kernel_rfl) (fun R hR => ?_)
                      refine runF 3 (T' := sl 111 [(2, c1 (.ptr 0 0 0)), (3, c1 (.ptr 1 0 0)), (4, c1 (.ptr 2 0 0)), (6, c1 (.ptr 3 0 0)), (7, c1 (vi s1.1)), (84, c1 (vB (decide (s1.1 < (v_.items.length : Int))))), (88, c1 (.ptr 0 0 3)), (89, c1 (vL flV v_.items)), (90, c1 (vi s1.1))]) (σ' := [some (.box (aV v_)), some (.box (aT t_)), some (.box zV), some (.box [vi v_.kind, vi 0, vS eS, vO flV 4 s1.2, vL flS v_.keys]), some (arO true flV.sz ((flV.f s1.2).length) (flV.f s1.2))]) (by kernel_rfl) ?_
                      obtain ⟨x23, hx23, hq⟩ := bind_inv hq
                      refine idxF flV (d := some 91) hx23 (by kernel_rfl) ?_
                      refine runF 3 (T' := sl 111 [(2, c1 (.ptr 0 0 0)), (3, c1 (.ptr 1 0 0)), (4, c1 (.ptr 2 0 0)), (6, c1 (.ptr 3 0 0)), (7, c1 (vi s1.1)), (84, c1 (vB (decide (s1.1 < (v_.items.length : Int))))), (88, c1 (.ptr 0 0 3)), (89, c1 (vL flV v_.items)), (90, c1 (vi s1.1)), (91, c1 (.pv (.pp (flV.c x23 ++ flV.f (List.drop (s1.1.toNat + 1) v_.items))))), (92, .one (.agg (aV x23))), (93, c1 (.ptr 1 0 1)), (94, c1 (vL flT t_.elems))]) (σ' := [some (.box (aV v_)), some (.box (aT t_)), some (.box zV), some (.box [vi v_.kind, vi 0, vS eS, vO flV 4 s1.2, vL flS v_.keys]), some (arO true flV.sz ((flV.f s1.2).length) (flV.f s1.2))]) (by kernel_rfl) ?_
                      obtain ⟨x24, hx24, hq⟩ := bind_inv hq
                      refine idxF flT (d := some 95) hx24 (by kernel_rfl) ?_
                      refine runF 1 (T' := sl 111 [(2, c1 (.ptr 0 0 0)), (3, c1 (.ptr 1 0 0)), (4, c1 (.ptr 2 0 0)), (6, c1 (.ptr 3 0 0)), (7, c1 (vi s1.1)), (84, c1 (vB (decide (s1.1 < (v_.items.length : Int))))), (88, c1 (.ptr 0 0 3)), (89, c1 (vL flV v_.items)), (90, c1 (vi s1.1)), (91, c1 (.pv (.pp (flV.c x23 ++ flV.f (List.drop (s1.1.toNat + 1) v_.items))))), (92, .one (.agg (aV x23))), (93, c1 (.ptr 1 0 1)), (94, c1 (vL flT t_.elems)), (95, c1 (.pv (.pp (flT.c x24 ++ flT.f (List.drop ((0 : Int).toNat + 1) t_.elems))))), (96, .one (.agg (aT x24)))]) (σ' := [some (.box (aV v_)), some (.box (aT t_)), some (.box zV), some (.box [vi v_.kind, vi 0, vS eS, vO flV 4 s1.2, vL flS v_.keys]), some (arO true flV.sz ((flV.f s1.2).length) (flV.f s1.2))]) (by kernel_rfl) ?_
                      obtain ⟨y25, hy25, hq⟩ := bind_inv hq
                      refine callF (d := some 97) (by kernel_rfl) (hr_r11_to x23 x24 y25 hy25) ?_
                      refine lastF (T' := sl 111 [(2, c1 (.ptr 0 0 0)), (3, c1 (.ptr 1 0 0)), (4, c1 (.ptr 2 0 0)), (6, c1 (.ptr 3 0 0)), (7, c1 (vi s1.1)), (8, c1 (.ptr 5 0 0)), (84, c1 (vB (decide (s1.1 < (v_.items.length : Int))))), (87, .tup [.agg (aV y25.1), .cell (vi y25.2)]), (88, c1 (.ptr 0 0 3)), (89, c1 (vL flV v_.items)), (90, c1 (vi s1.1)), (91, c1 (.pv (.pp (flV.c x23 ++ flV.f (List.drop (s1.1.toNat + 1) v_.items))))), (92, .one (.agg (aV x23))), (93, c1 (.ptr 1 0 1)), (94, c1 (vL flT t_.elems)), (95, c1 (.pv (.pp (flT.c x24 ++ flT.f (List.drop ((0 : Int).toNat + 1) t_.elems))))), (96, .one (.agg (aT x24))), (97, .tup [.agg (aV y25.1), .cell (vi y25.2)]), (98, .one (.agg (aV y25.1))), (99, c1 (vi y25.2))]) (σ' := [some (.box (aV v_)), some (.box (aT t_)), some (.box zV), some (.box [vi v_.kind, vi 0, vS eS, vO flV 4 s1.2, vL flS v_.keys]), some (arO true flV.sz ((flV.f s1.2).length) (flV.f s1.2)), some (.box zV)]) (by kernel_rfl) ?_
                      refine lastK (T' := sl 111 [(2, c1 (.ptr 0 0 0)), (3, c1 (.ptr 1 0 0)), (4, c1 (.ptr 2 0 0)), (6, c1 (.ptr 3 0 0)), (7, c1 (vi s1.1)), (8, c1 (.ptr 5 0 0)), (9, c1 (vi y25.2))]) (σ' := [some (.box (aV v_)), some (.box (aT t_)), some (.box zV), some (.box [vi v_.kind, vi 0, vS eS, vO flV 4 s1.2, vL flS v_.keys]), some (arO true flV.sz ((flV.f s1.2).length) (flV.f s1.2)), some (.box (aV y25.1))]) (by kernel_rfl) hR ?_
                      refine L_seq (L_seq ?_)
                      refine L_regF hb [2, 3, 4, 6, 7, 8, 9, 101] (T' := sl 111 [(2, c1 (.ptr 0 0 0)), (3, c1 (.ptr 1 0 0)), (4, c1 (.ptr 2 0 0)), (6, c1 (.ptr 3 0 0)), (7, c1 (vi s1.1)), (8, c1 (.ptr 5 0 0)), (9, c1 (vi y25.2)), (101, c1 (vB (!decide (y25.2 = 0))))]) (σ' := [some (.box (aV v_)), some (.box (aT t_)), some (.box zV), some (.box [vi v_.kind, vi 0, vS eS, vO flV 4 s1.2, vL flS v_.keys]), some (arO true flV.sz ((flV.f s1.2).length) (flV.f s1.2)), some (.box (aV y25.1))]) (by kernel_rfl) ?_
                      refine L_if hb (b := (!decide (y25.2 = 0))) (by kernel_rfl) (fun hc26 => ?_) (fun hc26 => ?_)
                      · replace hq := cond_t hc26 hq
                        refine L_seq ?_
                        refine L_regF hb [4, 5] (T' := sl 111 [(4, c1 (.ptr 2 0 0)), (5, c1 (vi y25.2))]) (σ' := [some (.box (aV v_)), some (.box (aT t_)), some (.box zV), some (.box [vi v_.kind, vi 0, vS eS, vO flV 4 s1.2, vL flS v_.keys]), some (arO true flV.sz ((flV.f s1.2).length) (flV.f s1.2)), some (.box (aV y25.1))]) (by kernel_rfl) ?_
                        refine L_ret (hD2 _ _ (hD1 _ _ ?_))
                        have h0 := (Option.some.inj hq).symm
                        replace h0 := he1 _ h0
                        obtain rfl := h0
                        exact end_ret (by kernel_rfl)
                      · replace hq := cond_f hc26 hq
                        refine L_skip ?_
                        refine L_regN hb (fun R hR => ?_)
                        refine runF 4 (T' := sl 111 [(2, c1 (.ptr 0 0 0)), (3, c1 (.ptr 1 0 0)), (4, c1 (.ptr 2 0 0)), (6, c1 (.ptr 3 0 0)), (7, c1 (vi s1.1)), (8, c1 (.ptr 5 0 0)), (9, c1 (vi y25.2)), (101, c1 (vB (!decide (y25.2 = 0)))), (104, c1 (.ptr 3 0 3)), (105, c1 (vO flV 4 s1.2)), (106, .one (.agg (aV y25.1))), (107, c1 (.pv (.sl true 1 [pI .i64 y25.1.kind, pI .i64 y25.1.num, pS y25.1.str, pL flV y25.1.items, pL flS y25.1.keys])))]) (σ' := [some (.box (aV v_)), some (.box (aT t_)), some (.box zV), some (.box [vi v_.kind, vi 0, vS eS, vO flV 4 s1.2, vL flS v_.keys]), some (arO true flV.sz ((flV.f s1.2).length) (flV.f s1.2)), some (.box (aV y25.1))]) (by kernel_rfl) ?_
                        obtain ⟨l27, hl27, hq⟩ := bind_inv hq
                        refine appOwnF flV (d := some 108) (id := 4) (s := .pv (.sl true 1 [pI .i64 y25.1.kind, pI .i64 y25.1.num, pS y25.1.str, pL flV y25.1.items, pL flS y25.1.keys])) (nb := true) (fr := (flV.f s1.2).length) hl27 (by kernel_rfl) (src_lit flV (flV.one y25.1) rfl) (by kernel_rfl) (Nat.le_refl _) ?_
                        refine lastF (T' := sl 111 [(2, c1 (.ptr 0 0 0)), (3, c1 (.ptr 1 0 0)), (4, c1 (.ptr 2 0 0)), (6, c1 (.ptr 3 0 0)), (7, c1 (vi s1.1)), (8, c1 (.ptr 5 0 0)), (9, c1 (vi y25.2)), (101, c1 (vB (!decide (y25.2 = 0)))), (104, c1 (.ptr 3 0 3)), (105, c1 (vO flV 4 s1.2)), (106, .one (.agg (aV y25.1))), (107, c1 (.pv (.sl true 1 [pI .i64 y25.1.kind, pI .i64 y25.1.num, pS y25.1.str, pL flV y25.1.items, pL flS y25.1.keys]))), (108, c1 (vO flV 4 l27)), (109, c1 (.ptr 3 0 3))]) (σ' := [some (.box (aV v_)), some (.box (aT t_)), some (.box zV), some (.box [vi v_.kind, vi 0, vS eS, vO flV 4 l27, vL flS v_.keys]), some (arO true flV.sz ((flV.f s1.2).length) (flV.f l27)), some (.box (aV y25.1))]) (by kernel_rfl) (hR _ _ ?_)
                        refine L_nil (hA2 _ _ ?_)
                        refine L_regF hb [2, 3, 4, 6, 7] (T' := sl 111 [(2, c1 (.ptr 0 0 0)), (3, c1 (.ptr 1 0 0)), (4, c1 (.ptr 2 0 0)), (6, c1 (.ptr 3 0 0)), (7, c1 (vi (IntKind.i64.wrap (s1.1 + 1))))]) (σ' := [some (.box (aV v_)), some (.box (aT t_)), some (.box zV), some (.box [vi v_.kind, vi 0, vS eS, vO flV 4 l27, vL flS v_.keys]), some (arO true flV.sz ((flV.f s1.2).length) (flV.f l27)), some (.box (aV y25.1))]) (by kernel_rfl) ?_
                        refine L_mark 4 (nb := true) (cs := flV.f l27) rfl (app_le flV hl27) ?_
                        refine L_backF [2, 3, 4, 6, 7] [] 5 (T' := sl 111 [(2, c1 (.ptr 0 0 0)), (3, c1 (.ptr 1 0 0)), (4, c1 (.ptr 2 0 0)), (6, c1 (.ptr 3 0 0)), (7, c1 (vi (IntKind.i64.wrap (s1.1 + 1))))]) (σ' := [some (.box (aV v_)), some (.box (aT t_)), some (.box zV), some (.box [vi v_.kind, vi 0, vS eS, vO flV 4 l27, vL flS v_.keys]), some (arO true flV.sz ((flV.f l27).length) (flV.f l27))]) (by kernel_rfl) (by kernel_rfl) (by simp) (by kernel_rfl) ⟨(by kernel_rfl), (by kernel_rfl), (by kernel_rfl), (by kernel_rfl), (under_arO _ _ _ _ _), trivial⟩ ?_
                        have h0 := (Option.some.inj hq).symm
                        exact L_as (by kernel_rfl) (by kernel_rfl) (hn1 _ h0)
                    · replace hq := cond_f hc22 hq
                      refine L_exit (hB1 _ _ (L_seq ?_))
                      refine L_regF hb [4, 5] (T' := sl 111 [(4, c1 (.ptr 2 0 0)), (5, c1 (vi 0))]) (σ' := [some (.box (aV v_)), some (.box (aT t_)), some (.box [vi v_.kind, vi 0, vS eS, vO flV 4 s1.2, vL flS v_.keys]), some (.box [vi v_.kind, vi 0, vS eS, vO flV 4 s1.2, vL flS v_.keys]), some (arO true flV.sz ((flV.f s1.2).length) (flV.f s1.2))]) (by kernel_rfl) ?_
                      refine L_cellσ 2 3 (cs := [vi v_.kind, vi 0, vS eS, vO flV 4 s1.2, vL flS v_.keys]) (c := vO flV 4 s1.2) (by kernel_rfl) (by kernel_rfl) (conv_own flV (nb := true) (id := 4) (xs := s1.2) (by kernel_rfl)) ?_
                      refine L_ret ?_
                      have h0 := (Option.some.inj hq).symm
                      replace h0 := he1 _ h0
                      obtain rfl := h0
                      exact end_ret (by kernel_rfl)
              · replace hq := cond_f hc19 hq
                refine lastK (T' := sl 111 [(2, c1 (.ptr 0 0 0)), (3, c1 (.ptr 1 0 0)), (4, c1 (.ptr 2 0 0)), (73, c1 (vB (!decide ((t_.elems.length : Int) = 1))))]) (σ' := [some (.box (aV v_)), some (.box (aT t_)), some (.box zV)]) (by kernel_rfl) hR ?_
                refine L_if hb (b := (!decide ((t_.elems.length : Int) = 1))) (by kernel_rfl) (fun hc28 => ?_) (fun hc28 => ?_)
                · replace hq := cond_t hc28 hq
                  refine L_seq ?_
                  refine L_regF hb [4, 5] (T' := sl 111 [(4, c1 (.ptr 2 0 0)), (5, c1 (vi 6))]) (σ' := [some (.box (aV v_)), some (.box (aT t_)), some (.box zV)]) (by kernel_rfl) ?_
                  refine L_ret ?_
                  have h0 := Option.some.inj hq
                  obtain rfl := h0
                  exact end_ret (by kernel_rfl)
                · replace hq := cond_f hc28 hq
                  refine L_skip (L_seq ?_)
                  refine L_regF hb [2, 3, 4, 6] (T' := sl 111 [(2, c1 (.ptr 0 0 0)), (3, c1 (.ptr 1 0 0)), (4, c1 (.ptr 2 0 0)), (6, c1 (.ptr 3 0 0))]) (σ' := [some (.box (aV v_)), some (.box (aT t_)), some (.box zV), some (.box [vi v_.kind, vi 0, vS eS, vN, vL flS v_.keys])]) (by kernel_rfl) ?_
                  refine L_seq (L_seq ?_)
                  refine L_regF hb [2, 3, 4, 6, 7] (T' := sl 111 [(2, c1 (.ptr 0 0 0)), (3, c1 (.ptr 1 0 0)), (4, c1 (.ptr 2 0 0)), (6, c1 (.ptr 3 0 0)), (7, c1 (vi 0))]) (σ' := [some (.box (aV v_)), some (.box (aT t_)), some (.box zV), some (.box [vi v_.kind, vi 0, vS eS, vN, vL flS v_.keys])]) (by kernel_rfl) ?_
                  refine L_block (fun K1 hA1 hB1 hC1 hD1 => ?_)
                  refine L_ownσ 3 3 5 (cs := [vi v_.kind, vi 0, vS eS, vN, vL flS v_.keys]) (by kernel_rfl) (by kernel_rfl) rfl ?_
                  refine L_backF [2, 3, 4, 6, 7] [] 5 (T' := sl 111 [(2, c1 (.ptr 0 0 0)), (3, c1 (.ptr 1 0 0)), (4, c1 (.ptr 2 0 0)), (6, c1 (.ptr 3 0 0)), (7, c1 (vi 0))]) (σ' := [some (.box (aV v_)), some (.box (aT t_)), some (.box zV), some (.box [vi v_.kind, vi 0, vS eS, vO flV 4 [], vL flS v_.keys]), some (arO true flV.sz ((flV.f []).length) (flV.f []))]) (by kernel_rfl) (by kernel_rfl) (by simp) (by kernel_rfl) ⟨(by kernel_rfl), (by kernel_rfl), (by kernel_rfl), (by kernel_rfl), (under_arO _ _ _ _ _), trivial⟩ ?_
                  refine L_as (by kernel_rfl) (by kernel_rfl) (L_loopO (body := (g_r11_to_L3 r_r11_to v_ t_)) (fun s1 => sl 111 [(2, c1 (.ptr 0 0 0)), (3, c1 (.ptr 1 0 0)), (4, c1 (.ptr 2 0 0)), (6, c1 (.ptr 3 0 0)), (7, c1 (vi s1.1))]) (fun s1 => [some (.box (aV v_)), some (.box (aT t_)), some (.box zV), some (.box [vi v_.kind, vi 0, vS eS, vO flV 4 s1.2, vL flS v_.keys]), some (arO true flV.sz ((flV.f s1.2).length) (flV.f s1.2))]) (s0 := (0, [])) (fun s1 x1 hq hn1 he1 => ?_) hq)
                  refine L_seq (L_seq ?_)
                  refine L_regF hb [2, 3, 4, 6, 7, 84] (T' := sl 111 [(2, c1 (.ptr 0 0 0)), (3, c1 (.ptr 1 0 0)), (4, c1 (.ptr 2 0 0)), (6, c1 (.ptr 3 0 0)), (7, c1 (vi s1.1)), (84, c1 (vB (decide (s1.1 < (v_.items.length : Int)))))]) (σ' := [some (.box (aV v_)), some (.box (aT t_)), some (.box zV), some (.box [vi v_.kind, vi 0, vS eS, vO flV 4 s1.2, vL flS v_.keys]), some (arO true flV.sz ((flV.f s1.2).length) (flV.f s1.2))]) (by kernel_rfl) ?_
                  refine L_if hb (b := (decide (s1.1 < (v_.items.length : Int)))) (by kernel_rfl) (fun hc29 => ?_) (fun hc29 => ?_)
                  · replace hq := cond_t hc29 hq
                    refine L_skip (L_seq (L_block (fun K2 hA2 hB2 hC2 hD2 => (L_seq ?_))))
                    refine L_drwK hb mixed [2, 3, 4, 6, 7, 8, 9] 14 (by kernel_rfl) (by kernel_rfl) (fun R hR => ?_)
                    refine runF 3 (T' := sl 111 [(2, c1 (.ptr 0 0 0)), (3, c1 (.ptr 1 0 0)), (4, c1 (.ptr 2 0 0)), (6, c1 (.ptr 3 0 0)), (7, c1 (vi s1.1)), (84, c1 (vB (decide (s1.1 < (v_.items.length : Int))))), (88, c1 (.ptr 0 0 3)), (89, c1 (vL flV v_.items)), (90, c1 (vi s1.1))]) (σ' := [some (.box (aV v_)), some (.box (aT t_)), some (.box zV), some (.box [vi v_.kind, vi 0, vS eS, vO flV 4 s1.2, vL flS v_.keys]), some (arO true flV.sz ((flV.f s1.2).length) (flV.f s1.2))]) (by kernel_rfl) ?_
                    obtain ⟨x30, hx30, hq⟩ := bind_inv hq
                    refine idxF flV (d := some 91) hx30 (by kernel_rfl) ?_
                    refine runF 3 (T' := sl 111 [(2, c1 (.ptr 0 0 0)), (3, c1 (.ptr 1 0 0)), (4, c1 (.ptr 2 0 0)), (6, c1 (.ptr 3 0 0)), (7, c1 (vi s1.1)), (84, c1 (vB (decide (s1.1 < (v_.items.length : Int))))), (88, c1 (.ptr 0 0 3)), (89, c1 (vL flV v_.items)), (90, c1 (vi s1.1)), (91, c1 (.pv (.pp (flV.c x30 ++ flV.f (List.drop (s1.1.toNat + 1) v_.items))))), (92, .one (.agg (aV x30))), (93, c1 (.ptr 1 0 1)), (94, c1 (vL flT t_.elems))]) (σ' := [some (.box (aV v_)), some (.box (aT t_)), some (.box zV), some (.box [vi v_.kind, vi 0, vS eS, vO flV 4 s1.2, vL flS v_.keys]), some (arO true flV.sz ((flV.f s1.2).length) (flV.f s1.2))]) (by kernel_rfl) ?_
                    obtain ⟨x31, hx31, hq⟩ := bind_inv hq
                    refine idxF flT (d := some 95) hx31 (by kernel_rfl) ?_
                    refine runF 1 (T' := sl 111 [(2, c1 (.ptr 0 0 0)), (3, c1 (.ptr 1 0 0)), (4, c1 (.ptr 2 0 0)), (6, c1 (.ptr 3 0 0)), (7, c1 (vi s1.1)), (84, c1 (vB (decide (s1.1 < (v_.items.length : Int))))), (88, c1 (.ptr 0 0 3)), (89, c1 (vL flV v_.items)), (90, c1 (vi s1.1)), (91, c1 (.pv (.pp (flV.c x30 ++ flV.f (List.drop (s1.1.toNat + 1) v_.items))))), (92, .one (.agg (aV x30))), (93, c1 (.ptr 1 0 1)), (94, c1 (vL flT t_.elems)), (95, c1 (.pv (.pp (flT.c x31 ++ flT.f (List.drop ((0 : Int).toNat + 1) t_.elems))))), (96, .one (.agg (aT x31)))]) (σ' := [some (.box (aV v_)), some (.box (aT t_)), some (.box zV), some (.box [vi v_.kind, vi 0, vS eS, vO flV 4 s1.2, vL flS v_.keys]), some (arO true flV.sz ((flV.f s1.2).length) (flV.f s1.2))]) (by kernel_rfl) ?_
                    obtain ⟨y32, hy32, hq⟩ := bind_inv hq
                    refine callF (d := some 97) (by kernel_rfl) (hr_r11_to x30 x31 y32 hy32) ?_
                    refine lastF (T' := sl 111 [(2, c1 (.ptr 0 0 0)), (3, c1 (.ptr 1 0 0)), (4, c1 (.ptr 2 0 0)), (6, c1 (.ptr 3 0 0)), (7, c1 (vi s1.1)), (8, c1 (.ptr 5 0 0)), (84, c1 (vB (decide (s1.1 < (v_.items.length : Int))))), (87, .tup [.agg (aV y32.1), .cell (vi y32.2)]), (88, c1 (.ptr 0 0 3)), (89, c1 (vL flV v_.items)), (90, c1 (vi s1.1)), (91, c1 (.pv (.pp (flV.c x30 ++ flV.f (List.drop (s1.1.toNat + 1) v_.items))))), (92, .one (.agg (aV x30))), (93, c1 (.ptr 1 0 1)), (94, c1 (vL flT t_.elems)), (95, c1 (.pv (.pp (flT.c x31 ++ flT.f (List.drop ((0 : Int).toNat + 1) t_.elems))))), (96, .one (.agg (aT x31))), (97, .tup [.agg (aV y32.1), .cell (vi y32.2)]), (98, .one (.agg (aV y32.1))), (99, c1 (vi y32.2))]) (σ' := [some (.box (aV v_)), some (.box (aT t_)), some (.box zV), some (.box [vi v_.kind, vi 0, vS eS, vO flV 4 s1.2, vL flS v_.keys]), some (arO true flV.sz ((flV.f s1.2).length) (flV.f s1.2)), some (.box zV)]) (by kernel_rfl) ?_
                    refine lastK (T' := sl 111 [(2, c1 (.ptr 0 0 0)), (3, c1 (.ptr 1 0 0)), (4, c1 (.ptr 2 0 0)), (6, c1 (.ptr 3 0 0)), (7, c1 (vi s1.1)), (8, c1 (.ptr 5 0 0)), (9, c1 (vi y32.2))]) (σ' := [some (.box (aV v_)), some (.box (aT t_)), some (.box zV), some (.box [vi v_.kind, vi 0, vS eS, vO flV 4 s1.2, vL flS v_.keys]), some (arO true flV.sz ((flV.f s1.2).length) (flV.f s1.2)), some (.box (aV y32.1))]) (by kernel_rfl) hR ?_
                    refine L_seq (L_seq ?_)
                    refine L_regF hb [2, 3, 4, 6, 7, 8, 9, 101] (T' := sl 111 [(2, c1 (.ptr 0 0 0)), (3, c1 (.ptr 1 0 0)), (4, c1 (.ptr 2 0 0)), (6, c1 (.ptr 3 0 0)), (7, c1 (vi s1.1)), (8, c1 (.ptr 5 0 0)), (9, c1 (vi y32.2)), (101, c1 (vB (!decide (y32.2 = 0))))]) (σ' := [some (.box (aV v_)), some (.box (aT t_)), some (.box zV), some (.box [vi v_.kind, vi 0, vS eS, vO flV 4 s1.2, vL flS v_.keys]), some (arO true flV.sz ((flV.f s1.2).length) (flV.f s1.2)), some (.box (aV y32.1))]) (by kernel_rfl) ?_
                    refine L_if hb (b := (!decide (y32.2 = 0))) (by kernel_rfl) (fun hc33 => ?_) (fun hc33 => ?_)
                    · replace hq := cond_t hc33 hq
                      refine L_seq ?_
                      refine L_regF hb [4, 5] (T' := sl 111 [(4, c1 (.ptr 2 0 0)), (5, c1 (vi y32.2))]) (σ' := [some (.box (aV v_)), some (.box (aT t_)), some (.box zV), some (.box [vi v_.kind, vi 0, vS eS, vO flV 4 s1.2, vL flS v_.keys]), some (arO true flV.sz ((flV.f s1.2).length) (flV.f s1.2)), some (.box (aV y32.1))]) (by kernel_rfl) ?_
                      refine L_ret (hD2 _ _ (hD1 _ _ ?_))
                      have h0 := (Option.some.inj hq).symm
                      replace h0 := he1 _ h0
                      obtain rfl := h0
                      exact end_ret (by kernel_rfl)
                    · replace hq := cond_f hc33 hq
                      refine L_skip ?_
                      refine L_regN hb (fun R hR => ?_)
                      refine runF 4 (T' := sl 111 [(2, c1 (.ptr 0 0 0)), (3, c1 (.ptr 1 0 0)), (4, c1 (.ptr 2 0 0)), (6, c1 (.ptr 3 0 0)), (7, c1 (vi s1.1)), (8, c1 (.ptr 5 0 0)), (9, c1 (vi y32.2)), (101, c1 (vB (!decide (y32.2 = 0)))), (104, c1 (.ptr 3 0 3)), (105, c1 (vO flV 4 s1.2)), (106, .one (.agg (aV y32.1))), (107, c1 (.pv (.sl true 1 [pI .i64 y32.1.kind, pI .i64 y32.1.num, pS y32.1.str, pL flV y32.1.items, pL flS y32.1.keys])))]) (σ' := [some (.box (aV v_)), some (.box (aT t_)), some (.box zV), some (.box [vi v_.kind, vi 0, vS eS, vO flV 4 s1.2, vL flS v_.keys]), some (arO true flV.sz ((flV.f s1.2).length) (flV.f s1.2)), some (.box (aV y32.1))]) (by kernel_rfl) ?_
                      obtain ⟨l34, hl34, hq⟩ := bind_inv hq
                      refine appOwnF flV (d := some 108) (id := 4) (s := .pv (.sl true 1 [pI .i64 y32.1.kind, pI .i64 y32.1.num, pS y32.1.str, pL flV y32.1.items, pL flS y32.1.keys])) (nb := true) (fr := (flV.f s1.2).length) hl34 (by kernel_rfl) (src_lit flV (flV.one y32.1) rfl) (by kernel_rfl) (Nat.le_refl _) ?_
                      refine lastF (T' := sl 111 [(2, c1 (.ptr 0 0 0)), (3, c1 (.ptr 1 0 0)), (4, c1 (.ptr 2 0 0)), (6, c1 (.ptr 3 0 0)), (7, c1 (vi s1.1)), (8, c1 (.ptr 5 0 0)), (9, c1 (vi y32.2)), (101, c1 (vB (!decide (y32.2 = 0)))), (104, c1 (.ptr 3 0 3)), (105, c1 (vO flV 4 s1.2)), (106, .one (.agg (aV y32.1))), (107, c1 (.pv (.sl true 1 [pI .i64 y32.1.kind, pI .i64 y32.1.num, pS y32.1.str, pL flV y32.1.items, pL flS y32.1.keys]))), (108, c1 (vO flV 4 l34)), (109, c1 (.ptr 3 0 3))]) (σ' := [some (.box (aV v_)), some (.box (aT t_)), some (.box zV), some (.box [vi v_.kind, vi 0, vS eS, vO flV 4 l34, vL flS v_.keys]), some (arO true flV.sz ((flV.f s1.2).length) (flV.f l34)), some (.box (aV y32.1))]) (by kernel_rfl) (hR _ _ ?_)
                      refine L_nil (hA2 _ _ ?_)
                      refine L_regF hb [2, 3, 4, 6, 7] (T' := sl 111 [(2, c1 (.ptr 0 0 0)), (3, c1 (.ptr 1 0 0)), (4, c1 (.ptr 2 0 0)), (6, c1 (.ptr 3 0 0)), (7, c1 (vi (IntKind.i64.wrap (s1.1 + 1))))]) (σ' := [some (.box (aV v_)), some (.box (aT t_)), some (.box zV), some (.box [vi v_.kind, vi 0, vS eS, vO flV 4 l34, vL flS v_.keys]), some (arO true flV.sz ((flV.f s1.2).length) (flV.f l34)), some (.box (aV y32.1))]) (by kernel_rfl) ?_
                      refine L_mark 4 (nb := true) (cs := flV.f l34) rfl (app_le flV hl34) ?_
                      refine L_backF [2, 3, 4, 6, 7] [] 5 (T' := sl 111 [(2, c1 (.ptr 0 0 0)), (3, c1 (.ptr 1 0 0)), (4, c1 (.ptr 2 0 0)), (6, c1 (.ptr 3 0 0)), (7, c1 (vi (IntKind.i64.wrap (s1.1 + 1))))]) (σ' := [some (.box (aV v_)), some (.box (aT t_)), some (.box zV), some (.box [vi v_.kind, vi 0, vS eS, vO flV 4 l34, vL flS v_.keys]), some (arO true flV.sz ((flV.f l34).length) (flV.f l34))]) (by kernel_rfl) (by kernel_rfl) (by simp) (by kernel_rfl) ⟨(by kernel_rfl), (by kernel_rfl), (by kernel_rfl), (by kernel_rfl), (under_arO _ _ _ _ _), trivial⟩ ?_
                      have h0 := (Option.some.inj hq).symm
                      exact L_as (by kernel_rfl) (by kernel_rfl) (hn1 _ h0)
                  · replace hq := cond_f hc29 hq
                    refine L_exit (hB1 _ _ (L_seq ?_))
                    refine L_regF hb [4, 5] (T' := sl 111 [(4, c1 (.ptr 2 0 0)), (5, c1 (vi 0))]) (σ' := [some (.box (aV v_)), some (.box (aT t_)), some (.box [vi v_.kind, vi 0, vS eS, vO flV 4 s1.2, vL flS v_.keys]), some (.box [vi v_.kind, vi 0, vS eS, vO flV 4 s1.2, vL flS v_.keys]), some (arO true flV.sz ((flV.f s1.2).length) (flV.f s1.2))]) (by kernel_rfl) ?_
                    refine L_cellσ 2 3 (cs := [vi v_.kind, vi 0, vS eS, vO flV 4 s1.2, vL flS v_.keys]) (c := vO flV 4 s1.2) (by kernel_rfl) (by kernel_rfl) (conv_own flV (nb := true) (id := 4) (xs := s1.2) (by kernel_rfl)) ?_
                    refine L_ret ?_
                    have h0 := (Option.some.inj hq).symm
                    replace h0 := he1 _ h0
                    obtain rfl := h0
                    exact end_ret (by kernel_rfl)
noncomputable def t_r11_to_step (rec : Ty → Val → Option (Val × Int)) (a : Ty) (b : Val) : Option (Val × Int) :=
  g_r11_to (g_r11_object (fun a0 a1 => rec a1 a0)) (fun a0 a1 => rec a1 a0) b a
noncomputable def t_r11_to (a0 : Val) (a1 : Ty) : Option (Val × Int) := tieF relT wfT t_r11_to_step a1 a0
theorem t_r11_to_ok (hb : Base E E0 G) (he : ∀ w, E w → EnvV w) (a0 : Val) (a1 : Ty) (r : Val × Int) (hq : t_r11_to a0 a1 = some r) : Pure E E0 Tryz.prog 25 [.agg (aV a0), .agg (aT a1)] (.tup [.agg (aV r.1), .cell (vi r.2)]) :=
  tieF_ok (C := fun a b r => Pure E E0 Tryz.prog 25 [.agg (aV b), .agg (aT a)] (.tup [.agg (aV r.1), .cell (vi r.2)])) (fun rec hr a b r hq => g_r11_to_ok hb he (g_r11_object (fun a0 a1 => rec a1 a0)) (fun a0 a1 => rec a1 a0) (g_r11_object_ok hb he (fun a0 a1 => rec a1 a0) (fun a0 a1 r e => hr a1 a0 r e)) (fun a0 a1 r e => hr a1 a0 r e) b a r hq) a1 a0 r hq
noncomputable def t_r11_object (a0 : Val) (a1 : Ty) : Option (Val × Int) := (g_r11_object t_r11_to) a0 a1
theorem t_r11_object_ok (hb : Base E E0 G) (he : ∀ w, E w → EnvV w) (a0 : Val) (a1 : Ty) (r : Val × Int) (hq : t_r11_object a0 a1 = some r) : Pure E E0 Tryz.prog 43 [.agg (aV a0), .agg (aT a1)] (.tup [.agg (aV r.1), .cell (vi r.2)]) :=
  g_r11_object_ok hb he t_r11_to (t_r11_to_ok hb he) a0 a1 r hq
noncomputable def g_r11_single  (v_ : Val) (k_ : Int) : Option (Val × Int) :=
  bif (decide (v_.kind = 0)) then some ((Val.mk 0 0 eS [] []), 6) else (t_r11_to v_ (Ty.mk k_ [] [])).bind fun y2 => some (y2.1, y2.2)
theorem g_r11_single_ok (hb : Base E E0 G) (he : ∀ w, E w → EnvV w)   (v_ : Val) (k_ : Int) (r_ : Val × Int) (hq : g_r11_single v_ k_ = some r_) :
    Pure E E0 Tryz.prog 22 [.agg (aV v_), .cell (vi k_)] (.tup [.agg (aV r_.1), .cell (vi r_.2)]) := by
  refine pure_L Tryz.func22 rfl ?_
  refine L_keepF [0, 1] (T' := sl 16 [(0, .one (.agg (aV v_))), (1, c1 (vi k_))]) (by kernel_rfl) ?_
  refine L_seq ?_
  refine L_regF hb [1, 2, 4] (T' := sl 16 [(1, c1 (vi k_)), (2, c1 (.ptr 0 0 0)), (4, c1 (.ptr 1 0 0))]) (σ' := [some (.box (aV v_)), some (.box zV)]) (by kernel_rfl) ?_
  refine L_seq (L_seq ?_)
  refine L_regF hb [1, 2, 4, 8] (T' := sl 16 [(1, c1 (vi k_)), (2, c1 (.ptr 0 0 0)), (4, c1 (.ptr 1 0 0)), (8, c1 (vB (decide (v_.kind = 0))))]) (σ' := [some (.box (aV v_)), some (.box zV)]) (by kernel_rfl) ?_
  refine L_if hb (b := (decide (v_.kind = 0))) (by kernel_rfl) (fun hc1 => ?_) (fun hc1 => ?_)
  · replace hq := cond_t hc1 hq
    refine L_seq ?_
    refine L_regF hb [4, 5] (T' := sl 16 [(4, c1 (.ptr 1 0 0)), (5, c1 (vi 6))]) (σ' := [some (.box (aV v_)), some (.box zV)]) (by kernel_rfl) ?_
    refine L_ret ?_
    have h0 := Option.some.inj hq
    obtain rfl := h0
    exact end_ret (by kernel_rfl)
  · replace hq := cond_f hc1 hq
    refine L_skip (L_seq ?_)
    refine L_regK hb [4, 5] (fun R hR => ?_)
    refine runF 3 (T' := sl 16 [(1, c1 (vi k_)), (2, c1 (.ptr 0 0 0)), (4, c1 (.ptr 1 0 0)), (8, c1 (vB (decide (v_.kind = 0)))), (10, .one (.agg (aV v_))), (11, c1 (vi k_)), (12, .one (.agg [vi k_, vN, vN]))]) (σ' := [some (.box (aV v_)), some (.box zV)]) (by kernel_rfl) ?_
    obtain ⟨y2, hy2, hq⟩ := bind_inv hq
    refine callF (d := some 13) (by kernel_rfl) (t_r11_to_ok hb he v_ (Ty.mk k_ [] []) y2 hy2) ?_
    refine lastK (T' := sl 16 [(4, c1 (.ptr 1 0 0)), (5, c1 (vi y2.2))]) (σ' := [some (.box (aV v_)), some (.box (aV y2.1))]) (by kernel_rfl) hR ?_
    refine L_ret ?_
    have h0 := Option.some.inj hq
    obtain rfl := h0
    exact end_ret (by kernel_rfl)
noncomputable def g_r11_Text  (v_ : Val) : Option (Val × Int) :=
  (g_r11_single v_ 3).bind fun y1 => some (y1.1, y1.2)
theorem g_r11_Text_ok (hb : Base E E0 G) (he : ∀ w, E w → EnvV w)   (v_ : Val) (r_ : Val × Int) (hq : g_r11_Text v_ = some r_) :
    Pure E E0 Tryz.prog 8 [.agg (aV v_)] (.tup [.agg (aV r_.1), .cell (vi r_.2)]) := by
  refine pure_L Tryz.func8 rfl ?_
  refine L_keepF [0] (T' := sl 8 [(0, .one (.agg (aV v_)))]) (by kernel_rfl) ?_
  refine L_seq ?_
  refine L_regF hb [1, 2] (T' := sl 8 [(1, c1 (.ptr 0 0 0)), (2, c1 (.ptr 1 0 0))]) (σ' := [some (.box (aV v_)), some (.box zV)]) (by kernel_rfl) ?_
  refine L_seq ?_
  refine L_regK hb [2, 3] (fun R hR => ?_)
  refine runF 1 (T' := sl 8 [(1, c1 (.ptr 0 0 0)), (2, c1 (.ptr 1 0 0)), (4, .one (.agg (aV v_)))]) (σ' := [some (.box (aV v_)), some (.box zV)]) (by kernel_rfl) ?_
  obtain ⟨y1, hy1, hq⟩ := bind_inv hq
  refine callF (d := some 5) (by kernel_rfl) (g_r11_single_ok hb he v_ 3 y1 hy1) ?_
  refine lastK (T' := sl 8 [(2, c1 (.ptr 1 0 0)), (3, c1 (vi y1.2))]) (σ' := [some (.box (aV v_)), some (.box (aV y1.1))]) (by kernel_rfl) hR ?_
  refine L_ret ?_
  have h0 := Option.some.inj hq
  obtain rfl := h0
  exact end_ret (by kernel_rfl)
noncomputable def g_r11_Truth  (v_ : Val) : Option (Val × Int) :=
  (g_r11_single v_ 1).bind fun y1 => some (y1.1, y1.2)
theorem g_r11_Truth_ok (hb : Base E E0 G) (he : ∀ w, E w → EnvV w)   (v_ : Val) (r_ : Val × Int) (hq : g_r11_Truth v_ = some r_) :
    Pure E E0 Tryz.prog 10 [.agg (aV v_)] (.tup [.agg (aV r_.1), .cell (vi r_.2)]) := by
  refine pure_L Tryz.func10 rfl ?_
  refine L_keepF [0] (T' := sl 8 [(0, .one (.agg (aV v_)))]) (by kernel_rfl) ?_
  refine L_seq ?_
  refine L_regF hb [1, 2] (T' := sl 8 [(1, c1 (.ptr 0 0 0)), (2, c1 (.ptr 1 0 0))]) (σ' := [some (.box (aV v_)), some (.box zV)]) (by kernel_rfl) ?_
  refine L_seq ?_
  refine L_regK hb [2, 3] (fun R hR => ?_)
  refine runF 1 (T' := sl 8 [(1, c1 (.ptr 0 0 0)), (2, c1 (.ptr 1 0 0)), (4, .one (.agg (aV v_)))]) (σ' := [some (.box (aV v_)), some (.box zV)]) (by kernel_rfl) ?_
  obtain ⟨y1, hy1, hq⟩ := bind_inv hq
  refine callF (d := some 5) (by kernel_rfl) (g_r11_single_ok hb he v_ 1 y1 hy1) ?_
  refine lastK (T' := sl 8 [(2, c1 (.ptr 1 0 0)), (3, c1 (vi y1.2))]) (σ' := [some (.box (aV v_)), some (.box (aV y1.1))]) (by kernel_rfl) hR ?_
  refine L_ret ?_
  have h0 := Option.some.inj hq
  obtain rfl := h0
  exact end_ret (by kernel_rfl)
noncomputable def g_r07_Equal_L2 (r_r07_Equal : Val → Val → Option (Bool)) (a_ : Val) (b_ : Val) (s2 : Int) : Option ((Int) ⊕ ((Int) ⊕ (Bool))) :=
  bif (decide (s2 < (a_.items.length : Int))) then (idx a_.items s2).bind fun x11 => (idx b_.items s2).bind fun x12 => (r_r07_Equal x11 x12).bind fun y13 => bif (!y13) then some (.inr (.inr (false))) else some (.inl (IntKind.i64.wrap (s2 + 1))) else some (.inr (.inr (true)))
noncomputable def g_r07_Equal_L1 (r_r07_Equal : Val → Val → Option (Bool)) (a_ : Val) (b_ : Val) (s1 : Int) : Option ((Int) ⊕ (Bool)) :=
  bif (decide (s1 < (a_.keys.length : Int))) then (idx a_.keys s1).bind fun x7 => (idx b_.keys s1).bind fun x8 => bif (!decide (x7 = x8)) then some (.inr (false)) else some (.inl (IntKind.i64.wrap (s1 + 1))) else loopO (g_r07_Equal_L2 r_r07_Equal a_ b_) 0
noncomputable def g_r07_Equal (r_r07_Equal : Val → Val → Option (Bool)) (a_ : Val) (b_ : Val) : Option (Bool) :=
  bif (!decide (a_.kind = b_.kind)) then some (false) else bif (!decide (a_.num = b_.num)) then some (false) else bif (!decide (a_.str = b_.str)) then some (false) else bif (!decide ((a_.items.length : Int) = (b_.items.length : Int))) then some (false) else bif (!decide ((a_.keys.length : Int) = (b_.keys.length : Int))) then some (false) else loopO (g_r07_Equal_L1 r_r07_Equal a_ b_) 0
theorem g_r07_Equal_ok (hb : Base E E0 G) (he : ∀ w, E w → EnvV w) (r_r07_Equal : Val → Val → Option (Bool)) (hr_r07_Equal : ∀ (a0 : Val) (a1 : Val) (r : Bool), r_r07_Equal a0 a1 = some r → Pure E E0 Tryz.prog 11 [.agg (aV a0), .agg (aV a1)] (c1 (vB r))) (a_ : Val) (b_ : Val) (r_ : Bool) (hq : g_r07_Equal r_r07_Equal a_ b_ = some r_) :
    Pure E E0 Tryz.prog 11 [.agg (aV a_), .agg (aV b_)] (c1 (vB r_)) := by
  refine pure_L Tryz.func11 rfl ?_
  refine L_keepF [0, 1] (T' := sl 81 [(0, .one (.agg (aV a_))), (1, .one (.agg (aV b_)))]) (by kernel_rfl) ?_
  refine L_seq ?_
  refine L_regF hb [2, 3] (T' := sl 81 [(2, c1 (.ptr 0 0 0)), (3, c1 (.ptr 1 0 0))]) (σ' := [some (.box (aV a_)), some (.box (aV b_))]) (by kernel_rfl) ?_
  refine L_seq (L_seq ?_)
  refine L_regK hb [2, 3, 43] (fun R hR => ?_)
  refine runF 6 (T' := sl 81 [(2, c1 (.ptr 0 0 0)), (3, c1 (.ptr 1 0 0)), (7, c1 (.ptr 0 0 0)), (8, c1 (vi a_.kind)), (9, c1 (.ptr 1 0 0)), (10, c1 (vi b_.kind)), (11, c1 (vB (!decide (a_.kind = b_.kind)))), (12, c1 (vB (!decide (a_.kind = b_.kind))))]) (σ' := [some (.box (aV a_)), some (.box (aV b_))]) (by kernel_rfl) ?_
  refine partsF ((!decide (a_.kind = b_.kind))) (fun zz => sl 81 [(2, c1 (.ptr 0 0 0)), (3, c1 (.ptr 1 0 0)), (7, c1 (.ptr 0 0 0)), (8, c1 (vi a_.kind)), (9, c1 (.ptr 1 0 0)), (10, c1 (vi b_.kind)), (11, c1 (vB zz)), (12, c1 (vB zz))]) (by kernel_rfl) (fun hc1 => ?_) (fun hc1 => ?_)
  · replace hq := cond_t hc1 hq
    refine lastK (T' := sl 81 [(2, c1 (.ptr 0 0 0)), (3, c1 (.ptr 1 0 0)), (43, c1 (vB true))]) (σ' := [some (.box (aV a_)), some (.box (aV b_))]) (by kernel_rfl) hR ?_
    refine L_true hb (by kernel_rfl) (L_seq ?_)
    refine L_regF hb [4] (T' := sl 81 [(4, c1 (vB false))]) (σ' := [some (.box (aV a_)), some (.box (aV b_))]) (by kernel_rfl) ?_
    refine L_ret ?_
    have h0 := Option.some.inj hq
    obtain rfl := h0
    exact end_ret (by kernel_rfl)
  · replace hq := cond_f hc1 hq
    refine runF 7 (T' := sl 81 [(2, c1 (.ptr 0 0 0)), (3, c1 (.ptr 1 0 0)), (7, c1 (.ptr 0 0 0)), (8, c1 (vi a_.kind)), (9, c1 (.ptr 1 0 0)), (10, c1 (vi b_.kind)), (11, c1 (vB false)), (12, c1 (vB false)), (13, c1 (.ptr 0 0 1)), (14, c1 (vi a_.num)), (15, c1 (.ptr 1 0 1)), (16, c1 (vi b_.num)), (17, c1 (vB (!decide (a_.num = b_.num)))), (18, c1 (vB (!decide (a_.num = b_.num)))), (19, c1 (vB (!decide (a_.num = b_.num))))]) (σ' := [some (.box (aV a_)), some (.box (aV b_))]) (by kernel_rfl) ?_
    refine partsF ((!decide (a_.num = b_.num))) (fun zz => sl 81 [(2, c1 (.ptr 0 0 0)), (3, c1 (.ptr 1 0 0)), (7, c1 (.ptr 0 0 0)), (8, c1 (vi a_.kind)), (9, c1 (.ptr 1 0 0)), (10, c1 (vi b_.kind)), (11, c1 (vB false)), (12, c1 (vB false)), (13, c1 (.ptr 0 0 1)), (14, c1 (vi a_.num)), (15, c1 (.ptr 1 0 1)), (16, c1 (vi b_.num)), (17, c1 (vB zz)), (18, c1 (vB zz)), (19, c1 (vB zz))]) (by kernel_rfl) (fun hc2 => ?_) (fun hc2 => ?_)
    · replace hq := cond_t hc2 hq
      refine lastK (T' := sl 81 [(2, c1 (.ptr 0 0 0)), (3, c1 (.ptr 1 0 0)), (43, c1 (vB true))]) (σ' := [some (.box (aV a_)), some (.box (aV b_))]) (by kernel_rfl) hR ?_
      refine L_true hb (by kernel_rfl) (L_seq ?_)
      refine L_regF hb [4] (T' := sl 81 [(4, c1 (vB false))]) (σ' := [some (.box (aV a_)), some (.box (aV b_))]) (by kernel_rfl) ?_
      refine L_ret ?_
      have h0 := Option.some.inj hq
      obtain rfl := h0
      exact end_ret (by kernel_rfl)
    · replace hq := cond_f hc2 hq
      refine runF 7 (T' := sl 81 [(2, c1 (.ptr 0 0 0)), (3, c1 (.ptr 1 0 0)), (7, c1 (.ptr 0 0 0)), (8, c1 (vi a_.kind)), (9, c1 (.ptr 1 0 0)), (10, c1 (vi b_.kind)), (11, c1 (vB false)), (12, c1 (vB false)), (13, c1 (.ptr 0 0 1)), (14, c1 (vi a_.num)), (15, c1 (.ptr 1 0 1)), (16, c1 (vi b_.num)), (17, c1 (vB false)), (18, c1 (vB false)), (19, c1 (vB false)), (20, c1 (.ptr 0 0 2)), (21, c1 (vS a_.str)), (22, c1 (.ptr 1 0 2)), (23, c1 (vS b_.str)), (24, c1 (vB (!decide (a_.str = b_.str)))), (25, c1 (vB (!decide (a_.str = b_.str)))), (26, c1 (vB (!decide (a_.str = b_.str))))]) (σ' := [some (.box (aV a_)), some (.box (aV b_))]) (by kernel_rfl) ?_
      refine partsF ((!decide (a_.str = b_.str))) (fun zz => sl 81 [(2, c1 (.ptr 0 0 0)), (3, c1 (.ptr 1 0 0)), (7, c1 (.ptr 0 0 0)), (8, c1 (vi a_.kind)), (9, c1 (.ptr 1 0 0)), (10, c1 (vi b_.kind)), (11, c1 (vB false)), (12, c1 (vB false)), (13, c1 (.ptr 0 0 1)), (14, c1 (vi a_.num)), (15, c1 (.ptr 1 0 1)), (16, c1 (vi b_.num)), (17, c1 (vB false)), (18, c1 (vB false)), (19, c1 (vB false)), (20, c1 (.ptr 0 0 2)), (21, c1 (vS a_.str)), (22, c1 (.ptr 1 0 2)), (23, c1 (vS b_.str)), (24, c1 (vB zz)), (25, c1 (vB zz)), (26, c1 (vB zz))]) (by kernel_rfl) (fun hc3 => ?_) (fun hc3 => ?_)
      · replace hq := cond_t hc3 hq
        refine lastK (T' := sl 81 [(2, c1 (.ptr 0 0 0)), (3, c1 (.ptr 1 0 0)), (43, c1 (vB true))]) (σ' := [some (.box (aV a_)), some (.box (aV b_))]) (by kernel_rfl) hR ?_
        refine L_true hb (by kernel_rfl) (L_seq ?_)
        refine L_regF hb [4] (T' := sl 81 [(4, c1 (vB false))]) (σ' := [some (.box (aV a_)), some (.box (aV b_))]) (by kernel_rfl) ?_
        refine L_ret ?_
        have h0 := Option.some.inj hq
        obtain rfl := h0
        exact end_ret (by kernel_rfl)
      · replace hq := cond_f hc3 hq
        refine runF 9 (T' := sl 81 [(2, c1 (.ptr 0 0 0)), (3, c1 (.ptr 1 0 0)), (7, c1 (.ptr 0 0 0)), (8, c1 (vi a_.kind)), (9, c1 (.ptr 1 0 0)), (10, c1 (vi b_.kind)), (11, c1 (vB false)), (12, c1 (vB false)), (13, c1 (.ptr 0 0 1)), (14, c1 (vi a_.num)), (15, c1 (.ptr 1 0 1)), (16, c1 (vi b_.num)), (17, c1 (vB false)), (18, c1 (vB false)), (19, c1 (vB false)), (20, c1 (.ptr 0 0 2)), (21, c1 (vS a_.str)), (22, c1 (.ptr 1 0 2)), (23, c1 (vS b_.str)), (24, c1 (vB false)), (25, c1 (vB false)), (26, c1 (vB false)), (27, c1 (.ptr 0 0 3)), (28, c1 (vL flV a_.items)), (29, c1 (vi (a_.items.length : Int))), (30, c1 (.ptr 1 0 3)), (31, c1 (vL flV b_.items)), (32, c1 (vi (b_.items.length : Int))), (33, c1 (vB (!decide ((a_.items.length : Int) = (b_.items.length : Int))))), (34, c1 (vB (!decide ((a_.items.length : Int) = (b_.items.length : Int))))), (35, c1 (vB (!decide ((a_.items.length : Int) = (b_.items.length : Int)))))]) (σ' := [some (.box (aV a_)), some (.box (aV b_))]) (by kernel_rfl) ?_
        refine partsF ((!decide ((a_.items.length : Int) = (b_.items.length : Int)))) (fun zz => sl 81 [(2, c1 (.ptr 0 0 0)), (3, c1 (.ptr 1 0 0)), (7, c1 (.ptr 0 0 0)), (8, c1 (vi a_.kind)), (9, c1 (.ptr 1 0 0)), (10, c1 (vi b_.kind)), (11, c1 (vB false)), (12, c1 (vB false)), (13, c1 (.ptr 0 0 1)), (14, c1 (vi a_.num)), (15, c1 (.ptr 1 0 1)), (16, c1 (vi b_.num)), (17, c1 (vB false)), (18, c1 (vB false)), (19, c1 (vB false)), (20, c1 (.ptr 0 0 2)), (21, c1 (vS a_.str)), (22, c1 (.ptr 1 0 2)), (23, c1 (vS b_.str)), (24, c1 (vB false)), (25, c1 (vB false)), (26, c1 (vB false)), (27, c1 (.ptr 0 0 3)), (28, c1 (vL flV a_.items)), (29, c1 (vi (a_.items.length : Int))), (30, c1 (.ptr 1 0 3)), (31, c1 (vL flV b_.items)), (32, c1 (vi (b_.items.length : Int))), (33, c1 (vB zz)), (34, c1 (vB zz)), (35, c1 (vB zz))]) (by kernel_rfl) (fun hc4 => ?_) (fun hc4 => ?_)
        · replace hq := cond_t hc4 hq
          refine lastK (T' := sl 81 [(2, c1 (.ptr 0 0 0)), (3, c1 (.ptr 1 0 0)), (43, c1 (vB true))]) (σ' := [some (.box (aV a_)), some (.box (aV b_))]) (by kernel_rfl) hR ?_
          refine L_true hb (by kernel_rfl) (L_seq ?_)
          refine L_regF hb [4] (T' := sl 81 [(4, c1 (vB false))]) (σ' := [some (.box (aV a_)), some (.box (aV b_))]) (by kernel_rfl) ?_
          refine L_ret ?_
          have h0 := Option.some.inj hq
          obtain rfl := h0
          exact end_ret (by kernel_rfl)
        · replace hq := cond_f hc4 hq
          refine lastK (T' := sl 81 [(2, c1 (.ptr 0 0 0)), (3, c1 (.ptr 1 0 0)), (43, c1 (vB (!decide ((a_.keys.length : Int) = (b_.keys.length : Int)))))]) (σ' := [some (.box (aV a_)), some (.box (aV b_))]) (by kernel_rfl) hR ?_
          refine L_if hb (b := (!decide ((a_.keys.length : Int) = (b_.keys.length : Int)))) (by kernel_rfl) (fun hc5 => ?_) (fun hc5 => ?_)
          · replace hq := cond_t hc5 hq
            refine L_seq ?_
            refine L_regF hb [4] (T' := sl 81 [(4, c1 (vB false))]) (σ' := [some (.box (aV a_)), some (.box (aV b_))]) (by kernel_rfl) ?_
            refine L_ret ?_
            have h0 := Option.some.inj hq
            obtain rfl := h0
            exact end_ret (by kernel_rfl)
          · replace hq := cond_f hc5 hq
            refine L_skip (L_seq (L_seq ?_))
            refine L_regF hb [2, 3, 5] (T' := sl 81 [(2, c1 (.ptr 0 0 0)), (3, c1 (.ptr 1 0 0)), (5, c1 (vi 0))]) (σ' := [some (.box (aV a_)), some (.box (aV b_))]) (by kernel_rfl) ?_
            refine L_block (fun K1 hA1 hB1 hC1 hD1 => ?_)
            refine L_backF [2, 3, 5] [] 2 (T' := sl 81 [(2, c1 (.ptr 0 0 0)), (3, c1 (.ptr 1 0 0)), (5, c1 (vi 0))]) (σ' := [some (.box (aV a_)), some (.box (aV b_))]) (by kernel_rfl) (by kernel_rfl) (by simp) (by kernel_rfl) ⟨(by kernel_rfl), (by kernel_rfl), trivial⟩ ?_
            refine L_as (by kernel_rfl) (by kernel_rfl) (L_loopO (body := (g_r07_Equal_L1 r_r07_Equal a_ b_)) (fun s1 => sl 81 [(2, c1 (.ptr 0 0 0)), (3, c1 (.ptr 1 0 0)), (5, c1 (vi s1))]) (fun s1 => [some (.box (aV a_)), some (.box (aV b_))]) (s0 := 0) (fun s1 x1 hq hn1 he1 => ?_) hq)
            refine L_seq (L_seq ?_)
            refine L_regF hb [2, 3, 5, 48] (T' := sl 81 [(2, c1 (.ptr 0 0 0)), (3, c1 (.ptr 1 0 0)), (5, c1 (vi s1)), (48, c1 (vB (decide (s1 < (a_.keys.length : Int)))))]) (σ' := [some (.box (aV a_)), some (.box (aV b_))]) (by kernel_rfl) ?_
            refine L_if hb (b := (decide (s1 < (a_.keys.length : Int)))) (by kernel_rfl) (fun hc6 => ?_) (fun hc6 => ?_)
            · replace hq := cond_t hc6 hq
              refine L_skip (L_seq (L_block (fun K2 hA2 hB2 hC2 hD2 => (L_seq ?_))))
              refine L_drwK hb mixed [2, 3, 5, 61] 10 (by kernel_rfl) (by kernel_rfl) (fun R hR => ?_)
              refine runF 3 (T' := sl 81 [(2, c1 (.ptr 0 0 0)), (3, c1 (.ptr 1 0 0)), (5, c1 (vi s1)), (48, c1 (vB (decide (s1 < (a_.keys.length : Int))))), (51, c1 (.ptr 0 0 4)), (52, c1 (vL flS a_.keys)), (53, c1 (vi s1))]) (σ' := [some (.box (aV a_)), some (.box (aV b_))]) (by kernel_rfl) ?_
              obtain ⟨x7, hx7, hq⟩ := bind_inv hq
              refine idxF flS (d := some 54) hx7 (by kernel_rfl) ?_
              refine runF 4 (T' := sl 81 [(2, c1 (.ptr 0 0 0)), (3, c1 (.ptr 1 0 0)), (5, c1 (vi s1)), (48, c1 (vB (decide (s1 < (a_.keys.length : Int))))), (51, c1 (.ptr 0 0 4)), (52, c1 (vL flS a_.keys)), (53, c1 (vi s1)), (54, c1 (.pv (.pp (flS.c x7 ++ flS.f (List.drop (s1.toNat + 1) a_.keys))))), (55, c1 (vS x7)), (56, c1 (.ptr 1 0 4)), (57, c1 (vL flS b_.keys)), (58, c1 (vi s1))]) (σ' := [some (.box (aV a_)), some (.box (aV b_))]) (by kernel_rfl) ?_
              obtain ⟨x8, hx8, hq⟩ := bind_inv hq
              refine idxF flS (d := some 59) hx8 (by kernel_rfl) ?_
              refine lastF (T' := sl 81 [(2, c1 (.ptr 0 0 0)), (3, c1 (.ptr 1 0 0)), (5, c1 (vi s1)), (48, c1 (vB (decide (s1 < (a_.keys.length : Int))))), (51, c1 (.ptr 0 0 4)), (52, c1 (vL flS a_.keys)), (53, c1 (vi s1)), (54, c1 (.pv (.pp (flS.c x7 ++ flS.f (List.drop (s1.toNat + 1) a_.keys))))), (55, c1 (vS x7)), (56, c1 (.ptr 1 0 4)), (57, c1 (vL flS b_.keys)), (58, c1 (vi s1)), (59, c1 (.pv (.pp (flS.c x8 ++ flS.f (List.drop (s1.toNat + 1) b_.keys))))), (60, c1 (vS x8))]) (σ' := [some (.box (aV a_)), some (.box (aV b_))]) (by kernel_rfl) ?_
              refine lastK (T' := sl 81 [(2, c1 (.ptr 0 0 0)), (3, c1 (.ptr 1 0 0)), (5, c1 (vi s1)), (61, c1 (vB (!decide (x7 = x8))))]) (σ' := [some (.box (aV a_)), some (.box (aV b_))]) (by kernel_rfl) hR ?_
              refine L_if hb (b := (!decide (x7 = x8))) (by kernel_rfl) (fun hc9 => ?_) (fun hc9 => ?_)
              · replace hq := cond_t hc9 hq
                refine L_seq ?_
                refine L_regF hb [4] (T' := sl 81 [(4, c1 (vB false))]) (σ' := [some (.box (aV a_)), some (.box (aV b_))]) (by kernel_rfl) ?_
                refine L_ret (hD2 _ _ (hD1 _ _ ?_))
                have h0 := (Option.some.inj hq).symm
                replace h0 := he1 _ h0
                obtain rfl := h0
                exact end_ret (by kernel_rfl)
              · replace hq := cond_f hc9 hq
                refine L_skip (L_nil (hA2 _ _ ?_))
                refine L_regF hb [2, 3, 5] (T' := sl 81 [(2, c1 (.ptr 0 0 0)), (3, c1 (.ptr 1 0 0)), (5, c1 (vi (IntKind.i64.wrap (s1 + 1))))]) (σ' := [some (.box (aV a_)), some (.box (aV b_))]) (by kernel_rfl) ?_
                refine L_backF [2, 3, 5] [] 2 (T' := sl 81 [(2, c1 (.ptr 0 0 0)), (3, c1 (.ptr 1 0 0)), (5, c1 (vi (IntKind.i64.wrap (s1 + 1))))]) (σ' := [some (.box (aV a_)), some (.box (aV b_))]) (by kernel_rfl) (by kernel_rfl) (by simp) (by kernel_rfl) ⟨(by kernel_rfl), (by kernel_rfl), trivial⟩ ?_
                have h0 := (Option.some.inj hq).symm
                exact L_as (by kernel_rfl) (by kernel_rfl) (hn1 _ h0)
            · replace hq := cond_f hc6 hq
              refine L_exit (hB1 _ _ (L_seq (L_seq ?_)))
              refine L_regF hb [2, 3, 6] (T' := sl 81 [(2, c1 (.ptr 0 0 0)), (3, c1 (.ptr 1 0 0)), (6, c1 (vi 0))]) (σ' := [some (.box (aV a_)), some (.box (aV b_))]) (by kernel_rfl) ?_
              refine L_block (fun K1 hA1 hB1 hC1 hD1 => ?_)
              refine L_backF [2, 3, 6] [] 2 (T' := sl 81 [(2, c1 (.ptr 0 0 0)), (3, c1 (.ptr 1 0 0)), (6, c1 (vi 0))]) (σ' := [some (.box (aV a_)), some (.box (aV b_))]) (by kernel_rfl) (by kernel_rfl) (by simp) (by kernel_rfl) ⟨(by kernel_rfl), (by kernel_rfl), trivial⟩ ?_
              refine L_as (by kernel_rfl) (by kernel_rfl) (L_loopO (body := (g_r07_Equal_L2 r_r07_Equal a_ b_)) (fun s2 => sl 81 [(2, c1 (.ptr 0 0 0)), (3, c1 (.ptr 1 0 0)), (6, c1 (vi s2))]) (fun s2 => [some (.box (aV a_)), some (.box (aV b_))]) (s0 := 0) (fun s2 x2 hq hn2 he2 => ?_) hq)
              refine L_seq (L_seq ?_)
              refine L_regF hb [2, 3, 6, 66] (T' := sl 81 [(2, c1 (.ptr 0 0 0)), (3, c1 (.ptr 1 0 0)), (6, c1 (vi s2)), (66, c1 (vB (decide (s2 < (a_.items.length : Int)))))]) (σ' := [some (.box (aV a_)), some (.box (aV b_))]) (by kernel_rfl) ?_
              refine L_if hb (b := (decide (s2 < (a_.items.length : Int)))) (by kernel_rfl) (fun hc10 => ?_) (fun hc10 => ?_)
              · replace hq := cond_t hc10 hq
                refine L_skip (L_seq (L_block (fun K2 hA2 hB2 hC2 hD2 => (L_seq ?_))))
                refine L_drwK hb mixed [2, 3, 6, 80] 10 (by kernel_rfl) (by kernel_rfl) (fun R hR => ?_)
                refine runF 3 (T' := sl 81 [(2, c1 (.ptr 0 0 0)), (3, c1 (.ptr 1 0 0)), (6, c1 (vi s2)), (66, c1 (vB (decide (s2 < (a_.items.length : Int))))), (69, c1 (.ptr 0 0 3)), (70, c1 (vL flV a_.items)), (71, c1 (vi s2))]) (σ' := [some (.box (aV a_)), some (.box (aV b_))]) (by kernel_rfl) ?_
                obtain ⟨x11, hx11, hq⟩ := bind_inv hq
                refine idxF flV (d := some 72) hx11 (by kernel_rfl) ?_
                refine runF 4 (T' := sl 81 [(2, c1 (.ptr 0 0 0)), (3, c1 (.ptr 1 0 0)), (6, c1 (vi s2)), (66, c1 (vB (decide (s2 < (a_.items.length : Int))))), (69, c1 (.ptr 0 0 3)), (70, c1 (vL flV a_.items)), (71, c1 (vi s2)), (72, c1 (.pv (.pp (flV.c x11 ++ flV.f (List.drop (s2.toNat + 1) a_.items))))), (73, .one (.agg (aV x11))), (74, c1 (.ptr 1 0 3)), (75, c1 (vL flV b_.items)), (76, c1 (vi s2))]) (σ' := [some (.box (aV a_)), some (.box (aV b_))]) (by kernel_rfl) ?_
                obtain ⟨x12, hx12, hq⟩ := bind_inv hq
                refine idxF flV (d := some 77) hx12 (by kernel_rfl) ?_
                refine lastF (T' := sl 81 [(2, c1 (.ptr 0 0 0)), (3, c1 (.ptr 1 0 0)), (6, c1 (vi s2)), (66, c1 (vB (decide (s2 < (a_.items.length : Int))))), (69, c1 (.ptr 0 0 3)), (70, c1 (vL flV a_.items)), (71, c1 (vi s2)), (72, c1 (.pv (.pp (flV.c x11 ++ flV.f (List.drop (s2.toNat + 1) a_.items))))), (73, .one (.agg (aV x11))), (74, c1 (.ptr 1 0 3)), (75, c1 (vL flV b_.items)), (76, c1 (vi s2)), (77, c1 (.pv (.pp (flV.c x12 ++ flV.f (List.drop (s2.toNat + 1) b_.items))))), (78, .one (.agg (aV x12)))]) (σ' := [some (.box (aV a_)), some (.box (aV b_))]) (by kernel_rfl) ?_
                obtain ⟨y13, hy13, hq⟩ := bind_inv hq
                refine callF (d := some 79) (by kernel_rfl) (hr_r07_Equal x11 x12 y13 hy13) ?_
                refine lastK (T' := sl 81 [(2, c1 (.ptr 0 0 0)), (3, c1 (.ptr 1 0 0)), (6, c1 (vi s2)), (80, c1 (vB (!y13)))]) (σ' := [some (.box (aV a_)), some (.box (aV b_))]) (by kernel_rfl) hR ?_
                refine L_if hb (b := (!y13)) (by kernel_rfl) (fun hc14 => ?_) (fun hc14 => ?_)
                · replace hq := cond_t hc14 hq
                  refine L_seq ?_
                  refine L_regF hb [4] (T' := sl 81 [(4, c1 (vB false))]) (σ' := [some (.box (aV a_)), some (.box (aV b_))]) (by kernel_rfl) ?_
                  refine L_ret (hD2 _ _ (hD1 _ _ ?_))
                  have h0 := (Option.some.inj hq).symm
                  replace h0 := he2 _ h0
                  replace h0 := h0.symm
                  replace h0 := he1 _ h0
                  obtain rfl := h0
                  exact end_ret (by kernel_rfl)
                · replace hq := cond_f hc14 hq
                  refine L_skip (L_nil (hA2 _ _ ?_))
                  refine L_regF hb [2, 3, 6] (T' := sl 81 [(2, c1 (.ptr 0 0 0)), (3, c1 (.ptr 1 0 0)), (6, c1 (vi (IntKind.i64.wrap (s2 + 1))))]) (σ' := [some (.box (aV a_)), some (.box (aV b_))]) (by kernel_rfl) ?_
                  refine L_backF [2, 3, 6] [] 2 (T' := sl 81 [(2, c1 (.ptr 0 0 0)), (3, c1 (.ptr 1 0 0)), (6, c1 (vi (IntKind.i64.wrap (s2 + 1))))]) (σ' := [some (.box (aV a_)), some (.box (aV b_))]) (by kernel_rfl) (by kernel_rfl) (by simp) (by kernel_rfl) ⟨(by kernel_rfl), (by kernel_rfl), trivial⟩ ?_
                  have h0 := (Option.some.inj hq).symm
                  exact L_as (by kernel_rfl) (by kernel_rfl) (hn2 _ h0)
              · replace hq := cond_f hc10 hq
                refine L_exit (hB1 _ _ (L_seq ?_))
                refine L_regF hb [4] (T' := sl 81 [(4, c1 (vB true))]) (σ' := [some (.box (aV a_)), some (.box (aV b_))]) (by kernel_rfl) ?_
                refine L_ret ?_
                have h0 := (Option.some.inj hq).symm
                replace h0 := he2 _ h0
                replace h0 := h0.symm
                replace h0 := he1 _ h0
                obtain rfl := h0
                exact end_ret (by kernel_rfl)
noncomputable def t_r07_Equal_step (rec : Val → Val → Option (Bool)) (a : Val) (b : Val) : Option (Bool) :=
  g_r07_Equal (fun a0 a1 => rec a0 a1) a b
noncomputable def t_r07_Equal (a0 : Val) (a1 : Val) : Option (Bool) := tieF relV wfV t_r07_Equal_step a0 a1
theorem t_r07_Equal_ok (hb : Base E E0 G) (he : ∀ w, E w → EnvV w) (a0 : Val) (a1 : Val) (r : Bool) (hq : t_r07_Equal a0 a1 = some r) : Pure E E0 Tryz.prog 11 [.agg (aV a0), .agg (aV a1)] (c1 (vB r)) :=
  tieF_ok (C := fun a b r => Pure E E0 Tryz.prog 11 [.agg (aV a), .agg (aV b)] (c1 (vB r))) (fun rec hr a b r hq => g_r07_Equal_ok hb he (fun a0 a1 => rec a0 a1) (fun a0 a1 r e => hr a0 a1 r e) a b r hq) a0 a1 r hq
noncomputable def g_l11_ConvertWords  (v_ : Val) : Option (Bool) :=
  (g_l11_right v_ (Ty.mk 0 [] [])).bind fun y1 => bif (!y1) then (g_l11_awake).bind fun y3 => some (y3) else (g_convert_Text v_).bind fun y4 => (g_r11_Text v_).bind fun y5 => (g_convert_Truth v_).bind fun y6 => (g_r11_Truth v_).bind fun y7 => bif (decide (y4.2 = y5.2)) then (t_r07_Equal y4.1 y5.1).bind fun y9 => bif y9 then bif (decide (y6.2 = y7.2)) then (t_r07_Equal y6.1 y7.1).bind fun y12 => bif y12 then (g_l11_awake).bind fun y14 => some (y14) else some (false) else some (false) else some (false) else some (false)
theorem g_l11_ConvertWords_ok (hb : Base E E0 G) (he : ∀ w, E w → EnvV w)   (v_ : Val) (r_ : Bool) (hq : g_l11_ConvertWords v_ = some r_) :
    Pure E E0 Tryz.prog 3 [.agg (aV v_)] (c1 (vB r_)) := by
  refine pure_L Tryz.func3 rfl ?_
  refine L_keepF [0] (T' := sl 57 [(0, .one (.agg (aV v_)))]) (by kernel_rfl) ?_
  refine L_seq ?_
  refine L_regF hb [1] (T' := sl 57 [(1, c1 (.ptr 0 0 0))]) (σ' := [some (.box (aV v_))]) (by kernel_rfl) ?_
  refine L_seq (L_seq ?_)
  refine L_regK hb [1, 14] (fun R hR => ?_)
  refine runF 2 (T' := sl 57 [(1, c1 (.ptr 0 0 0)), (11, .one (.agg (aV v_))), (12, .one (.agg [vi 0, vN, vN]))]) (σ' := [some (.box (aV v_))]) (by kernel_rfl) ?_
  obtain ⟨y1, hy1, hq⟩ := bind_inv hq
  refine callF (d := some 13) (by kernel_rfl) (g_l11_right_ok hb he v_ (Ty.mk 0 [] []) y1 hy1) ?_
  refine lastK (T' := sl 57 [(1, c1 (.ptr 0 0 0)), (14, c1 (vB (!y1)))]) (σ' := [some (.box (aV v_))]) (by kernel_rfl) hR ?_
  refine L_if hb (b := (!y1)) (by kernel_rfl) (fun hc2 => ?_) (fun hc2 => ?_)
  · replace hq := cond_t hc2 hq
    refine L_seq ?_
    refine L_regK hb [2] (fun R hR => ?_)
    obtain ⟨y3, hy3, hq⟩ := bind_inv hq
    refine callF (d := some 15) (by kernel_rfl) (g_l11_awake_ok hb he  y3 hy3) ?_
    refine lastK (T' := sl 57 [(2, c1 (vB y3))]) (σ' := [some (.box (aV v_))]) (by kernel_rfl) hR ?_
    refine L_ret ?_
    have h0 := Option.some.inj hq
    obtain rfl := h0
    exact end_ret (by kernel_rfl)
  · replace hq := cond_f hc2 hq
    refine L_skip (L_seq ?_)
    refine L_regK hb [1, 3, 4] (fun R hR => ?_)
    refine runF 1 (T' := sl 57 [(1, c1 (.ptr 0 0 0)), (14, c1 (vB (!y1))), (17, .one (.agg (aV v_)))]) (σ' := [some (.box (aV v_))]) (by kernel_rfl) ?_
    obtain ⟨y4, hy4, hq⟩ := bind_inv hq
    refine callF (d := some 18) (by kernel_rfl) (g_convert_Text_ok hb he v_ y4 hy4) ?_
    refine lastK (T' := sl 57 [(1, c1 (.ptr 0 0 0)), (3, c1 (.ptr 1 0 0)), (4, c1 (vi y4.2))]) (σ' := [some (.box (aV v_)), some (.box (aV y4.1))]) (by kernel_rfl) hR ?_
    refine L_seq ?_
    refine L_regK hb [1, 3, 4, 5, 6] (fun R hR => ?_)
    refine runF 1 (T' := sl 57 [(1, c1 (.ptr 0 0 0)), (3, c1 (.ptr 1 0 0)), (4, c1 (vi y4.2)), (22, .one (.agg (aV v_)))]) (σ' := [some (.box (aV v_)), some (.box (aV y4.1))]) (by kernel_rfl) ?_
    obtain ⟨y5, hy5, hq⟩ := bind_inv hq
    refine callF (d := some 23) (by kernel_rfl) (g_r11_Text_ok hb he v_ y5 hy5) ?_
    refine lastK (T' := sl 57 [(1, c1 (.ptr 0 0 0)), (3, c1 (.ptr 1 0 0)), (4, c1 (vi y4.2)), (5, c1 (.ptr 2 0 0)), (6, c1 (vi y5.2))]) (σ' := [some (.box (aV v_)), some (.box (aV y4.1)), some (.box (aV y5.1))]) (by kernel_rfl) hR ?_
    refine L_seq ?_
    refine L_regK hb [1, 3, 4, 5, 6, 7, 8] (fun R hR => ?_)
    refine runF 1 (T' := sl 57 [(1, c1 (.ptr 0 0 0)), (3, c1 (.ptr 1 0 0)), (4, c1 (vi y4.2)), (5, c1 (.ptr 2 0 0)), (6, c1 (vi y5.2)), (27, .one (.agg (aV v_)))]) (σ' := [some (.box (aV v_)), some (.box (aV y4.1)), some (.box (aV y5.1))]) (by kernel_rfl) ?_
    obtain ⟨y6, hy6, hq⟩ := bind_inv hq
    refine callF (d := some 28) (by kernel_rfl) (g_convert_Truth_ok hb he v_ y6 hy6) ?_
    refine lastK (T' := sl 57 [(1, c1 (.ptr 0 0 0)), (3, c1 (.ptr 1 0 0)), (4, c1 (vi y4.2)), (5, c1 (.ptr 2 0 0)), (6, c1 (vi y5.2)), (7, c1 (.ptr 3 0 0)), (8, c1 (vi y6.2))]) (σ' := [some (.box (aV v_)), some (.box (aV y4.1)), some (.box (aV y5.1)), some (.box (aV y6.1))]) (by kernel_rfl) hR ?_
    refine L_seq ?_
    refine L_regK hb [3, 4, 5, 6, 7, 8, 9, 10] (fun R hR => ?_)
    refine runF 1 (T' := sl 57 [(1, c1 (.ptr 0 0 0)), (3, c1 (.ptr 1 0 0)), (4, c1 (vi y4.2)), (5, c1 (.ptr 2 0 0)), (6, c1 (vi y5.2)), (7, c1 (.ptr 3 0 0)), (8, c1 (vi y6.2)), (32, .one (.agg (aV v_)))]) (σ' := [some (.box (aV v_)), some (.box (aV y4.1)), some (.box (aV y5.1)), some (.box (aV y6.1))]) (by kernel_rfl) ?_
    obtain ⟨y7, hy7, hq⟩ := bind_inv hq
    refine callF (d := some 33) (by kernel_rfl) (g_r11_Truth_ok hb he v_ y7 hy7) ?_
    refine lastK (T' := sl 57 [(3, c1 (.ptr 1 0 0)), (4, c1 (vi y4.2)), (5, c1 (.ptr 2 0 0)), (6, c1 (vi y5.2)), (7, c1 (.ptr 3 0 0)), (8, c1 (vi y6.2)), (9, c1 (.ptr 4 0 0)), (10, c1 (vi y7.2))]) (σ' := [some (.box (aV v_)), some (.box (aV y4.1)), some (.box (aV y5.1)), some (.box (aV y6.1)), some (.box (aV y7.1))]) (by kernel_rfl) hR ?_
    refine L_seq ?_
    refine L_regK hb [2] (fun R hR => ?_)
    refine runF 4 (T' := sl 57 [(3, c1 (.ptr 1 0 0)), (4, c1 (vi y4.2)), (5, c1 (.ptr 2 0 0)), (6, c1 (vi y5.2)), (7, c1 (.ptr 3 0 0)), (8, c1 (vi y6.2)), (9, c1 (.ptr 4 0 0)), (10, c1 (vi y7.2)), (36, c1 (vi y4.2)), (37, c1 (vi y5.2)), (38, c1 (vB (decide (y4.2 = y5.2)))), (39, c1 (vB (decide (y4.2 = y5.2))))]) (σ' := [some (.box (aV v_)), some (.box (aV y4.1)), some (.box (aV y5.1)), some (.box (aV y6.1)), some (.box (aV y7.1))]) (by kernel_rfl) ?_
    refine partsF ((decide (y4.2 = y5.2))) (fun zz => sl 57 [(3, c1 (.ptr 1 0 0)), (4, c1 (vi y4.2)), (5, c1 (.ptr 2 0 0)), (6, c1 (vi y5.2)), (7, c1 (.ptr 3 0 0)), (8, c1 (vi y6.2)), (9, c1 (.ptr 4 0 0)), (10, c1 (vi y7.2)), (36, c1 (vi y4.2)), (37, c1 (vi y5.2)), (38, c1 (vB zz)), (39, c1 (vB zz))]) (by kernel_rfl) (fun hc8 => ?_) (fun hc8 => ?_)
    · replace hq := cond_t hc8 hq
      refine runF 2 (T' := sl 57 [(3, c1 (.ptr 1 0 0)), (4, c1 (vi y4.2)), (5, c1 (.ptr 2 0 0)), (6, c1 (vi y5.2)), (7, c1 (.ptr 3 0 0)), (8, c1 (vi y6.2)), (9, c1 (.ptr 4 0 0)), (10, c1 (vi y7.2)), (36, c1 (vi y4.2)), (37, c1 (vi y5.2)), (38, c1 (vB true)), (39, c1 (vB true)), (40, .one (.agg (aV y4.1))), (41, .one (.agg (aV y5.1)))]) (σ' := [some (.box (aV v_)), some (.box (aV y4.1)), some (.box (aV y5.1)), some (.box (aV y6.1)), some (.box (aV y7.1))]) (by kernel_rfl) ?_
      obtain ⟨y9, hy9, hq⟩ := bind_inv hq
      refine callF (d := some 42) (by kernel_rfl) (t_r07_Equal_ok hb he y4.1 y5.1 y9 hy9) ?_
      refine runF 2 (T' := sl 57 [(3, c1 (.ptr 1 0 0)), (4, c1 (vi y4.2)), (5, c1 (.ptr 2 0 0)), (6, c1 (vi y5.2)), (7, c1 (.ptr 3 0 0)), (8, c1 (vi y6.2)), (9, c1 (.ptr 4 0 0)), (10, c1 (vi y7.2)), (36, c1 (vi y4.2)), (37, c1 (vi y5.2)), (38, c1 (vB true)), (39, c1 (vB true)), (40, .one (.agg (aV y4.1))), (41, .one (.agg (aV y5.1))), (42, c1 (vB y9)), (43, c1 (vB y9)), (44, c1 (vB y9))]) (σ' := [some (.box (aV v_)), some (.box (aV y4.1)), some (.box (aV y5.1)), some (.box (aV y6.1)), some (.box (aV y7.1))]) (by kernel_rfl) ?_
      refine partsF (y9) (fun zz => sl 57 [(3, c1 (.ptr 1 0 0)), (4, c1 (vi y4.2)), (5, c1 (.ptr 2 0 0)), (6, c1 (vi y5.2)), (7, c1 (.ptr 3 0 0)), (8, c1 (vi y6.2)), (9, c1 (.ptr 4 0 0)), (10, c1 (vi y7.2)), (36, c1 (vi y4.2)), (37, c1 (vi y5.2)), (38, c1 (vB true)), (39, c1 (vB true)), (40, .one (.agg (aV y4.1))), (41, .one (.agg (aV y5.1))), (42, c1 (vB zz)), (43, c1 (vB zz)), (44, c1 (vB zz))]) (by kernel_rfl) (fun hc10 => ?_) (fun hc10 => ?_)
      · replace hq := cond_t hc10 hq
        refine runF 5 (T' := sl 57 [(3, c1 (.ptr 1 0 0)), (4, c1 (vi y4.2)), (5, c1 (.ptr 2 0 0)), (6, c1 (vi y5.2)), (7, c1 (.ptr 3 0 0)), (8, c1 (vi y6.2)), (9, c1 (.ptr 4 0 0)), (10, c1 (vi y7.2)), (36, c1 (vi y4.2)), (37, c1 (vi y5.2)), (38, c1 (vB true)), (39, c1 (vB true)), (40, .one (.agg (aV y4.1))), (41, .one (.agg (aV y5.1))), (42, c1 (vB true)), (43, c1 (vB true)), (44, c1 (vB true)), (45, c1 (vi y6.2)), (46, c1 (vi y7.2)), (47, c1 (vB (decide (y6.2 = y7.2)))), (48, c1 (vB (decide (y6.2 = y7.2)))), (49, c1 (vB (decide (y6.2 = y7.2))))]) (σ' := [some (.box (aV v_)), some (.box (aV y4.1)), some (.box (aV y5.1)), some (.box (aV y6.1)), some (.box (aV y7.1))]) (by kernel_rfl) ?_
        refine partsF ((decide (y6.2 = y7.2))) (fun zz => sl 57 [(3, c1 (.ptr 1 0 0)), (4, c1 (vi y4.2)), (5, c1 (.ptr 2 0 0)), (6, c1 (vi y5.2)), (7, c1 (.ptr 3 0 0)), (8, c1 (vi y6.2)), (9, c1 (.ptr 4 0 0)), (10, c1 (vi y7.2)), (36, c1 (vi y4.2)), (37, c1 (vi y5.2)), (38, c1 (vB true)), (39, c1 (vB true)), (40, .one (.agg (aV y4.1))), (41, .one (.agg (aV y5.1))), (42, c1 (vB true)), (43, c1 (vB true)), (44, c1 (vB true)), (45, c1 (vi y6.2)), (46, c1 (vi y7.2)), (47, c1 (vB zz)), (48, c1 (vB zz)), (49, c1 (vB zz))]) (by kernel_rfl) (fun hc11 => ?_) (fun hc11 => ?_)
        · replace hq := cond_t hc11 hq
          refine runF 2 (T' := sl 57 [(3, c1 (.ptr 1 0 0)), (4, c1 (vi y4.2)), (5, c1 (.ptr 2 0 0)), (6, c1 (vi y5.2)), (7, c1 (.ptr 3 0 0)), (8, c1 (vi y6.2)), (9, c1 (.ptr 4 0 0)), (10, c1 (vi y7.2)), (36, c1 (vi y4.2)), (37, c1 (vi y5.2)), (38, c1 (vB true)), (39, c1 (vB true)), (40, .one (.agg (aV y4.1))), (41, .one (.agg (aV y5.1))), (42, c1 (vB true)), (43, c1 (vB true)), (44, c1 (vB true)), (45, c1 (vi y6.2)), (46, c1 (vi y7.2)), (47, c1 (vB true)), (48, c1 (vB true)), (49, c1 (vB true)), (50, .one (.agg (aV y6.1))), (51, .one (.agg (aV y7.1)))]) (σ' := [some (.box (aV v_)), some (.box (aV y4.1)), some (.box (aV y5.1)), some (.box (aV y6.1)), some (.box (aV y7.1))]) (by kernel_rfl) ?_
          obtain ⟨y12, hy12, hq⟩ := bind_inv hq
          refine callF (d := some 52) (by kernel_rfl) (t_r07_Equal_ok hb he y6.1 y7.1 y12 hy12) ?_
          refine runF 2 (T' := sl 57 [(3, c1 (.ptr 1 0 0)), (4, c1 (vi y4.2)), (5, c1 (.ptr 2 0 0)), (6, c1 (vi y5.2)), (7, c1 (.ptr 3 0 0)), (8, c1 (vi y6.2)), (9, c1 (.ptr 4 0 0)), (10, c1 (vi y7.2)), (36, c1 (vi y4.2)), (37, c1 (vi y5.2)), (38, c1 (vB true)), (39, c1 (vB true)), (40, .one (.agg (aV y4.1))), (41, .one (.agg (aV y5.1))), (42, c1 (vB true)), (43, c1 (vB true)), (44, c1 (vB true)), (45, c1 (vi y6.2)), (46, c1 (vi y7.2)), (47, c1 (vB true)), (48, c1 (vB true)), (49, c1 (vB true)), (50, .one (.agg (aV y6.1))), (51, .one (.agg (aV y7.1))), (52, c1 (vB y12)), (53, c1 (vB y12)), (54, c1 (vB y12))]) (σ' := [some (.box (aV v_)), some (.box (aV y4.1)), some (.box (aV y5.1)), some (.box (aV y6.1)), some (.box (aV y7.1))]) (by kernel_rfl) ?_
          refine partsF (y12) (fun zz => sl 57 [(3, c1 (.ptr 1 0 0)), (4, c1 (vi y4.2)), (5, c1 (.ptr 2 0 0)), (6, c1 (vi y5.2)), (7, c1 (.ptr 3 0 0)), (8, c1 (vi y6.2)), (9, c1 (.ptr 4 0 0)), (10, c1 (vi y7.2)), (36, c1 (vi y4.2)), (37, c1 (vi y5.2)), (38, c1 (vB true)), (39, c1 (vB true)), (40, .one (.agg (aV y4.1))), (41, .one (.agg (aV y5.1))), (42, c1 (vB true)), (43, c1 (vB true)), (44, c1 (vB true)), (45, c1 (vi y6.2)), (46, c1 (vi y7.2)), (47, c1 (vB true)), (48, c1 (vB true)), (49, c1 (vB true)), (50, .one (.agg (aV y6.1))), (51, .one (.agg (aV y7.1))), (52, c1 (vB zz)), (53, c1 (vB zz)), (54, c1 (vB zz))]) (by kernel_rfl) (fun hc13 => ?_) (fun hc13 => ?_)
          · replace hq := cond_t hc13 hq
            obtain ⟨y14, hy14, hq⟩ := bind_inv hq
            refine callF (d := some 55) (by kernel_rfl) (g_l11_awake_ok hb he  y14 hy14) ?_
            refine lastK (T' := sl 57 [(2, c1 (vB y14))]) (σ' := [some (.box (aV v_)), some (.box (aV y4.1)), some (.box (aV y5.1)), some (.box (aV y6.1)), some (.box (aV y7.1))]) (by kernel_rfl) hR ?_
            refine L_ret ?_
            have h0 := Option.some.inj hq
            obtain rfl := h0
            exact end_ret (by kernel_rfl)
          · replace hq := cond_f hc13 hq
            refine lastK (T' := sl 57 [(2, c1 (vB false))]) (σ' := [some (.box (aV v_)), some (.box (aV y4.1)), some (.box (aV y5.1)), some (.box (aV y6.1)), some (.box (aV y7.1))]) (by kernel_rfl) hR ?_
            refine L_ret ?_
            have h0 := Option.some.inj hq
            obtain rfl := h0
            exact end_ret (by kernel_rfl)
        · replace hq := cond_f hc11 hq
          refine lastK (T' := sl 57 [(2, c1 (vB false))]) (σ' := [some (.box (aV v_)), some (.box (aV y4.1)), some (.box (aV y5.1)), some (.box (aV y6.1)), some (.box (aV y7.1))]) (by kernel_rfl) hR ?_
          refine L_ret ?_
          have h0 := Option.some.inj hq
          obtain rfl := h0
          exact end_ret (by kernel_rfl)
      · replace hq := cond_f hc10 hq
        refine lastK (T' := sl 57 [(2, c1 (vB false))]) (σ' := [some (.box (aV v_)), some (.box (aV y4.1)), some (.box (aV y5.1)), some (.box (aV y6.1)), some (.box (aV y7.1))]) (by kernel_rfl) hR ?_
        refine L_ret ?_
        have h0 := Option.some.inj hq
        obtain rfl := h0
        exact end_ret (by kernel_rfl)
    · replace hq := cond_f hc8 hq
      refine lastK (T' := sl 57 [(2, c1 (vB false))]) (σ' := [some (.box (aV v_)), some (.box (aV y4.1)), some (.box (aV y5.1)), some (.box (aV y6.1)), some (.box (aV y7.1))]) (by kernel_rfl) hR ?_
      refine L_ret ?_
      have h0 := Option.some.inj hq
      obtain rfl := h0
      exact end_ret (by kernel_rfl)
noncomputable def g_r11_To  (v_ : Val) (t_ : Ty) : Option (Val × Int) :=
  (t_r11_to v_ t_).bind fun y1 => bif (!decide (y1.2 = 0)) then some ((Val.mk 0 0 eS [] []), y1.2) else (m_checkE y1.1).bind fun y3 => bif (!decide (y3 = 0)) then some ((Val.mk 0 0 eS [] []), y3) else some (y1.1, 0)
theorem g_r11_To_ok (hb : Base E E0 G) (he : ∀ w, E w → EnvV w)   (v_ : Val) (t_ : Ty) (r_ : Val × Int) (hq : g_r11_To v_ t_ = some r_) :
    Pure E E0 Tryz.prog 13 [.agg (aV v_), .agg (aT t_)] (.tup [.agg (aV r_.1), .cell (vi r_.2)]) := by
  refine pure_L Tryz.func13 rfl ?_
  refine L_keepF [0, 1] (T' := sl 25 [(0, .one (.agg (aV v_))), (1, .one (.agg (aT t_)))]) (by kernel_rfl) ?_
  refine L_seq ?_
  refine L_regF hb [2, 3, 4] (T' := sl 25 [(2, c1 (.ptr 0 0 0)), (3, c1 (.ptr 1 0 0)), (4, c1 (.ptr 2 0 0))]) (σ' := [some (.box (aV v_)), some (.box (aT t_)), some (.box zV)]) (by kernel_rfl) ?_
  refine L_seq ?_
  refine L_regK hb [4, 6, 7] (fun R hR => ?_)
  refine runF 2 (T' := sl 25 [(2, c1 (.ptr 0 0 0)), (3, c1 (.ptr 1 0 0)), (4, c1 (.ptr 2 0 0)), (9, .one (.agg (aV v_))), (10, .one (.agg (aT t_)))]) (σ' := [some (.box (aV v_)), some (.box (aT t_)), some (.box zV)]) (by kernel_rfl) ?_
  obtain ⟨y1, hy1, hq⟩ := bind_inv hq
  refine callF (d := some 11) (by kernel_rfl) (t_r11_to_ok hb he v_ t_ y1 hy1) ?_
  refine lastK (T' := sl 25 [(4, c1 (.ptr 2 0 0)), (6, c1 (.ptr 3 0 0)), (7, c1 (vi y1.2))]) (σ' := [some (.box (aV v_)), some (.box (aT t_)), some (.box zV), some (.box (aV y1.1))]) (by kernel_rfl) hR ?_
  refine L_seq (L_seq ?_)
  refine L_regF hb [4, 6, 7, 15] (T' := sl 25 [(4, c1 (.ptr 2 0 0)), (6, c1 (.ptr 3 0 0)), (7, c1 (vi y1.2)), (15, c1 (vB (!decide (y1.2 = 0))))]) (σ' := [some (.box (aV v_)), some (.box (aT t_)), some (.box zV), some (.box (aV y1.1))]) (by kernel_rfl) ?_
  refine L_if hb (b := (!decide (y1.2 = 0))) (by kernel_rfl) (fun hc2 => ?_) (fun hc2 => ?_)
  · replace hq := cond_t hc2 hq
    refine L_seq ?_
    refine L_regF hb [4, 5] (T' := sl 25 [(4, c1 (.ptr 2 0 0)), (5, c1 (vi y1.2))]) (σ' := [some (.box (aV v_)), some (.box (aT t_)), some (.box zV), some (.box (aV y1.1))]) (by kernel_rfl) ?_
    refine L_ret ?_
    have h0 := Option.some.inj hq
    obtain rfl := h0
    exact end_ret (by kernel_rfl)
  · replace hq := cond_f hc2 hq
    refine L_skip (L_seq ?_)
    refine L_regK hb [4, 6, 7] (fun R hR => ?_)
    refine runF 1 (T' := sl 25 [(4, c1 (.ptr 2 0 0)), (6, c1 (.ptr 3 0 0)), (7, c1 (vi y1.2)), (15, c1 (vB (!decide (y1.2 = 0)))), (18, .one (.agg (aV y1.1)))]) (σ' := [some (.box (aV v_)), some (.box (aT t_)), some (.box zV), some (.box (aV y1.1))]) (by kernel_rfl) ?_
    obtain ⟨y3, hy3, hq⟩ := bind_inv hq
    refine callF (d := some 19) (by kernel_rfl) (rCheck_g hb he y1.1 y3 hy3) ?_
    refine lastK (T' := sl 25 [(4, c1 (.ptr 2 0 0)), (6, c1 (.ptr 3 0 0)), (7, c1 (vi y3))]) (σ' := [some (.box (aV v_)), some (.box (aT t_)), some (.box zV), some (.box (aV y1.1))]) (by kernel_rfl) hR ?_
    refine L_seq (L_seq ?_)
    refine L_regF hb [4, 6, 7, 21] (T' := sl 25 [(4, c1 (.ptr 2 0 0)), (6, c1 (.ptr 3 0 0)), (7, c1 (vi y3)), (21, c1 (vB (!decide (y3 = 0))))]) (σ' := [some (.box (aV v_)), some (.box (aT t_)), some (.box zV), some (.box (aV y1.1))]) (by kernel_rfl) ?_
    refine L_if hb (b := (!decide (y3 = 0))) (by kernel_rfl) (fun hc4 => ?_) (fun hc4 => ?_)
    · replace hq := cond_t hc4 hq
      refine L_seq ?_
      refine L_regF hb [4, 5] (T' := sl 25 [(4, c1 (.ptr 2 0 0)), (5, c1 (vi y3))]) (σ' := [some (.box (aV v_)), some (.box (aT t_)), some (.box zV), some (.box (aV y1.1))]) (by kernel_rfl) ?_
      refine L_ret ?_
      have h0 := Option.some.inj hq
      obtain rfl := h0
      exact end_ret (by kernel_rfl)
    · replace hq := cond_f hc4 hq
      refine L_skip (L_seq ?_)
      refine L_regF hb [4, 5] (T' := sl 25 [(4, c1 (.ptr 2 0 0)), (5, c1 (vi 0))]) (σ' := [some (.box (aV v_)), some (.box (aT t_)), some (.box (aV y1.1)), some (.box (aV y1.1))]) (by kernel_rfl) ?_
      refine L_ret ?_
      have h0 := Option.some.inj hq
      obtain rfl := h0
      exact end_ret (by kernel_rfl)
noncomputable def g_types_one  (k_ : Int) (t_ : Ty) : Option (Ty) :=
  some (Ty.mk k_ [t_] [])
theorem g_types_one_ok (hb : Base E E0 G) (he : ∀ w, E w → EnvV w)   (k_ : Int) (t_ : Ty) (r_ : Ty) (hq : g_types_one k_ t_ = some r_) :
    Pure E E0 Tryz.prog 68 [.cell (vi k_), .agg (aT t_)] (.one (.agg (aT r_))) := by
  refine pure_L Tryz.func68 rfl ?_
  refine L_keepF [0, 1] (T' := sl 9 [(0, c1 (vi k_)), (1, .one (.agg (aT t_)))]) (by kernel_rfl) ?_
  refine L_seq ?_
  refine L_regF hb [0, 3, 4] (T' := sl 9 [(0, c1 (vi k_)), (3, c1 (.ptr 0 0 0)), (4, c1 (.ptr 1 0 0))]) (σ' := [some (.box (aT t_)), some (.box [vi 0, vN, vN])]) (by kernel_rfl) ?_
  refine L_seq ?_
  refine L_regF hb [4] (T' := sl 9 [(4, c1 (.ptr 1 0 0))]) (σ' := [some (.box (aT t_)), some (.box [vi k_, .pv (.sl true 1 [pI .i64 t_.kind, pL flT t_.elems, pL flS t_.names]), vN])]) (by kernel_rfl) ?_
  refine L_cellσ 1 1 (cs := [vi k_, .pv (.sl true 1 [pI .i64 t_.kind, pL flT t_.elems, pL flS t_.names]), vN]) (c := .pv (.sl true 1 [pI .i64 t_.kind, pL flT t_.elems, pL flS t_.names])) (by kernel_rfl) (by kernel_rfl) (conv_lit flT (flT.one t_).symm) ?_
  refine L_ret ?_
  have h0 := Option.some.inj hq
  obtain rfl := h0
  exact end_ret (by kernel_rfl)
noncomputable def g_slices_Equal_L1 (s1_ : List ByteArray) (s2_ : List ByteArray) (s1 : Int) : Option ((Int) ⊕ (Bool)) :=
  bif (decide (s1 < (s1_.length : Int))) then (idx s1_ s1).bind fun x3 => (idx s2_ s1).bind fun x4 => bif (!decide (x3 = x4)) then some (.inr (false)) else some (.inl (IntKind.i64.wrap (s1 + 1))) else some (.inr (true))
noncomputable def g_slices_Equal  (s1_ : List ByteArray) (s2_ : List ByteArray) : Option (Bool) :=
  bif (!decide ((s1_.length : Int) = (s2_.length : Int))) then some (false) else loopO (g_slices_Equal_L1 s1_ s2_) 0
theorem g_slices_Equal_ok (hb : Base E E0 G) (he : ∀ w, E w → EnvV w)   (s1_ : List ByteArray) (s2_ : List ByteArray) (r_ : Bool) (hq : g_slices_Equal s1_ s2_ = some r_) :
    Pure E E0 Tryz.prog 46 [.cell (vL flS s1_), .cell (vL flS s2_)] (c1 (vB r_)) := by
  refine pure_L Tryz.func46 rfl ?_
  refine L_keepF [0, 1] (T' := sl 26 [(0, c1 (vL flS s1_)), (1, c1 (vL flS s2_))]) (by kernel_rfl) ?_
  refine L_seq ?_
  refine L_regF hb [0, 1] (T' := sl 26 [(0, c1 (vL flS s1_)), (1, c1 (vL flS s2_))]) (σ' := []) (by kernel_rfl) ?_
  refine L_seq (L_seq ?_)
  refine L_regF hb [0, 1, 10] (T' := sl 26 [(0, c1 (vL flS s1_)), (1, c1 (vL flS s2_)), (10, c1 (vB (!decide ((s1_.length : Int) = (s2_.length : Int)))))]) (σ' := []) (by kernel_rfl) ?_
  refine L_if hb (b := (!decide ((s1_.length : Int) = (s2_.length : Int)))) (by kernel_rfl) (fun hc1 => ?_) (fun hc1 => ?_)
  · replace hq := cond_t hc1 hq
    refine L_seq ?_
    refine L_regF hb [4] (T' := sl 26 [(4, c1 (vB false))]) (σ' := []) (by kernel_rfl) ?_
    refine L_ret ?_
    have h0 := Option.some.inj hq
    obtain rfl := h0
    exact end_ret (by kernel_rfl)
  · replace hq := cond_f hc1 hq
    refine L_skip (L_seq (L_seq ?_))
    refine L_regF hb [0, 1, 12, 13] (T' := sl 26 [(0, c1 (vL flS s1_)), (1, c1 (vL flS s2_)), (12, c1 (vi (s1_.length : Int))), (13, c1 (vi 0))]) (σ' := []) (by kernel_rfl) ?_
    refine L_block (fun K1 hA1 hB1 hC1 hD1 => ?_)
    refine L_backF [0, 1, 12, 13] [] 0 (T' := sl 26 [(0, c1 (vL flS s1_)), (1, c1 (vL flS s2_)), (12, c1 (vi (s1_.length : Int))), (13, c1 (vi 0))]) (σ' := []) (by kernel_rfl) (by kernel_rfl) (by simp) (by kernel_rfl) trivial ?_
    refine L_as (by kernel_rfl) (by kernel_rfl) (L_loopO (body := (g_slices_Equal_L1 s1_ s2_)) (fun s1 => sl 26 [(0, c1 (vL flS s1_)), (1, c1 (vL flS s2_)), (12, c1 (vi (s1_.length : Int))), (13, c1 (vi s1))]) (fun s1 => []) (s0 := 0) (fun s1 x1 hq hn1 he1 => ?_) hq)
    refine L_seq ?_
    refine L_regF hb [0, 1, 12, 13, 14] (T' := sl 26 [(0, c1 (vL flS s1_)), (1, c1 (vL flS s2_)), (12, c1 (vi (s1_.length : Int))), (13, c1 (vi s1)), (14, c1 (vB (decide (s1 < (s1_.length : Int)))))]) (σ' := []) (by kernel_rfl) ?_
    refine L_seq ?_
    refine L_if hb (b := (decide (s1 < (s1_.length : Int)))) (by kernel_rfl) (fun hc2 => ?_) (fun hc2 => ?_)
    · replace hq := cond_t hc2 hq
      refine L_skip (L_seq (L_block (fun K2 hA2 hB2 hC2 hD2 => (L_seq ?_))))
      refine L_regF hb [0, 1, 5, 12, 13] (T' := sl 26 [(0, c1 (vL flS s1_)), (1, c1 (vL flS s2_)), (5, c1 (vi s1)), (12, c1 (vi (s1_.length : Int))), (13, c1 (vi s1))]) (σ' := []) (by kernel_rfl) ?_
      refine L_seq ?_
      refine L_drwK hb mixed [0, 1, 12, 13, 24] 8 (by kernel_rfl) (by kernel_rfl) (fun R hR => ?_)
      refine runF 2 (T' := sl 26 [(0, c1 (vL flS s1_)), (1, c1 (vL flS s2_)), (5, c1 (vi s1)), (12, c1 (vi (s1_.length : Int))), (13, c1 (vi s1)), (16, c1 (vL flS s1_)), (17, c1 (vi s1))]) (σ' := []) (by kernel_rfl) ?_
      obtain ⟨x3, hx3, hq⟩ := bind_inv hq
      refine idxF flS (d := some 18) hx3 (by kernel_rfl) ?_
      refine runF 3 (T' := sl 26 [(0, c1 (vL flS s1_)), (1, c1 (vL flS s2_)), (5, c1 (vi s1)), (12, c1 (vi (s1_.length : Int))), (13, c1 (vi s1)), (16, c1 (vL flS s1_)), (17, c1 (vi s1)), (18, c1 (.pv (.pp (flS.c x3 ++ flS.f (List.drop (s1.toNat + 1) s1_))))), (19, c1 (vS x3)), (20, c1 (vL flS s2_)), (21, c1 (vi s1))]) (σ' := []) (by kernel_rfl) ?_
      obtain ⟨x4, hx4, hq⟩ := bind_inv hq
      refine idxF flS (d := some 22) hx4 (by kernel_rfl) ?_
      refine lastF (T' := sl 26 [(0, c1 (vL flS s1_)), (1, c1 (vL flS s2_)), (5, c1 (vi s1)), (12, c1 (vi (s1_.length : Int))), (13, c1 (vi s1)), (16, c1 (vL flS s1_)), (17, c1 (vi s1)), (18, c1 (.pv (.pp (flS.c x3 ++ flS.f (List.drop (s1.toNat + 1) s1_))))), (19, c1 (vS x3)), (20, c1 (vL flS s2_)), (21, c1 (vi s1)), (22, c1 (.pv (.pp (flS.c x4 ++ flS.f (List.drop (s1.toNat + 1) s2_))))), (23, c1 (vS x4))]) (σ' := []) (by kernel_rfl) ?_
      refine lastK (T' := sl 26 [(0, c1 (vL flS s1_)), (1, c1 (vL flS s2_)), (12, c1 (vi (s1_.length : Int))), (13, c1 (vi s1)), (24, c1 (vB (!decide (x3 = x4))))]) (σ' := []) (by kernel_rfl) hR ?_
      refine L_if hb (b := (!decide (x3 = x4))) (by kernel_rfl) (fun hc5 => ?_) (fun hc5 => ?_)
      · replace hq := cond_t hc5 hq
        refine L_seq ?_
        refine L_regF hb [4] (T' := sl 26 [(4, c1 (vB false))]) (σ' := []) (by kernel_rfl) ?_
        refine L_ret (hD2 _ _ (hD1 _ _ ?_))
        have h0 := (Option.some.inj hq).symm
        replace h0 := he1 _ h0
        obtain rfl := h0
        exact end_ret (by kernel_rfl)
      · replace hq := cond_f hc5 hq
        refine L_skip (L_nil (hA2 _ _ ?_))
        refine L_regF hb [0, 1, 12, 13] (T' := sl 26 [(0, c1 (vL flS s1_)), (1, c1 (vL flS s2_)), (12, c1 (vi (s1_.length : Int))), (13, c1 (vi (IntKind.i64.wrap (s1 + 1))))]) (σ' := []) (by kernel_rfl) ?_
        refine L_backF [0, 1, 12, 13] [] 0 (T' := sl 26 [(0, c1 (vL flS s1_)), (1, c1 (vL flS s2_)), (12, c1 (vi (s1_.length : Int))), (13, c1 (vi (IntKind.i64.wrap (s1 + 1))))]) (σ' := []) (by kernel_rfl) (by kernel_rfl) (by simp) (by kernel_rfl) trivial ?_
        have h0 := (Option.some.inj hq).symm
        exact L_as (by kernel_rfl) (by kernel_rfl) (hn1 _ h0)
    · replace hq := cond_f hc2 hq
      refine L_exit (hB1 _ _ (L_seq ?_))
      refine L_regF hb [4] (T' := sl 26 [(4, c1 (vB true))]) (σ' := []) (by kernel_rfl) ?_
      refine L_ret ?_
      have h0 := (Option.some.inj hq).symm
      replace h0 := he1 _ h0
      obtain rfl := h0
      exact end_ret (by kernel_rfl)
noncomputable def g_types_Unify_L1 (r_types_Unify : Ty → Ty → Option (Ty)) (a_ : Ty) (b_ : Ty) (y5 : List ByteArray) (s1 : Int × List Ty) : Option ((Int × List Ty) ⊕ (Ty)) :=
  bif (decide (s1.1 < (a_.elems.length : Int))) then (idx a_.elems s1.1).bind fun x7 => (idx b_.elems s1.1).bind fun x8 => (r_types_Unify x7 x8).bind fun y9 => (app 56 s1.2 [y9]).bind fun l10 => some (.inl ((IntKind.i64.wrap (s1.1 + 1)), l10)) else some (.inr (Ty.mk a_.kind s1.2 y5))
noncomputable def g_types_Unify (r_types_Unify : Ty → Ty → Option (Ty)) (a_ : Ty) (b_ : Ty) : Option (Ty) :=
  bif (!decide (a_.kind = b_.kind)) then some (Ty.mk 0 [] []) else (g_slices_Equal a_.names b_.names).bind fun y2 => bif (!y2) then some (Ty.mk 0 [] []) else bif (!decide ((a_.elems.length : Int) = (b_.elems.length : Int))) then some (Ty.mk 0 [] []) else (clone 16 a_.names).bind fun y5 => loopO (g_types_Unify_L1 r_types_Unify a_ b_ y5) (0, [])
theorem g_types_Unify_ok (hb : Base E E0 G) (he : ∀ w, E w → EnvV w) (r_types_Unify : Ty → Ty → Option (Ty)) (hr_types_Unify : ∀ (a0 : Ty) (a1 : Ty) (r : Ty), r_types_Unify a0 a1 = some r → Pure E E0 Tryz.prog 88 [.agg (aT a0), .agg (aT a1)] (.one (.agg (aT r)))) (a_ : Ty) (b_ : Ty) (r_ : Ty) (hq : g_types_Unify r_types_Unify a_ b_ = some r_) :
    Pure E E0 Tryz.prog 88 [.agg (aT a_), .agg (aT b_)] (.one (.agg (aT r_))) := by
  refine pure_L Tryz.func88 rfl ?_
  refine L_keepF [0, 1] (T' := sl 60 [(0, .one (.agg (aT a_))), (1, .one (.agg (aT b_)))]) (by kernel_rfl) ?_
  refine L_seq ?_
  refine L_regF hb [2, 3, 4] (T' := sl 60 [(2, c1 (.ptr 0 0 0)), (3, c1 (.ptr 1 0 0)), (4, c1 (.ptr 2 0 0))]) (σ' := [some (.box (aT a_)), some (.box (aT b_)), some (.box [vi 0, vN, vN])]) (by kernel_rfl) ?_
  refine L_seq (L_seq ?_)
  refine L_regK hb [2, 3, 4, 28] (fun R hR => ?_)
  refine runF 6 (T' := sl 60 [(2, c1 (.ptr 0 0 0)), (3, c1 (.ptr 1 0 0)), (4, c1 (.ptr 2 0 0)), (7, c1 (.ptr 0 0 0)), (8, c1 (vi a_.kind)), (9, c1 (.ptr 1 0 0)), (10, c1 (vi b_.kind)), (11, c1 (vB (!decide (a_.kind = b_.kind)))), (12, c1 (vB (!decide (a_.kind = b_.kind))))]) (σ' := [some (.box (aT a_)), some (.box (aT b_)), some (.box [vi 0, vN, vN])]) (by kernel_rfl) ?_
  refine partsF ((!decide (a_.kind = b_.kind))) (fun zz => sl 60 [(2, c1 (.ptr 0 0 0)), (3, c1 (.ptr 1 0 0)), (4, c1 (.ptr 2 0 0)), (7, c1 (.ptr 0 0 0)), (8, c1 (vi a_.kind)), (9, c1 (.ptr 1 0 0)), (10, c1 (vi b_.kind)), (11, c1 (vB zz)), (12, c1 (vB zz))]) (by kernel_rfl) (fun hc1 => ?_) (fun hc1 => ?_)
  · replace hq := cond_t hc1 hq
    refine lastK (T' := sl 60 [(2, c1 (.ptr 0 0 0)), (3, c1 (.ptr 1 0 0)), (4, c1 (.ptr 2 0 0)), (28, c1 (vB true))]) (σ' := [some (.box (aT a_)), some (.box (aT b_)), some (.box [vi 0, vN, vN])]) (by kernel_rfl) hR ?_
    refine L_true hb (by kernel_rfl) (L_seq ?_)
    refine L_regF hb [4] (T' := sl 60 [(4, c1 (.ptr 2 0 0))]) (σ' := [some (.box (aT a_)), some (.box (aT b_)), some (.box [vi 0, vN, vN])]) (by kernel_rfl) ?_
    refine L_ret ?_
    have h0 := Option.some.inj hq
    obtain rfl := h0
    exact end_ret (by kernel_rfl)
  · replace hq := cond_f hc1 hq
    refine runF 4 (T' := sl 60 [(2, c1 (.ptr 0 0 0)), (3, c1 (.ptr 1 0 0)), (4, c1 (.ptr 2 0 0)), (7, c1 (.ptr 0 0 0)), (8, c1 (vi a_.kind)), (9, c1 (.ptr 1 0 0)), (10, c1 (vi b_.kind)), (11, c1 (vB false)), (12, c1 (vB false)), (13, c1 (.ptr 0 0 2)), (14, c1 (vL flS a_.names)), (15, c1 (.ptr 1 0 2)), (16, c1 (vL flS b_.names))]) (σ' := [some (.box (aT a_)), some (.box (aT b_)), some (.box [vi 0, vN, vN])]) (by kernel_rfl) ?_
    obtain ⟨y2, hy2, hq⟩ := bind_inv hq
    refine callF (d := some 17) (by kernel_rfl) (g_slices_Equal_ok hb he a_.names b_.names y2 hy2) ?_
    refine runF 3 (T' := sl 60 [(2, c1 (.ptr 0 0 0)), (3, c1 (.ptr 1 0 0)), (4, c1 (.ptr 2 0 0)), (7, c1 (.ptr 0 0 0)), (8, c1 (vi a_.kind)), (9, c1 (.ptr 1 0 0)), (10, c1 (vi b_.kind)), (11, c1 (vB false)), (12, c1 (vB false)), (13, c1 (.ptr 0 0 2)), (14, c1 (vL flS a_.names)), (15, c1 (.ptr 1 0 2)), (16, c1 (vL flS b_.names)), (17, c1 (vB y2)), (18, c1 (vB (!y2))), (19, c1 (vB (!y2))), (20, c1 (vB (!y2)))]) (σ' := [some (.box (aT a_)), some (.box (aT b_)), some (.box [vi 0, vN, vN])]) (by kernel_rfl) ?_
    refine partsF ((!y2)) (fun zz => sl 60 [(2, c1 (.ptr 0 0 0)), (3, c1 (.ptr 1 0 0)), (4, c1 (.ptr 2 0 0)), (7, c1 (.ptr 0 0 0)), (8, c1 (vi a_.kind)), (9, c1 (.ptr 1 0 0)), (10, c1 (vi b_.kind)), (11, c1 (vB false)), (12, c1 (vB false)), (13, c1 (.ptr 0 0 2)), (14, c1 (vL flS a_.names)), (15, c1 (.ptr 1 0 2)), (16, c1 (vL flS b_.names)), (17, c1 (vB y2)), (18, c1 (vB zz)), (19, c1 (vB zz)), (20, c1 (vB zz))]) (by kernel_rfl) (fun hc3 => ?_) (fun hc3 => ?_)
    · replace hq := cond_t hc3 hq
      refine lastK (T' := sl 60 [(2, c1 (.ptr 0 0 0)), (3, c1 (.ptr 1 0 0)), (4, c1 (.ptr 2 0 0)), (28, c1 (vB true))]) (σ' := [some (.box (aT a_)), some (.box (aT b_)), some (.box [vi 0, vN, vN])]) (by kernel_rfl) hR ?_
      refine L_true hb (by kernel_rfl) (L_seq ?_)
      refine L_regF hb [4] (T' := sl 60 [(4, c1 (.ptr 2 0 0))]) (σ' := [some (.box (aT a_)), some (.box (aT b_)), some (.box [vi 0, vN, vN])]) (by kernel_rfl) ?_
      refine L_ret ?_
      have h0 := Option.some.inj hq
      obtain rfl := h0
      exact end_ret (by kernel_rfl)
    · replace hq := cond_f hc3 hq
      refine lastK (T' := sl 60 [(2, c1 (.ptr 0 0 0)), (3, c1 (.ptr 1 0 0)), (4, c1 (.ptr 2 0 0)), (28, c1 (vB (!decide ((a_.elems.length : Int) = (b_.elems.length : Int)))))]) (σ' := [some (.box (aT a_)), some (.box (aT b_)), some (.box [vi 0, vN, vN])]) (by kernel_rfl) hR ?_
      refine L_if hb (b := (!decide ((a_.elems.length : Int) = (b_.elems.length : Int)))) (by kernel_rfl) (fun hc4 => ?_) (fun hc4 => ?_)
      · replace hq := cond_t hc4 hq
        refine L_seq ?_
        refine L_regF hb [4] (T' := sl 60 [(4, c1 (.ptr 2 0 0))]) (σ' := [some (.box (aT a_)), some (.box (aT b_)), some (.box [vi 0, vN, vN])]) (by kernel_rfl) ?_
        refine L_ret ?_
        have h0 := Option.some.inj hq
        obtain rfl := h0
        exact end_ret (by kernel_rfl)
      · replace hq := cond_f hc4 hq
        refine L_skip (L_seq ?_)
        refine L_drwK hb mixed [2, 3, 4, 5] 7 (by kernel_rfl) (by kernel_rfl) (fun R hR => ?_)
        refine runF 4 (T' := sl 60 [(2, c1 (.ptr 0 0 0)), (3, c1 (.ptr 1 0 0)), (4, c1 (.ptr 2 0 0)), (28, c1 (vB (!decide ((a_.elems.length : Int) = (b_.elems.length : Int))))), (30, c1 (.ptr 0 0 0)), (31, c1 (vi a_.kind)), (32, c1 (.ptr 0 0 2)), (33, c1 (vL flS a_.names))]) (σ' := [some (.box (aT a_)), some (.box (aT b_)), some (.box [vi 0, vN, vN])]) (by kernel_rfl) ?_
        obtain ⟨y5, hy5, hq⟩ := bind_inv hq
        refine callF (d := some 34) (by kernel_rfl) (cloneK_g hb he a_.names y5 hy5) ?_
        refine lastF (T' := sl 60 [(2, c1 (.ptr 0 0 0)), (3, c1 (.ptr 1 0 0)), (4, c1 (.ptr 2 0 0)), (5, c1 (.ptr 3 0 0)), (28, c1 (vB (!decide ((a_.elems.length : Int) = (b_.elems.length : Int))))), (30, c1 (.ptr 0 0 0)), (31, c1 (vi a_.kind)), (32, c1 (.ptr 0 0 2)), (33, c1 (vL flS a_.names)), (34, c1 (vL flS y5)), (35, .one (.agg [vi a_.kind, vN, vL flS y5]))]) (σ' := [some (.box (aT a_)), some (.box (aT b_)), some (.box [vi 0, vN, vN]), some (.box [vi 0, vN, vN])]) (by kernel_rfl) ?_
        refine lastK (T' := sl 60 [(2, c1 (.ptr 0 0 0)), (3, c1 (.ptr 1 0 0)), (4, c1 (.ptr 2 0 0)), (5, c1 (.ptr 3 0 0))]) (σ' := [some (.box (aT a_)), some (.box (aT b_)), some (.box [vi 0, vN, vN]), some (.box [vi a_.kind, vN, vL flS y5])]) (by kernel_rfl) hR ?_
        refine L_seq (L_seq ?_)
        refine L_regF hb [2, 3, 4, 5, 38, 39] (T' := sl 60 [(2, c1 (.ptr 0 0 0)), (3, c1 (.ptr 1 0 0)), (4, c1 (.ptr 2 0 0)), (5, c1 (.ptr 3 0 0)), (38, c1 (vi (a_.elems.length : Int))), (39, c1 (vi 0))]) (σ' := [some (.box (aT a_)), some (.box (aT b_)), some (.box [vi 0, vN, vN]), some (.box [vi a_.kind, vN, vL flS y5])]) (by kernel_rfl) ?_
        refine L_block (fun K1 hA1 hB1 hC1 hD1 => ?_)
        refine L_ownσ 3 1 3 (cs := [vi a_.kind, vN, vL flS y5]) (by kernel_rfl) (by kernel_rfl) rfl ?_
        refine L_backF [2, 3, 4, 5, 38, 39] [] 5 (T' := sl 60 [(2, c1 (.ptr 0 0 0)), (3, c1 (.ptr 1 0 0)), (4, c1 (.ptr 2 0 0)), (5, c1 (.ptr 3 0 0)), (38, c1 (vi (a_.elems.length : Int))), (39, c1 (vi 0))]) (σ' := [some (.box (aT a_)), some (.box (aT b_)), some (.box [vi 0, vN, vN]), some (.box [vi a_.kind, vO flT 4 [], vL flS y5]), some (arO true flT.sz ((flT.f []).length) (flT.f []))]) (by kernel_rfl) (by kernel_rfl) (by simp) (by kernel_rfl) ⟨(by kernel_rfl), (by kernel_rfl), (by kernel_rfl), (by kernel_rfl), (under_arO _ _ _ _ _), trivial⟩ ?_
        refine L_as (by kernel_rfl) (by kernel_rfl) (L_loopO (body := (g_types_Unify_L1 r_types_Unify a_ b_ y5)) (fun s1 => sl 60 [(2, c1 (.ptr 0 0 0)), (3, c1 (.ptr 1 0 0)), (4, c1 (.ptr 2 0 0)), (5, c1 (.ptr 3 0 0)), (38, c1 (vi (a_.elems.length : Int))), (39, c1 (vi s1.1))]) (fun s1 => [some (.box (aT a_)), some (.box (aT b_)), some (.box [vi 0, vN, vN]), some (.box [vi a_.kind, vO flT 4 s1.2, vL flS y5]), some (arO true flT.sz ((flT.f s1.2).length) (flT.f s1.2))]) (s0 := (0, [])) (fun s1 x1 hq hn1 he1 => ?_) hq)
        refine L_seq ?_
        refine L_regF hb [2, 3, 4, 5, 38, 39, 40] (T' := sl 60 [(2, c1 (.ptr 0 0 0)), (3, c1 (.ptr 1 0 0)), (4, c1 (.ptr 2 0 0)), (5, c1 (.ptr 3 0 0)), (38, c1 (vi (a_.elems.length : Int))), (39, c1 (vi s1.1)), (40, c1 (vB (decide (s1.1 < (a_.elems.length : Int)))))]) (σ' := [some (.box (aT a_)), some (.box (aT b_)), some (.box [vi 0, vN, vN]), some (.box [vi a_.kind, vO flT 4 s1.2, vL flS y5]), some (arO true flT.sz ((flT.f s1.2).length) (flT.f s1.2))]) (by kernel_rfl) ?_
        refine L_seq ?_
        refine L_if hb (b := (decide (s1.1 < (a_.elems.length : Int)))) (by kernel_rfl) (fun hc6 => ?_) (fun hc6 => ?_)
        · replace hq := cond_t hc6 hq
          refine L_skip (L_seq (L_block (fun K2 hA2 hB2 hC2 hD2 => (L_seq ?_))))
          refine L_regF hb [2, 3, 4, 5, 6, 38, 39] (T' := sl 60 [(2, c1 (.ptr 0 0 0)), (3, c1 (.ptr 1 0 0)), (4, c1 (.ptr 2 0 0)), (5, c1 (.ptr 3 0 0)), (6, c1 (vi s1.1)), (38, c1 (vi (a_.elems.length : Int))), (39, c1 (vi s1.1))]) (σ' := [some (.box (aT a_)), some (.box (aT b_)), some (.box [vi 0, vN, vN]), some (.box [vi a_.kind, vO flT 4 s1.2, vL flS y5]), some (arO true flT.sz ((flT.f s1.2).length) (flT.f s1.2))]) (by kernel_rfl) ?_
          refine L_drwN hb mixed 14 (by kernel_rfl) (by kernel_rfl) (fun R hR => ?_)
          refine runF 5 (T' := sl 60 [(2, c1 (.ptr 0 0 0)), (3, c1 (.ptr 1 0 0)), (4, c1 (.ptr 2 0 0)), (5, c1 (.ptr 3 0 0)), (6, c1 (vi s1.1)), (38, c1 (vi (a_.elems.length : Int))), (39, c1 (vi s1.1)), (42, c1 (.ptr 3 0 1)), (43, c1 (vO flT 4 s1.2)), (44, c1 (.ptr 0 0 1)), (45, c1 (vL flT a_.elems)), (46, c1 (vi s1.1))]) (σ' := [some (.box (aT a_)), some (.box (aT b_)), some (.box [vi 0, vN, vN]), some (.box [vi a_.kind, vO flT 4 s1.2, vL flS y5]), some (arO true flT.sz ((flT.f s1.2).length) (flT.f s1.2))]) (by kernel_rfl) ?_
          obtain ⟨x7, hx7, hq⟩ := bind_inv hq
          refine idxF flT (d := some 47) hx7 (by kernel_rfl) ?_
          refine runF 4 (T' := sl 60 [(2, c1 (.ptr 0 0 0)), (3, c1 (.ptr 1 0 0)), (4, c1 (.ptr 2 0 0)), (5, c1 (.ptr 3 0 0)), (6, c1 (vi s1.1)), (38, c1 (vi (a_.elems.length : Int))), (39, c1 (vi s1.1)), (42, c1 (.ptr 3 0 1)), (43, c1 (vO flT 4 s1.2)), (44, c1 (.ptr 0 0 1)), (45, c1 (vL flT a_.elems)), (46, c1 (vi s1.1)), (47, c1 (.pv (.pp (flT.c x7 ++ flT.f (List.drop (s1.1.toNat + 1) a_.elems))))), (48, .one (.agg (aT x7))), (49, c1 (.ptr 1 0 1)), (50, c1 (vL flT b_.elems)), (51, c1 (vi s1.1))]) (σ' := [some (.box (aT a_)), some (.box (aT b_)), some (.box [vi 0, vN, vN]), some (.box [vi a_.kind, vO flT 4 s1.2, vL flS y5]), some (arO true flT.sz ((flT.f s1.2).length) (flT.f s1.2))]) (by kernel_rfl) ?_
          obtain ⟨x8, hx8, hq⟩ := bind_inv hq
          refine idxF flT (d := some 52) hx8 (by kernel_rfl) ?_
          refine runF 1 (T' := sl 60 [(2, c1 (.ptr 0 0 0)), (3, c1 (.ptr 1 0 0)), (4, c1 (.ptr 2 0 0)), (5, c1 (.ptr 3 0 0)), (6, c1 (vi s1.1)), (38, c1 (vi (a_.elems.length : Int))), (39, c1 (vi s1.1)), (42, c1 (.ptr 3 0 1)), (43, c1 (vO flT 4 s1.2)), (44, c1 (.ptr 0 0 1)), (45, c1 (vL flT a_.elems)), (46, c1 (vi s1.1)), (47, c1 (.pv (.pp (flT.c x7 ++ flT.f (List.drop (s1.1.toNat + 1) a_.elems))))), (48, .one (.agg (aT x7))), (49, c1 (.ptr 1 0 1)), (50, c1 (vL flT b_.elems)), (51, c1 (vi s1.1)), (52, c1 (.pv (.pp (flT.c x8 ++ flT.f (List.drop (s1.1.toNat + 1) b_.elems))))), (53, .one (.agg (aT x8)))]) (σ' := [some (.box (aT a_)), some (.box (aT b_)), some (.box [vi 0, vN, vN]), some (.box [vi a_.kind, vO flT 4 s1.2, vL flS y5]), some (arO true flT.sz ((flT.f s1.2).length) (flT.f s1.2))]) (by kernel_rfl) ?_
          obtain ⟨y9, hy9, hq⟩ := bind_inv hq
          refine callF (d := some 54) (by kernel_rfl) (hr_types_Unify x7 x8 y9 hy9) ?_
          refine lastF (T' := sl 60 [(2, c1 (.ptr 0 0 0)), (3, c1 (.ptr 1 0 0)), (4, c1 (.ptr 2 0 0)), (5, c1 (.ptr 3 0 0)), (6, c1 (vi s1.1)), (38, c1 (vi (a_.elems.length : Int))), (39, c1 (vi s1.1)), (42, c1 (.ptr 3 0 1)), (43, c1 (vO flT 4 s1.2)), (44, c1 (.ptr 0 0 1)), (45, c1 (vL flT a_.elems)), (46, c1 (vi s1.1)), (47, c1 (.pv (.pp (flT.c x7 ++ flT.f (List.drop (s1.1.toNat + 1) a_.elems))))), (48, .one (.agg (aT x7))), (49, c1 (.ptr 1 0 1)), (50, c1 (vL flT b_.elems)), (51, c1 (vi s1.1)), (52, c1 (.pv (.pp (flT.c x8 ++ flT.f (List.drop (s1.1.toNat + 1) b_.elems))))), (53, .one (.agg (aT x8))), (54, .one (.agg (aT y9))), (55, c1 (.pv (.sl true 1 [pI .i64 y9.kind, pL flT y9.elems, pL flS y9.names])))]) (σ' := [some (.box (aT a_)), some (.box (aT b_)), some (.box [vi 0, vN, vN]), some (.box [vi a_.kind, vO flT 4 s1.2, vL flS y5]), some (arO true flT.sz ((flT.f s1.2).length) (flT.f s1.2))]) (by kernel_rfl) ?_
          obtain ⟨l10, hl10, hq⟩ := bind_inv hq
          refine appOwnF flT (d := some 56) (id := 4) (s := .pv (.sl true 1 [pI .i64 y9.kind, pL flT y9.elems, pL flS y9.names])) (nb := true) (fr := (flT.f s1.2).length) hl10 (by kernel_rfl) (src_lit flT (flT.one y9) rfl) (by kernel_rfl) (Nat.le_refl _) ?_
          refine lastF (T' := sl 60 [(2, c1 (.ptr 0 0 0)), (3, c1 (.ptr 1 0 0)), (4, c1 (.ptr 2 0 0)), (5, c1 (.ptr 3 0 0)), (6, c1 (vi s1.1)), (38, c1 (vi (a_.elems.length : Int))), (39, c1 (vi s1.1)), (42, c1 (.ptr 3 0 1)), (43, c1 (vO flT 4 s1.2)), (44, c1 (.ptr 0 0 1)), (45, c1 (vL flT a_.elems)), (46, c1 (vi s1.1)), (47, c1 (.pv (.pp (flT.c x7 ++ flT.f (List.drop (s1.1.toNat + 1) a_.elems))))), (48, .one (.agg (aT x7))), (49, c1 (.ptr 1 0 1)), (50, c1 (vL flT b_.elems)), (51, c1 (vi s1.1)), (52, c1 (.pv (.pp (flT.c x8 ++ flT.f (List.drop (s1.1.toNat + 1) b_.elems))))), (53, .one (.agg (aT x8))), (54, .one (.agg (aT y9))), (55, c1 (.pv (.sl true 1 [pI .i64 y9.kind, pL flT y9.elems, pL flS y9.names]))), (56, c1 (vO flT 4 l10)), (57, c1 (.ptr 3 0 1))]) (σ' := [some (.box (aT a_)), some (.box (aT b_)), some (.box [vi 0, vN, vN]), some (.box [vi a_.kind, vO flT 4 l10, vL flS y5]), some (arO true flT.sz ((flT.f s1.2).length) (flT.f l10))]) (by kernel_rfl) (hR _ _ ?_)
          refine L_nil (hA2 _ _ ?_)
          refine L_regF hb [2, 3, 4, 5, 38, 39] (T' := sl 60 [(2, c1 (.ptr 0 0 0)), (3, c1 (.ptr 1 0 0)), (4, c1 (.ptr 2 0 0)), (5, c1 (.ptr 3 0 0)), (38, c1 (vi (a_.elems.length : Int))), (39, c1 (vi (IntKind.i64.wrap (s1.1 + 1))))]) (σ' := [some (.box (aT a_)), some (.box (aT b_)), some (.box [vi 0, vN, vN]), some (.box [vi a_.kind, vO flT 4 l10, vL flS y5]), some (arO true flT.sz ((flT.f s1.2).length) (flT.f l10))]) (by kernel_rfl) ?_
          refine L_mark 4 (nb := true) (cs := flT.f l10) rfl (app_le flT hl10) ?_
          refine L_backF [2, 3, 4, 5, 38, 39] [] 5 (T' := sl 60 [(2, c1 (.ptr 0 0 0)), (3, c1 (.ptr 1 0 0)), (4, c1 (.ptr 2 0 0)), (5, c1 (.ptr 3 0 0)), (38, c1 (vi (a_.elems.length : Int))), (39, c1 (vi (IntKind.i64.wrap (s1.1 + 1))))]) (σ' := [some (.box (aT a_)), some (.box (aT b_)), some (.box [vi 0, vN, vN]), some (.box [vi a_.kind, vO flT 4 l10, vL flS y5]), some (arO true flT.sz ((flT.f l10).length) (flT.f l10))]) (by kernel_rfl) (by kernel_rfl) (by simp) (by kernel_rfl) ⟨(by kernel_rfl), (by kernel_rfl), (by kernel_rfl), (by kernel_rfl), (under_arO _ _ _ _ _), trivial⟩ ?_
          have h0 := (Option.some.inj hq).symm
          exact L_as (by kernel_rfl) (by kernel_rfl) (hn1 _ h0)
        · replace hq := cond_f hc6 hq
          refine L_exit (hB1 _ _ (L_seq ?_))
          refine L_regF hb [4] (T' := sl 60 [(4, c1 (.ptr 2 0 0))]) (σ' := [some (.box (aT a_)), some (.box (aT b_)), some (.box [vi a_.kind, vO flT 4 s1.2, vL flS y5]), some (.box [vi a_.kind, vO flT 4 s1.2, vL flS y5]), some (arO true flT.sz ((flT.f s1.2).length) (flT.f s1.2))]) (by kernel_rfl) ?_
          refine L_cellσ 2 1 (cs := [vi a_.kind, vO flT 4 s1.2, vL flS y5]) (c := vO flT 4 s1.2) (by kernel_rfl) (by kernel_rfl) (conv_own flT (nb := true) (id := 4) (xs := s1.2) (by kernel_rfl)) ?_
          refine L_ret ?_
          have h0 := (Option.some.inj hq).symm
          replace h0 := he1 _ h0
          obtain rfl := h0
          exact end_ret (by kernel_rfl)
noncomputable def t_types_Unify_step (rec : Ty → Ty → Option (Ty)) (a : Ty) (b : Ty) : Option (Ty) :=
  g_types_Unify (fun a0 a1 => rec a0 a1) a b
noncomputable def t_types_Unify (a0 : Ty) (a1 : Ty) : Option (Ty) := tieF relT wfT t_types_Unify_step a0 a1
theorem t_types_Unify_ok (hb : Base E E0 G) (he : ∀ w, E w → EnvV w) (a0 : Ty) (a1 : Ty) (r : Ty) (hq : t_types_Unify a0 a1 = some r) : Pure E E0 Tryz.prog 88 [.agg (aT a0), .agg (aT a1)] (.one (.agg (aT r))) :=
  tieF_ok (C := fun a b r => Pure E E0 Tryz.prog 88 [.agg (aT a), .agg (aT b)] (.one (.agg (aT r)))) (fun rec hr a b r hq => g_types_Unify_ok hb he (fun a0 a1 => rec a0 a1) (fun a0 a1 r e => hr a0 a1 r e) a b r hq) a0 a1 r hq
end Abs
end Go.Proofs.YtkmhhboihgckcaaGreatDoor
