/-
  Convert: Go functions as functions over plain values, with the proof that the code computes them; printed by gen.py.
-/
import Derived.Test.YtkmhhboihgckcaaGreatDoorGzA
import Derived.Test.YtkmhhboihgckcaaGreatDoorAbsZ
namespace Go.Proofs.YtkmhhboihgckcaaGreatDoor
namespace Abs
open Go.RowKit
variable {E : World → Prop} {E0 : Nat} {G : Nat → Option (List PV)}
set_option maxRecDepth 100000
set_option linter.unusedVariables false
set_option linter.unusedSimpArgs false
attribute [local irreducible] asqX awpL awp asq asqD Pure Ok asqF sl loopO
noncomputable def g_convert_to (r_convert_toObject : Val → Ty → Option (Val × Int)) (r_convert_each : Val → Ty → Option (Val × Int)) (v_ : Val) (t_ : Ty) : Option (Val × Int) :=
  bif (decide (t_.kind = 0)) then (cpy v_).bind fun y2 => some (y2, 0) else bif (decide (v_.kind = 0)) then (cpy v_).bind fun y4 => some (y4, 0) else bif (decide (v_.kind = 6)) then (cpy v_).bind fun y6 => some (y6, 0) else bif (decide (t_.kind = 1)) then (g_convert_toBool v_).bind fun y8 => some (y8.1, y8.2) else bif (decide (t_.kind = 2)) then (g_convert_toNumber v_).bind fun y10 => some (y10.1, y10.2) else bif (decide (t_.kind = 3)) then (g_convert_toString v_).bind fun y12 => some (y12.1, y12.2) else bif (decide (t_.kind = 4)) then bif (decide (v_.kind = 4)) then (idx t_.elems 0).bind fun x15 => (r_convert_each v_ x15).bind fun y16 => some (y16.1, y16.2) else some ((Val.mk 0 0 eS [] []), 6) else bif (decide (t_.kind = 5)) then bif (decide (v_.kind = 5)) then (idx t_.elems 0).bind fun x19 => (r_convert_each v_ x19).bind fun y20 => some (y20.1, y20.2) else some ((Val.mk 0 0 eS [] []), 6) else bif (decide (t_.kind = 6)) then bif (decide (v_.kind = 5)) then (r_convert_toObject v_ t_).bind fun y23 => some (y23.1, y23.2) else some ((Val.mk 0 0 eS [] []), 6) else some ((Val.mk 0 0 eS [] []), 6)
theorem g_convert_to_ok (hb : Base E E0 G) (he : ∀ w, E w → EnvV w) (r_convert_toObject : Val → Ty → Option (Val × Int)) (r_convert_each : Val → Ty → Option (Val × Int)) (hr_convert_toObject : ∀ (a0 : Val) (a1 : Ty) (r : Val × Int), r_convert_toObject a0 a1 = some r → Pure E E0 Tryz.prog 40 [.agg (aV a0), .agg (aT a1)] (.tup [.agg (aV r.1), .cell (vi r.2)])) (hr_convert_each : ∀ (a0 : Val) (a1 : Ty) (r : Val × Int), r_convert_each a0 a1 = some r → Pure E E0 Tryz.prog 39 [.agg (aV a0), .agg (aT a1)] (.tup [.agg (aV r.1), .cell (vi r.2)])) (v_ : Val) (t_ : Ty) (r_ : Val × Int) (hq : g_convert_to r_convert_toObject r_convert_each v_ t_ = some r_) :
    Pure E E0 Tryz.prog 23 [.agg (aV v_), .agg (aT t_)] (.tup [.agg (aV r_.1), .cell (vi r_.2)]) := by
  refine pure_L Tryz.func23 rfl ?_
  refine L_keepF [0, 1] (T' := sl 78 [(0, .one (.agg (aV v_))), (1, .one (.agg (aT t_)))]) (by kernel_rfl) ?_
  refine L_seq ?_
  refine L_regF hb [2, 3, 4] (T' := sl 78 [(2, pt 0), (3, pt 1), (4, pt 2)]) (σ' := [bx (aV v_), bx (aT t_), bx zV]) (by kernel_rfl) ?_
  refine L_seq (L_seq ?_)
  refine L_regK hb [2, 3, 4, 18] (fun R hR => ?_)
  refine runDS 4 [(6, pt 1), (7, c1 (vi t_.kind)), (8, c1 (vB (decide (t_.kind = 0)))), (9, c1 (vB (decide (t_.kind = 0))))] (by kernel_rfl) ?_
  refine partsD ((decide (t_.kind = 0))) (fun zz => [(8, c1 (vB zz)), (9, c1 (vB zz))]) (by kernel_rfl) (fun hc1 => ?_) (fun hc1 => ?_)
  · replace hq := cond_t hc1 hq
    refine lastKS (T' := sl 78 [(2, pt 0), (3, pt 1), (4, pt 2), (18, c1 (vB true))]) (by kernel_rfl) hR ?_
    refine L_true hb (by kernel_rfl) (L_seq ?_)
    refine L_regK hb [4, 5] (fun R hR => ?_)
    refine runDS 1 [(19, .one (.agg (aV v_)))] (by kernel_rfl) ?_
    obtain ⟨y2, hy2, hq⟩ := bind_inv hq
    refine callF (d := some 20) (by kernel_rfl) (ccopied_g hb he v_ y2 hy2) ?_
    refine lastK (T' := sl 78 [(4, pt 2), (5, c1 (vi 0))]) (σ' := [bx (aV v_), bx (aT t_), bx (aV y2)]) (by kernel_rfl) hR ?_
    refine L_ret ?_
    have h0 := Option.some.inj hq
    obtain rfl := h0
    exact end_ret (by kernel_rfl)
  · replace hq := cond_f hc1 hq
    refine runDS 5 [(10, pt 0), (11, c1 (vi v_.kind)), (12, c1 (vB (decide (v_.kind = 0)))), (13, c1 (vB (decide (v_.kind = 0)))), (14, c1 (vB (decide (v_.kind = 0))))] (by kernel_rfl) ?_
    refine partsD ((decide (v_.kind = 0))) (fun zz => [(12, c1 (vB zz)), (13, c1 (vB zz)), (14, c1 (vB zz))]) (by kernel_rfl) (fun hc3 => ?_) (fun hc3 => ?_)
    · replace hq := cond_t hc3 hq
      refine lastKS (T' := sl 78 [(2, pt 0), (3, pt 1), (4, pt 2), (18, c1 (vB true))]) (by kernel_rfl) hR ?_
      refine L_true hb (by kernel_rfl) (L_seq ?_)
      refine L_regK hb [4, 5] (fun R hR => ?_)
      refine runDS 1 [(19, .one (.agg (aV v_)))] (by kernel_rfl) ?_
      obtain ⟨y4, hy4, hq⟩ := bind_inv hq
      refine callF (d := some 20) (by kernel_rfl) (ccopied_g hb he v_ y4 hy4) ?_
      refine lastK (T' := sl 78 [(4, pt 2), (5, c1 (vi 0))]) (σ' := [bx (aV v_), bx (aT t_), bx (aV y4)]) (by kernel_rfl) hR ?_
      refine L_ret ?_
      have h0 := Option.some.inj hq
      obtain rfl := h0
      exact end_ret (by kernel_rfl)
    · replace hq := cond_f hc3 hq
      refine lastKS (T' := sl 78 [(2, pt 0), (3, pt 1), (4, pt 2), (18, c1 (vB (decide (v_.kind = 6))))]) (by kernel_rfl) hR ?_
      refine L_if hb (b := (decide (v_.kind = 6))) (by kernel_rfl) (fun hc5 => ?_) (fun hc5 => ?_)
      · replace hq := cond_t hc5 hq
        refine L_seq ?_
        refine L_regK hb [4, 5] (fun R hR => ?_)
        refine runDS 1 [(19, .one (.agg (aV v_)))] (by kernel_rfl) ?_
        obtain ⟨y6, hy6, hq⟩ := bind_inv hq
        refine callF (d := some 20) (by kernel_rfl) (ccopied_g hb he v_ y6 hy6) ?_
        refine lastK (T' := sl 78 [(4, pt 2), (5, c1 (vi 0))]) (σ' := [bx (aV v_), bx (aT t_), bx (aV y6)]) (by kernel_rfl) hR ?_
        refine L_ret ?_
        have h0 := Option.some.inj hq
        obtain rfl := h0
        exact end_ret (by kernel_rfl)
      · replace hq := cond_f hc5 hq
        refine L_skip (L_seq (L_seq ?_))
        refine L_regS hb [2, 3, 4, 22] (T' := sl 78 [(2, pt 0), (3, pt 1), (4, pt 2), (22, c1 (vi t_.kind))]) (by kernel_rfl) ?_
        refine L_block (fun K1 hA1 hB1 hC1 hD1 => (L_seq ?_))
        refine L_regS hb [2, 3, 4, 22, 23] (T' := sl 78 [(2, pt 0), (3, pt 1), (4, pt 2), (22, c1 (vi t_.kind)), (23, c1 (vB (decide (t_.kind = 1))))]) (by kernel_rfl) ?_
        refine L_if hb (b := (decide (t_.kind = 1))) (by kernel_rfl) (fun hc7 => ?_) (fun hc7 => ?_)
        · replace hq := cond_t hc7 hq
          refine L_seq ?_
          refine L_regK hb [4, 5] (fun R hR => ?_)
          refine runDS 1 [(25, .one (.agg (aV v_)))] (by kernel_rfl) ?_
          obtain ⟨y8, hy8, hq⟩ := bind_inv hq
          refine callF (d := some 26) (by kernel_rfl) (g_convert_toBool_ok hb he v_ y8 hy8) ?_
          refine lastK (T' := sl 78 [(4, pt 2), (5, c1 (vi y8.2))]) (σ' := [bx (aV v_), bx (aT t_), bx (aV y8.1)]) (by kernel_rfl) hR ?_
          refine L_ret (hD1 _ _ ?_)
          have h0 := Option.some.inj hq
          obtain rfl := h0
          exact end_ret (by kernel_rfl)
        · replace hq := cond_f hc7 hq
          refine L_seq ?_
          refine L_regS hb [2, 3, 4, 22, 29] (T' := sl 78 [(2, pt 0), (3, pt 1), (4, pt 2), (22, c1 (vi t_.kind)), (29, c1 (vB (decide (t_.kind = 2))))]) (by kernel_rfl) ?_
          refine L_if hb (b := (decide (t_.kind = 2))) (by kernel_rfl) (fun hc9 => ?_) (fun hc9 => ?_)
          · replace hq := cond_t hc9 hq
            refine L_seq ?_
            refine L_regK hb [4, 5] (fun R hR => ?_)
            refine runDS 1 [(31, .one (.agg (aV v_)))] (by kernel_rfl) ?_
            obtain ⟨y10, hy10, hq⟩ := bind_inv hq
            refine callF (d := some 32) (by kernel_rfl) (g_convert_toNumber_ok hb he v_ y10 hy10) ?_
            refine lastK (T' := sl 78 [(4, pt 2), (5, c1 (vi y10.2))]) (σ' := [bx (aV v_), bx (aT t_), bx (aV y10.1)]) (by kernel_rfl) hR ?_
            refine L_ret (hD1 _ _ ?_)
            have h0 := Option.some.inj hq
            obtain rfl := h0
            exact end_ret (by kernel_rfl)
          · replace hq := cond_f hc9 hq
            refine L_seq ?_
            refine L_regS hb [2, 3, 4, 22, 35] (T' := sl 78 [(2, pt 0), (3, pt 1), (4, pt 2), (22, c1 (vi t_.kind)), (35, c1 (vB (decide (t_.kind = 3))))]) (by kernel_rfl) ?_
            refine L_if hb (b := (decide (t_.kind = 3))) (by kernel_rfl) (fun hc11 => ?_) (fun hc11 => ?_)
            · replace hq := cond_t hc11 hq
              refine L_seq ?_
              refine L_regK hb [4, 5] (fun R hR => ?_)
              refine runDS 1 [(37, .one (.agg (aV v_)))] (by kernel_rfl) ?_
              obtain ⟨y12, hy12, hq⟩ := bind_inv hq
              refine callF (d := some 38) (by kernel_rfl) (g_convert_toString_ok hb he v_ y12 hy12) ?_
              refine lastK (T' := sl 78 [(4, pt 2), (5, c1 (vi y12.2))]) (σ' := [bx (aV v_), bx (aT t_), bx (aV y12.1)]) (by kernel_rfl) hR ?_
              refine L_ret (hD1 _ _ ?_)
              have h0 := Option.some.inj hq
              obtain rfl := h0
              exact end_ret (by kernel_rfl)
            · replace hq := cond_f hc11 hq
              refine L_seq ?_
              refine L_regS hb [2, 3, 4, 22, 41] (T' := sl 78 [(2, pt 0), (3, pt 1), (4, pt 2), (22, c1 (vi t_.kind)), (41, c1 (vB (decide (t_.kind = 4))))]) (by kernel_rfl) ?_
              refine L_if hb (b := (decide (t_.kind = 4))) (by kernel_rfl) (fun hc13 => ?_) (fun hc13 => ?_)
              · replace hq := cond_t hc13 hq
                refine L_seq ?_
                refine L_regS hb [2, 3, 4, 45] (T' := sl 78 [(2, pt 0), (3, pt 1), (4, pt 2), (45, c1 (vB (decide (v_.kind = 4))))]) (by kernel_rfl) ?_
                refine L_if hb (b := (decide (v_.kind = 4))) (by kernel_rfl) (fun hc14 => ?_) (fun hc14 => ?_)
                · replace hq := cond_t hc14 hq
                  refine L_seq ?_
                  refine L_drwK hb mixed [4, 5] 7 (by kernel_rfl) (by kernel_rfl) (fun R hR => ?_)
                  refine runDS 3 [(46, .one (.agg (aV v_))), (47, c1 (.ptr 1 0 1)), (48, c1 (vL flT t_.elems))] (by kernel_rfl) ?_
                  obtain ⟨x15, hx15, hq⟩ := bind_inv hq
                  refine idxF flT (d := some 49) hx15 (by kernel_rfl) ?_
                  refine runPS 1 [(49, c1 (.pv (.pp (flT.c x15 ++ flT.f (List.drop ((0 : Int).toNat + 1) t_.elems))))), (50, .one (.agg (aT x15)))] (by kernel_rfl) ?_
                  obtain ⟨y16, hy16, hq⟩ := bind_inv hq
                  refine callF (d := some 51) (by kernel_rfl) (hr_convert_each v_ x15 y16 hy16) ?_
                  refine lastFS (T' := sl 78 [(2, pt 0), (3, pt 1), (4, pt 2), (45, c1 (vB (decide (v_.kind = 4)))), (46, .one (.agg (aV v_))), (47, c1 (.ptr 1 0 1)), (48, c1 (vL flT t_.elems)), (49, c1 (.pv (.pp (flT.c x15 ++ flT.f (List.drop ((0 : Int).toNat + 1) t_.elems))))), (50, .one (.agg (aT x15))), (51, .tup [.agg (aV y16.1), .cell (vi y16.2)]), (52, .one (.agg (aV y16.1)))]) (by kernel_rfl) ?_
                  refine lastK (T' := sl 78 [(4, pt 2), (5, c1 (vi y16.2))]) (σ' := [bx (aV v_), bx (aT t_), bx (aV y16.1)]) (by kernel_rfl) hR ?_
                  refine L_ret (hD1 _ _ ?_)
                  have h0 := Option.some.inj hq
                  obtain rfl := h0
                  exact end_ret (by kernel_rfl)
                · replace hq := cond_f hc14 hq
                  refine L_skip (L_nil (hA1 _ _ (L_seq ?_)))
                  refine L_regS hb [4, 5] (T' := sl 78 [(4, pt 2), (5, c1 (vi 6))]) (by kernel_rfl) ?_
                  refine L_ret ?_
                  have h0 := Option.some.inj hq
                  obtain rfl := h0
                  exact end_ret (by kernel_rfl)
              · replace hq := cond_f hc13 hq
                refine L_seq ?_
                refine L_regS hb [2, 3, 4, 22, 54] (T' := sl 78 [(2, pt 0), (3, pt 1), (4, pt 2), (22, c1 (vi t_.kind)), (54, c1 (vB (decide (t_.kind = 5))))]) (by kernel_rfl) ?_
                refine L_if hb (b := (decide (t_.kind = 5))) (by kernel_rfl) (fun hc17 => ?_) (fun hc17 => ?_)
                · replace hq := cond_t hc17 hq
                  refine L_seq ?_
                  refine L_regS hb [2, 3, 4, 58] (T' := sl 78 [(2, pt 0), (3, pt 1), (4, pt 2), (58, c1 (vB (decide (v_.kind = 5))))]) (by kernel_rfl) ?_
                  refine L_if hb (b := (decide (v_.kind = 5))) (by kernel_rfl) (fun hc18 => ?_) (fun hc18 => ?_)
                  · replace hq := cond_t hc18 hq
                    refine L_seq ?_
                    refine L_drwK hb mixed [4, 5] 7 (by kernel_rfl) (by kernel_rfl) (fun R hR => ?_)
                    refine runDS 3 [(59, .one (.agg (aV v_))), (60, c1 (.ptr 1 0 1)), (61, c1 (vL flT t_.elems))] (by kernel_rfl) ?_
                    obtain ⟨x19, hx19, hq⟩ := bind_inv hq
                    refine idxF flT (d := some 62) hx19 (by kernel_rfl) ?_
                    refine runPS 1 [(62, c1 (.pv (.pp (flT.c x19 ++ flT.f (List.drop ((0 : Int).toNat + 1) t_.elems))))), (63, .one (.agg (aT x19)))] (by kernel_rfl) ?_
                    obtain ⟨y20, hy20, hq⟩ := bind_inv hq
                    refine callF (d := some 64) (by kernel_rfl) (hr_convert_each v_ x19 y20 hy20) ?_
                    refine lastFS (T' := sl 78 [(2, pt 0), (3, pt 1), (4, pt 2), (58, c1 (vB (decide (v_.kind = 5)))), (59, .one (.agg (aV v_))), (60, c1 (.ptr 1 0 1)), (61, c1 (vL flT t_.elems)), (62, c1 (.pv (.pp (flT.c x19 ++ flT.f (List.drop ((0 : Int).toNat + 1) t_.elems))))), (63, .one (.agg (aT x19))), (64, .tup [.agg (aV y20.1), .cell (vi y20.2)]), (65, .one (.agg (aV y20.1)))]) (by kernel_rfl) ?_
                    refine lastK (T' := sl 78 [(4, pt 2), (5, c1 (vi y20.2))]) (σ' := [bx (aV v_), bx (aT t_), bx (aV y20.1)]) (by kernel_rfl) hR ?_
                    refine L_ret (hD1 _ _ ?_)
                    have h0 := Option.some.inj hq
                    obtain rfl := h0
                    exact end_ret (by kernel_rfl)
                  · replace hq := cond_f hc18 hq
                    refine L_skip (L_nil (hA1 _ _ (L_seq ?_)))
                    refine L_regS hb [4, 5] (T' := sl 78 [(4, pt 2), (5, c1 (vi 6))]) (by kernel_rfl) ?_
                    refine L_ret ?_
                    have h0 := Option.some.inj hq
                    obtain rfl := h0
                    exact end_ret (by kernel_rfl)
                · replace hq := cond_f hc17 hq
                  refine L_seq ?_
                  refine L_regS hb [2, 3, 4, 67] (T' := sl 78 [(2, pt 0), (3, pt 1), (4, pt 2), (67, c1 (vB (decide (t_.kind = 6))))]) (by kernel_rfl) ?_
                  refine L_if hb (b := (decide (t_.kind = 6))) (by kernel_rfl) (fun hc21 => ?_) (fun hc21 => ?_)
                  · replace hq := cond_t hc21 hq
                    refine L_seq ?_
                    refine L_regS hb [2, 3, 4, 71] (T' := sl 78 [(2, pt 0), (3, pt 1), (4, pt 2), (71, c1 (vB (decide (v_.kind = 5))))]) (by kernel_rfl) ?_
                    refine L_if hb (b := (decide (v_.kind = 5))) (by kernel_rfl) (fun hc22 => ?_) (fun hc22 => ?_)
                    · replace hq := cond_t hc22 hq
                      refine L_seq ?_
                      refine L_regK hb [4, 5] (fun R hR => ?_)
                      refine runDS 2 [(72, .one (.agg (aV v_))), (73, .one (.agg (aT t_)))] (by kernel_rfl) ?_
                      obtain ⟨y23, hy23, hq⟩ := bind_inv hq
                      refine callF (d := some 74) (by kernel_rfl) (hr_convert_toObject v_ t_ y23 hy23) ?_
                      refine lastK (T' := sl 78 [(4, pt 2), (5, c1 (vi y23.2))]) (σ' := [bx (aV v_), bx (aT t_), bx (aV y23.1)]) (by kernel_rfl) hR ?_
                      refine L_ret (hD1 _ _ ?_)
                      have h0 := Option.some.inj hq
                      obtain rfl := h0
                      exact end_ret (by kernel_rfl)
                    · replace hq := cond_f hc22 hq
                      refine L_skip (L_nil (hA1 _ _ (L_seq ?_)))
                      refine L_regS hb [4, 5] (T' := sl 78 [(4, pt 2), (5, c1 (vi 6))]) (by kernel_rfl) ?_
                      refine L_ret ?_
                      have h0 := Option.some.inj hq
                      obtain rfl := h0
                      exact end_ret (by kernel_rfl)
                  · replace hq := cond_f hc21 hq
                    refine L_skip (L_nil (hA1 _ _ (L_seq ?_)))
                    refine L_regS hb [4, 5] (T' := sl 78 [(4, pt 2), (5, c1 (vi 6))]) (by kernel_rfl) ?_
                    refine L_ret ?_
                    have h0 := Option.some.inj hq
                    obtain rfl := h0
                    exact end_ret (by kernel_rfl)
noncomputable def t_convert_to_step (rec : Ty → Val → Option (Val × Int)) (a : Ty) (b : Val) : Option (Val × Int) :=
  g_convert_to (g_convert_toObject (fun a0 a1 => rec a1 a0)) (g_convert_each (fun a0 a1 => rec a1 a0)) b a
noncomputable def t_convert_to (a0 : Val) (a1 : Ty) : Option (Val × Int) := tieF relT wfT t_convert_to_step a1 a0
theorem t_convert_to_ok (hb : Base E E0 G) (he : ∀ w, E w → EnvV w) (a0 : Val) (a1 : Ty) (r : Val × Int) (hq : t_convert_to a0 a1 = some r) : Pure E E0 Tryz.prog 23 [.agg (aV a0), .agg (aT a1)] (.tup [.agg (aV r.1), .cell (vi r.2)]) :=
  tieF_ok (C := fun a b r => Pure E E0 Tryz.prog 23 [.agg (aV b), .agg (aT a)] (.tup [.agg (aV r.1), .cell (vi r.2)])) (fun rec hr a b r hq => g_convert_to_ok hb he (g_convert_toObject (fun a0 a1 => rec a1 a0)) (g_convert_each (fun a0 a1 => rec a1 a0)) (g_convert_toObject_ok hb he (fun a0 a1 => rec a1 a0) (fun a0 a1 r e => hr a1 a0 r e)) (g_convert_each_ok hb he (fun a0 a1 => rec a1 a0) (fun a0 a1 r e => hr a1 a0 r e)) b a r hq) a1 a0 r hq
noncomputable def t_convert_each (a0 : Val) (a1 : Ty) : Option (Val × Int) := (g_convert_each t_convert_to) a0 a1
theorem t_convert_each_ok (hb : Base E E0 G) (he : ∀ w, E w → EnvV w) (a0 : Val) (a1 : Ty) (r : Val × Int) (hq : t_convert_each a0 a1 = some r) : Pure E E0 Tryz.prog 39 [.agg (aV a0), .agg (aT a1)] (.tup [.agg (aV r.1), .cell (vi r.2)]) :=
  g_convert_each_ok hb he t_convert_to (t_convert_to_ok hb he) a0 a1 r hq
noncomputable def t_convert_toObject (a0 : Val) (a1 : Ty) : Option (Val × Int) := (g_convert_toObject t_convert_to) a0 a1
theorem t_convert_toObject_ok (hb : Base E E0 G) (he : ∀ w, E w → EnvV w) (a0 : Val) (a1 : Ty) (r : Val × Int) (hq : t_convert_toObject a0 a1 = some r) : Pure E E0 Tryz.prog 40 [.agg (aV a0), .agg (aT a1)] (.tup [.agg (aV r.1), .cell (vi r.2)]) :=
  g_convert_toObject_ok hb he t_convert_to (t_convert_to_ok hb he) a0 a1 r hq
noncomputable def g_convert_To  (v_ : Val) (t_ : Ty) : Option (Val × Int) :=
  (t_convert_to v_ t_).bind fun y1 => bif (decide (y1.2 = 0)) then (m_checkE y1.1).bind fun y3 => bif (!decide (y3 = 0)) then some ((Val.mk 0 0 eS [] []), y3) else some (y1.1, 0) else some ((Val.mk 0 0 eS [] []), y1.2)
theorem g_convert_To_ok (hb : Base E E0 G) (he : ∀ w, E w → EnvV w)   (v_ : Val) (t_ : Ty) (r_ : Val × Int) (hq : g_convert_To v_ t_ = some r_) :
    Pure E E0 Tryz.prog 12 [.agg (aV v_), .agg (aT t_)] (.tup [.agg (aV r_.1), .cell (vi r_.2)]) := by
  refine pure_L Tryz.func12 rfl ?_
  refine L_keepF [0, 1] (T' := sl 23 [(0, .one (.agg (aV v_))), (1, .one (.agg (aT t_)))]) (by kernel_rfl) ?_
  refine L_seq ?_
  refine L_regF hb [2, 3, 4] (T' := sl 23 [(2, pt 0), (3, pt 1), (4, pt 2)]) (σ' := [bx (aV v_), bx (aT t_), bx zV]) (by kernel_rfl) ?_
  refine L_seq ?_
  refine L_regK hb [4, 6, 7] (fun R hR => ?_)
  refine runDS 2 [(9, .one (.agg (aV v_))), (10, .one (.agg (aT t_)))] (by kernel_rfl) ?_
  obtain ⟨y1, hy1, hq⟩ := bind_inv hq
  refine callF (d := some 11) (by kernel_rfl) (t_convert_to_ok hb he v_ t_ y1 hy1) ?_
  refine lastK (T' := sl 23 [(4, pt 2), (6, pt 3), (7, c1 (vi y1.2))]) (σ' := [bx (aV v_), bx (aT t_), bx zV, bx (aV y1.1)]) (by kernel_rfl) hR ?_
  refine L_seq (L_seq ?_)
  refine L_regS hb [4, 6, 7, 15] (T' := sl 23 [(4, pt 2), (6, pt 3), (7, c1 (vi y1.2)), (15, c1 (vB (decide (y1.2 = 0))))]) (by kernel_rfl) ?_
  refine L_if hb (b := (decide (y1.2 = 0))) (by kernel_rfl) (fun hc2 => ?_) (fun hc2 => ?_)
  · replace hq := cond_t hc2 hq
    refine L_regK hb [4, 6, 7] (fun R hR => ?_)
    refine runDS 1 [(16, .one (.agg (aV y1.1)))] (by kernel_rfl) ?_
    obtain ⟨y3, hy3, hq⟩ := bind_inv hq
    refine callF (d := some 17) (by kernel_rfl) (pCheck_g hb he y1.1 y3 hy3) ?_
    refine lastKS (T' := sl 23 [(4, pt 2), (6, pt 3), (7, c1 (vi y3))]) (by kernel_rfl) hR ?_
    refine L_seq (L_seq ?_)
    refine L_regS hb [4, 6, 7, 19] (T' := sl 23 [(4, pt 2), (6, pt 3), (7, c1 (vi y3)), (19, c1 (vB (!decide (y3 = 0))))]) (by kernel_rfl) ?_
    refine L_if hb (b := (!decide (y3 = 0))) (by kernel_rfl) (fun hc4 => ?_) (fun hc4 => ?_)
    · replace hq := cond_t hc4 hq
      refine L_seq ?_
      refine L_regS hb [4, 5] (T' := sl 23 [(4, pt 2), (5, c1 (vi y3))]) (by kernel_rfl) ?_
      refine L_ret ?_
      have h0 := Option.some.inj hq
      obtain rfl := h0
      exact end_ret (by kernel_rfl)
    · replace hq := cond_f hc4 hq
      refine L_skip (L_seq ?_)
      refine L_regF hb [4, 5] (T' := sl 23 [(4, pt 2), (5, c1 (vi 0))]) (σ' := [bx (aV v_), bx (aT t_), bx (aV y1.1), bx (aV y1.1)]) (by kernel_rfl) ?_
      refine L_ret ?_
      have h0 := Option.some.inj hq
      obtain rfl := h0
      exact end_ret (by kernel_rfl)
  · replace hq := cond_f hc2 hq
    refine L_skip (L_seq (L_seq ?_))
    refine L_regS hb [4, 6, 7, 19] (T' := sl 23 [(4, pt 2), (6, pt 3), (7, c1 (vi y1.2)), (19, c1 (vB (!decide (y1.2 = 0))))]) (by kernel_rfl) ?_
    refine L_ifT hb (b := (!decide (y1.2 = 0))) (by kernel_rfl) (congrArg (fun z => !z) hc2) ?_
    refine L_seq ?_
    refine L_regS hb [4, 5] (T' := sl 23 [(4, pt 2), (5, c1 (vi y1.2))]) (by kernel_rfl) ?_
    refine L_ret ?_
    have h0 := Option.some.inj hq
    obtain rfl := h0
    exact end_ret (by kernel_rfl)
noncomputable def g_convert_simple  (v_ : Val) (k_ : Int) : Option (Val × Int) :=
  bif (decide (v_.kind = 0)) then some ((Val.mk 0 0 eS [] []), 6) else (g_convert_To v_ (Ty.mk k_ [] [])).bind fun y2 => some (y2.1, y2.2)
theorem g_convert_simple_ok (hb : Base E E0 G) (he : ∀ w, E w → EnvV w)   (v_ : Val) (k_ : Int) (r_ : Val × Int) (hq : g_convert_simple v_ k_ = some r_) :
    Pure E E0 Tryz.prog 21 [.agg (aV v_), .cell (vi k_)] (.tup [.agg (aV r_.1), .cell (vi r_.2)]) := by
  refine pure_L Tryz.func21 rfl ?_
  refine L_keepF [0, 1] (T' := sl 16 [(0, .one (.agg (aV v_))), (1, c1 (vi k_))]) (by kernel_rfl) ?_
  refine L_seq ?_
  refine L_regF hb [1, 2, 4] (T' := sl 16 [(1, c1 (vi k_)), (2, pt 0), (4, pt 1)]) (σ' := [bx (aV v_), bx zV]) (by kernel_rfl) ?_
  refine L_seq (L_seq ?_)
  refine L_regS hb [1, 2, 4, 8] (T' := sl 16 [(1, c1 (vi k_)), (2, pt 0), (4, pt 1), (8, c1 (vB (decide (v_.kind = 0))))]) (by kernel_rfl) ?_
  refine L_if hb (b := (decide (v_.kind = 0))) (by kernel_rfl) (fun hc1 => ?_) (fun hc1 => ?_)
  · replace hq := cond_t hc1 hq
    refine L_seq ?_
    refine L_regS hb [4, 5] (T' := sl 16 [(4, pt 1), (5, c1 (vi 6))]) (by kernel_rfl) ?_
    refine L_ret ?_
    have h0 := Option.some.inj hq
    obtain rfl := h0
    exact end_ret (by kernel_rfl)
  · replace hq := cond_f hc1 hq
    refine L_skip (L_seq ?_)
    refine L_regK hb [4, 5] (fun R hR => ?_)
    refine runDS 3 [(10, .one (.agg (aV v_))), (11, c1 (vi k_)), (12, .one (.agg [vi k_, vN, vN]))] (by kernel_rfl) ?_
    obtain ⟨y2, hy2, hq⟩ := bind_inv hq
    refine callF (d := some 13) (by kernel_rfl) (g_convert_To_ok hb he v_ (Ty.mk k_ [] []) y2 hy2) ?_
    refine lastK (T' := sl 16 [(4, pt 1), (5, c1 (vi y2.2))]) (σ' := [bx (aV v_), bx (aV y2.1)]) (by kernel_rfl) hR ?_
    refine L_ret ?_
    have h0 := Option.some.inj hq
    obtain rfl := h0
    exact end_ret (by kernel_rfl)
noncomputable def g_convert_Text  (v_ : Val) : Option (Val × Int) :=
  (g_convert_simple v_ 3).bind fun y1 => some (y1.1, y1.2)
theorem g_convert_Text_ok (hb : Base E E0 G) (he : ∀ w, E w → EnvV w)   (v_ : Val) (r_ : Val × Int) (hq : g_convert_Text v_ = some r_) :
    Pure E E0 Tryz.prog 7 [.agg (aV v_)] (.tup [.agg (aV r_.1), .cell (vi r_.2)]) := by
  refine pure_L Tryz.func7 rfl ?_
  refine L_keepF [0] (T' := sl 8 [(0, .one (.agg (aV v_)))]) (by kernel_rfl) ?_
  refine L_seq ?_
  refine L_regF hb [1, 2] (T' := sl 8 [(1, pt 0), (2, pt 1)]) (σ' := [bx (aV v_), bx zV]) (by kernel_rfl) ?_
  refine L_seq ?_
  refine L_regK hb [2, 3] (fun R hR => ?_)
  refine runDS 1 [(4, .one (.agg (aV v_)))] (by kernel_rfl) ?_
  obtain ⟨y1, hy1, hq⟩ := bind_inv hq
  refine callF (d := some 5) (by kernel_rfl) (g_convert_simple_ok hb he v_ 3 y1 hy1) ?_
  refine lastK (T' := sl 8 [(2, pt 1), (3, c1 (vi y1.2))]) (σ' := [bx (aV v_), bx (aV y1.1)]) (by kernel_rfl) hR ?_
  refine L_ret ?_
  have h0 := Option.some.inj hq
  obtain rfl := h0
  exact end_ret (by kernel_rfl)
noncomputable def g_convert_Truth  (v_ : Val) : Option (Val × Int) :=
  (g_convert_simple v_ 1).bind fun y1 => some (y1.1, y1.2)
theorem g_convert_Truth_ok (hb : Base E E0 G) (he : ∀ w, E w → EnvV w)   (v_ : Val) (r_ : Val × Int) (hq : g_convert_Truth v_ = some r_) :
    Pure E E0 Tryz.prog 9 [.agg (aV v_)] (.tup [.agg (aV r_.1), .cell (vi r_.2)]) := by
  refine pure_L Tryz.func9 rfl ?_
  refine L_keepF [0] (T' := sl 8 [(0, .one (.agg (aV v_)))]) (by kernel_rfl) ?_
  refine L_seq ?_
  refine L_regF hb [1, 2] (T' := sl 8 [(1, pt 0), (2, pt 1)]) (σ' := [bx (aV v_), bx zV]) (by kernel_rfl) ?_
  refine L_seq ?_
  refine L_regK hb [2, 3] (fun R hR => ?_)
  refine runDS 1 [(4, .one (.agg (aV v_)))] (by kernel_rfl) ?_
  obtain ⟨y1, hy1, hq⟩ := bind_inv hq
  refine callF (d := some 5) (by kernel_rfl) (g_convert_simple_ok hb he v_ 1 y1 hy1) ?_
  refine lastK (T' := sl 8 [(2, pt 1), (3, c1 (vi y1.2))]) (σ' := [bx (aV v_), bx (aV y1.1)]) (by kernel_rfl) hR ?_
  refine L_ret ?_
  have h0 := Option.some.inj hq
  obtain rfl := h0
  exact end_ret (by kernel_rfl)
noncomputable def g_l11_text  (s_ : ByteArray) : Option (Val) :=
  some (Val.mk 3 0 s_ [] [])
theorem g_l11_text_ok (hb : Base E E0 G) (he : ∀ w, E w → EnvV w)   (s_ : ByteArray) (r_ : Val) (hq : g_l11_text s_ = some r_) :
    Pure E E0 Tryz.prog 20 [.cell (vS s_)] (.one (.agg (aV r_))) := by
  refine pure_L Tryz.func20 rfl ?_
  refine L_keepF [0] (T' := sl 5 [(0, c1 (vS s_))]) (by kernel_rfl) ?_
  refine L_seq ?_
  refine L_regF hb [0, 2] (T' := sl 5 [(0, c1 (vS s_)), (2, pt 0)]) (σ' := [bx zV]) (by kernel_rfl) ?_
  refine L_seq ?_
  refine L_regF hb [2] (T' := sl 5 [(2, pt 0)]) (σ' := [bx [vi 3, vi 0, vS s_, vN, vN]]) (by kernel_rfl) ?_
  refine L_ret ?_
  have h0 := Option.some.inj hq
  obtain rfl := h0
  exact end_ret (by kernel_rfl)
noncomputable def g_l11_awake   : Option (Bool) :=
  (g_l11_text (⟨#[49]⟩ : ByteArray)).bind fun y1 => (g_convert_To (Val.mk 4 0 eS [y1, (Val.mk 2 2 eS [] [])] []) (Ty.mk 4 [(Ty.mk 2 [] [])] [])).bind fun y2 => (g_l11_text (⟨#[48, 48, 55]⟩ : ByteArray)).bind fun y3 => (g_convert_To y3 (Ty.mk 2 [] [])).bind fun y4 => (g_convert_Text (Val.mk 1 1 eS [] [])).bind fun y5 => (g_l11_text (⟨#[121, 101, 115]⟩ : ByteArray)).bind fun y6 => (g_convert_Truth y6).bind fun y7 => (g_convert_Text (Val.mk 0 0 eS [] [])).bind fun y8 => bif (decide (y2.2 = 0)) then bif (decide ((y2.1.items.length : Int) = 2)) then (idx y2.1.items 0).bind fun x11 => bif (decide (x11.kind = 2)) then (idx y2.1.items 0).bind fun x13 => bif (decide (x13.num = 1)) then bif (decide (y4.2 = 6)) then bif (decide (y5.2 = 0)) then bif (decide (y5.1.str = (⟨#[116, 114, 117, 101]⟩ : ByteArray))) then bif (decide (y7.2 = 6)) then some (decide (y8.2 = 6)) else some (false) else some (false) else some (false) else some (false) else some (false) else some (false) else some (false) else some (false)
theorem g_l11_awake_ok (hb : Base E E0 G) (he : ∀ w, E w → EnvV w)    (r_ : Bool) (hq : g_l11_awake = some r_) :
    Pure E E0 Tryz.prog 6 [] (c1 (vB r_)) := by
  refine pure_L Tryz.func6 rfl ?_
  refine L_keepF [] (T' := sl 90 []) (by kernel_rfl) ?_
  refine L_seq ?_
  refine L_regS hb [] (T' := sl 90 []) (by kernel_rfl) ?_
  refine L_seq ?_
  refine L_regF hb [1] (T' := sl 90 [(1, pt 0)]) (σ' := [bx [vi 4, .pv (.sl true 1 [pI .i64 2, pL flT [], pL flS []]), vN]]) (by kernel_rfl) ?_
  refine L_seq ?_
  refine L_drwK hb mixed [2, 3] 10 (by kernel_rfl) (by kernel_rfl) (fun R hR => ?_)
  obtain ⟨y1, hy1, hq⟩ := bind_inv hq
  refine callF (d := some 16) (by kernel_rfl) (g_l11_text_ok hb he (⟨#[49]⟩ : ByteArray) y1 hy1) ?_
  refine runPS 4 [(16, .one (.agg (aV y1))), (17, .one (.agg [vi 2, vi 2, vS eS, vN, vN])), (18, c1 (.pv (.sl true 2 [pI .i64 y1.kind, pI .i64 y1.num, pS y1.str, pL flV y1.items, pL flS y1.keys, pI .i64 2, pI .i64 2, pS eS, pL flV [], pL flS []]))), (19, .one (.agg [vi 4, vi 0, vS eS, .pv (.sl true 2 [pI .i64 y1.kind, pI .i64 y1.num, pS y1.str, pL flV y1.items, pL flS y1.keys, pI .i64 2, pI .i64 2, pS eS, pL flV [], pL flS []]), vN])), (20, .one (.agg [vi 4, .pv (.sl true 1 [pI .i64 2, pL flT [], pL flS []]), vN]))] (by kernel_rfl) ?_
  obtain ⟨y2, hy2, hq⟩ := bind_inv hq
  have hp := g_convert_To_ok hb he (Val.mk 4 0 eS [y1, (Val.mk 2 2 eS [] [])] []) (Ty.mk 4 [(Ty.mk 2 [] [])] []) y2 hy2
  simp only [aV, aT, kind_mk, num_mk, str_mk, items_mk, keys_mk, Ty.kind_mk, Ty.elems_mk, Ty.names_mk, vL_one, vL_two, vL_three] at hp
  refine callF (d := some 21) (by kernel_rfl) hp ?_
  refine lastF (T' := sl 90 [(1, pt 0), (2, pt 1), (15, .tup [.agg (aV y2.1), .cell (vi y2.2)]), (16, .one (.agg (aV y1))), (17, .one (.agg [vi 2, vi 2, vS eS, vN, vN])), (18, c1 (.pv (.sl true 2 [pI .i64 y1.kind, pI .i64 y1.num, pS y1.str, pL flV y1.items, pL flS y1.keys, pI .i64 2, pI .i64 2, pS eS, pL flV [], pL flS []]))), (19, .one (.agg [vi 4, vi 0, vS eS, .pv (.sl true 2 [pI .i64 y1.kind, pI .i64 y1.num, pS y1.str, pL flV y1.items, pL flS y1.keys, pI .i64 2, pI .i64 2, pS eS, pL flV [], pL flS []]), vN])), (20, .one (.agg [vi 4, .pv (.sl true 1 [pI .i64 2, pL flT [], pL flS []]), vN])), (21, .tup [.agg (aV y2.1), .cell (vi y2.2)]), (22, .one (.agg (aV y2.1))), (23, c1 (vi y2.2))]) (σ' := [bx [vi 4, .pv (.sl true 1 [pI .i64 2, pL flT [], pL flS []]), vN], bx zV]) (by kernel_rfl) ?_
  refine lastK (T' := sl 90 [(2, pt 1), (3, c1 (vi y2.2))]) (σ' := [bx [vi 4, .pv (.sl true 1 [pI .i64 2, pL flT [], pL flS []]), vN], bx (aV y2.1)]) (by kernel_rfl) hR ?_
  refine L_seq ?_
  refine L_regK hb [2, 3, 5] (fun R hR => ?_)
  obtain ⟨y3, hy3, hq⟩ := bind_inv hq
  refine callF (d := some 25) (by kernel_rfl) (g_l11_text_ok hb he (⟨#[48, 48, 55]⟩ : ByteArray) y3 hy3) ?_
  refine runPS 1 [(25, .one (.agg (aV y3))), (26, .one (.agg [vi 2, vN, vN]))] (by kernel_rfl) ?_
  obtain ⟨y4, hy4, hq⟩ := bind_inv hq
  refine callF (d := some 27) (by kernel_rfl) (g_convert_To_ok hb he y3 (Ty.mk 2 [] []) y4 hy4) ?_
  refine lastK (T' := sl 90 [(2, pt 1), (3, c1 (vi y2.2)), (5, c1 (vi y4.2))]) (σ' := [bx [vi 4, .pv (.sl true 1 [pI .i64 2, pL flT [], pL flS []]), vN], bx (aV y2.1), bx (aV y4.1)]) (by kernel_rfl) hR ?_
  refine L_seq ?_
  refine L_regK hb [2, 3, 5, 6, 7] (fun R hR => ?_)
  refine runDS 1 [(31, .one (.agg [vi 1, vi 1, vS eS, vN, vN]))] (by kernel_rfl) ?_
  obtain ⟨y5, hy5, hq⟩ := bind_inv hq
  refine callF (d := some 32) (by kernel_rfl) (g_convert_Text_ok hb he (Val.mk 1 1 eS [] []) y5 hy5) ?_
  refine lastK (T' := sl 90 [(2, pt 1), (3, c1 (vi y2.2)), (5, c1 (vi y4.2)), (6, pt 3), (7, c1 (vi y5.2))]) (σ' := [bx [vi 4, .pv (.sl true 1 [pI .i64 2, pL flT [], pL flS []]), vN], bx (aV y2.1), bx (aV y4.1), bx (aV y5.1)]) (by kernel_rfl) hR ?_
  refine L_seq ?_
  refine L_regK hb [2, 3, 5, 6, 7, 9] (fun R hR => ?_)
  obtain ⟨y6, hy6, hq⟩ := bind_inv hq
  refine callF (d := some 36) (by kernel_rfl) (g_l11_text_ok hb he (⟨#[121, 101, 115]⟩ : ByteArray) y6 hy6) ?_
  obtain ⟨y7, hy7, hq⟩ := bind_inv hq
  refine callF (d := some 37) (by kernel_rfl) (g_convert_Truth_ok hb he y6 y7 hy7) ?_
  refine lastK (T' := sl 90 [(2, pt 1), (3, c1 (vi y2.2)), (5, c1 (vi y4.2)), (6, pt 3), (7, c1 (vi y5.2)), (9, c1 (vi y7.2))]) (σ' := [bx [vi 4, .pv (.sl true 1 [pI .i64 2, pL flT [], pL flS []]), vN], bx (aV y2.1), bx (aV y4.1), bx (aV y5.1), bx (aV y7.1)]) (by kernel_rfl) hR ?_
  refine L_seq ?_
  refine L_regK hb [2, 3, 5, 6, 7, 9, 11] (fun R hR => ?_)
  refine runDS 1 [(41, .one (.agg zV))] (by kernel_rfl) ?_
  obtain ⟨y8, hy8, hq⟩ := bind_inv hq
  refine callF (d := some 42) (by kernel_rfl) (g_convert_Text_ok hb he (Val.mk 0 0 eS [] []) y8 hy8) ?_
  refine lastK (T' := sl 90 [(2, pt 1), (3, c1 (vi y2.2)), (5, c1 (vi y4.2)), (6, pt 3), (7, c1 (vi y5.2)), (9, c1 (vi y7.2)), (11, c1 (vi y8.2))]) (σ' := [bx [vi 4, .pv (.sl true 1 [pI .i64 2, pL flT [], pL flS []]), vN], bx (aV y2.1), bx (aV y4.1), bx (aV y5.1), bx (aV y7.1), bx (aV y8.1)]) (by kernel_rfl) hR ?_
  refine L_seq ?_
  refine L_regK hb [0] (fun R hR => ?_)
  refine runDS 3 [(45, c1 (vi y2.2)), (46, c1 (vB (decide (y2.2 = 0)))), (47, c1 (vB (decide (y2.2 = 0))))] (by kernel_rfl) ?_
  refine partsD ((decide (y2.2 = 0))) (fun zz => [(46, c1 (vB zz)), (47, c1 (vB zz))]) (by kernel_rfl) (fun hc9 => ?_) (fun hc9 => ?_)
  · replace hq := cond_t hc9 hq
    refine runDS 6 [(48, c1 (.ptr 1 0 3)), (49, c1 (vL flV y2.1.items)), (50, c1 (vi (y2.1.items.length : Int))), (51, c1 (vB (decide ((y2.1.items.length : Int) = 2)))), (52, c1 (vB (decide ((y2.1.items.length : Int) = 2)))), (53, c1 (vB (decide ((y2.1.items.length : Int) = 2))))] (by kernel_rfl) ?_
    refine partsD ((decide ((y2.1.items.length : Int) = 2))) (fun zz => [(51, c1 (vB zz)), (52, c1 (vB zz)), (53, c1 (vB zz))]) (by kernel_rfl) (fun hc10 => ?_) (fun hc10 => ?_)
    · replace hq := cond_t hc10 hq
      refine runDS 2 [(54, c1 (.ptr 1 0 3)), (55, c1 (vL flV y2.1.items))] (by kernel_rfl) ?_
      obtain ⟨x11, hx11, hq⟩ := bind_inv hq
      refine idxF flV (d := some 56) hx11 (by kernel_rfl) ?_
      refine runPS 5 [(56, c1 (.pv (.pp (flV.c x11 ++ flV.f (List.drop ((0 : Int).toNat + 1) y2.1.items))))), (57, c1 (.pv (.pp (List.drop 0 (flV.c x11 ++ flV.f (List.drop ((0 : Int).toNat + 1) y2.1.items)))))), (58, c1 (vi x11.kind)), (59, c1 (vB (decide (x11.kind = 2)))), (60, c1 (vB (decide (x11.kind = 2)))), (61, c1 (vB (decide (x11.kind = 2))))] (by kernel_rfl) ?_
      refine partsD ((decide (x11.kind = 2))) (fun zz => [(59, c1 (vB zz)), (60, c1 (vB zz)), (61, c1 (vB zz))]) (by kernel_rfl) (fun hc12 => ?_) (fun hc12 => ?_)
      · replace hq := cond_t hc12 hq
        refine runDS 2 [(62, c1 (.ptr 1 0 3)), (63, c1 (vL flV y2.1.items))] (by kernel_rfl) ?_
        obtain ⟨x13, hx13, hq⟩ := bind_inv hq
        refine idxF flV (d := some 64) hx13 (by kernel_rfl) ?_
        refine runPS 5 [(64, c1 (.pv (.pp (flV.c x13 ++ flV.f (List.drop ((0 : Int).toNat + 1) y2.1.items))))), (65, c1 (.pv (.pp (List.drop 1 (flV.c x13 ++ flV.f (List.drop ((0 : Int).toNat + 1) y2.1.items)))))), (66, c1 (vi x13.num)), (67, c1 (vB (decide (x13.num = 1)))), (68, c1 (vB (decide (x13.num = 1)))), (69, c1 (vB (decide (x13.num = 1))))] (by kernel_rfl) ?_
        refine partsD ((decide (x13.num = 1))) (fun zz => [(67, c1 (vB zz)), (68, c1 (vB zz)), (69, c1 (vB zz))]) (by kernel_rfl) (fun hc14 => ?_) (fun hc14 => ?_)
        · replace hq := cond_t hc14 hq
          refine runDS 4 [(70, c1 (vi y4.2)), (71, c1 (vB (decide (y4.2 = 6)))), (72, c1 (vB (decide (y4.2 = 6)))), (73, c1 (vB (decide (y4.2 = 6))))] (by kernel_rfl) ?_
          refine partsD ((decide (y4.2 = 6))) (fun zz => [(71, c1 (vB zz)), (72, c1 (vB zz)), (73, c1 (vB zz))]) (by kernel_rfl) (fun hc15 => ?_) (fun hc15 => ?_)
          · replace hq := cond_t hc15 hq
            refine runDS 4 [(74, c1 (vi y5.2)), (75, c1 (vB (decide (y5.2 = 0)))), (76, c1 (vB (decide (y5.2 = 0)))), (77, c1 (vB (decide (y5.2 = 0))))] (by kernel_rfl) ?_
            refine partsD ((decide (y5.2 = 0))) (fun zz => [(75, c1 (vB zz)), (76, c1 (vB zz)), (77, c1 (vB zz))]) (by kernel_rfl) (fun hc16 => ?_) (fun hc16 => ?_)
            · replace hq := cond_t hc16 hq
              refine runDS 5 [(78, c1 (.ptr 3 0 2)), (79, c1 (vS y5.1.str)), (80, c1 (vB (decide (y5.1.str = (⟨#[116, 114, 117, 101]⟩ : ByteArray))))), (81, c1 (vB (decide (y5.1.str = (⟨#[116, 114, 117, 101]⟩ : ByteArray))))), (82, c1 (vB (decide (y5.1.str = (⟨#[116, 114, 117, 101]⟩ : ByteArray)))))] (by kernel_rfl) ?_
              refine partsD ((decide (y5.1.str = (⟨#[116, 114, 117, 101]⟩ : ByteArray)))) (fun zz => [(80, c1 (vB zz)), (81, c1 (vB zz)), (82, c1 (vB zz))]) (by kernel_rfl) (fun hc17 => ?_) (fun hc17 => ?_)
              · replace hq := cond_t hc17 hq
                refine runDS 4 [(83, c1 (vi y7.2)), (84, c1 (vB (decide (y7.2 = 6)))), (85, c1 (vB (decide (y7.2 = 6)))), (86, c1 (vB (decide (y7.2 = 6))))] (by kernel_rfl) ?_
                refine partsD ((decide (y7.2 = 6))) (fun zz => [(84, c1 (vB zz)), (85, c1 (vB zz)), (86, c1 (vB zz))]) (by kernel_rfl) (fun hc18 => ?_) (fun hc18 => ?_)
                · replace hq := cond_t hc18 hq
                  refine lastKS (T' := sl 90 [(0, c1 (vB (decide (y8.2 = 6))))]) (by kernel_rfl) hR ?_
                  refine L_ret ?_
                  have h0 := Option.some.inj hq
                  obtain rfl := h0
                  exact end_ret (by kernel_rfl)
                · replace hq := cond_f hc18 hq
                  refine lastKS (T' := sl 90 [(0, c1 (vB false))]) (by kernel_rfl) hR ?_
                  refine L_ret ?_
                  have h0 := Option.some.inj hq
                  obtain rfl := h0
                  exact end_ret (by kernel_rfl)
              · replace hq := cond_f hc17 hq
                refine lastKS (T' := sl 90 [(0, c1 (vB false))]) (by kernel_rfl) hR ?_
                refine L_ret ?_
                have h0 := Option.some.inj hq
                obtain rfl := h0
                exact end_ret (by kernel_rfl)
            · replace hq := cond_f hc16 hq
              refine lastKS (T' := sl 90 [(0, c1 (vB false))]) (by kernel_rfl) hR ?_
              refine L_ret ?_
              have h0 := Option.some.inj hq
              obtain rfl := h0
              exact end_ret (by kernel_rfl)
          · replace hq := cond_f hc15 hq
            refine lastKS (T' := sl 90 [(0, c1 (vB false))]) (by kernel_rfl) hR ?_
            refine L_ret ?_
            have h0 := Option.some.inj hq
            obtain rfl := h0
            exact end_ret (by kernel_rfl)
        · replace hq := cond_f hc14 hq
          refine lastKS (T' := sl 90 [(0, c1 (vB false))]) (by kernel_rfl) hR ?_
          refine L_ret ?_
          have h0 := Option.some.inj hq
          obtain rfl := h0
          exact end_ret (by kernel_rfl)
      · replace hq := cond_f hc12 hq
        refine lastKS (T' := sl 90 [(0, c1 (vB false))]) (by kernel_rfl) hR ?_
        refine L_ret ?_
        have h0 := Option.some.inj hq
        obtain rfl := h0
        exact end_ret (by kernel_rfl)
    · replace hq := cond_f hc10 hq
      refine lastKS (T' := sl 90 [(0, c1 (vB false))]) (by kernel_rfl) hR ?_
      refine L_ret ?_
      have h0 := Option.some.inj hq
      obtain rfl := h0
      exact end_ret (by kernel_rfl)
  · replace hq := cond_f hc9 hq
    refine lastKS (T' := sl 90 [(0, c1 (vB false))]) (by kernel_rfl) hR ?_
    refine L_ret ?_
    have h0 := Option.some.inj hq
    obtain rfl := h0
    exact end_ret (by kernel_rfl)
noncomputable def g_r11_has_L1 (l_ : List ByteArray) (s_ : ByteArray) (s1 : Int) : Option ((Int) ⊕ (Bool)) :=
  bif (decide (s1 < (l_.length : Int))) then (idx l_ s1).bind fun x2 => bif (decide (x2 = s_)) then some (.inr (true)) else some (.inl (IntKind.i64.wrap (s1 + 1))) else some (.inr (false))
noncomputable def g_r11_has  (l_ : List ByteArray) (s_ : ByteArray) : Option (Bool) :=
  loopO (g_r11_has_L1 l_ s_) 0
theorem g_r11_has_ok (hb : Base E E0 G) (he : ∀ w, E w → EnvV w)   (l_ : List ByteArray) (s_ : ByteArray) (r_ : Bool) (hq : g_r11_has l_ s_ = some r_) :
    Pure E E0 Tryz.prog 64 [.cell (vL flS l_), .cell (vS s_)] (c1 (vB r_)) := by
  refine pure_L Tryz.func64 rfl ?_
  refine L_keepF [0, 1] (T' := sl 18 [(0, c1 (vL flS l_)), (1, c1 (vS s_))]) (by kernel_rfl) ?_
  refine L_seq ?_
  refine L_regS hb [0, 1] (T' := sl 18 [(0, c1 (vL flS l_)), (1, c1 (vS s_))]) (by kernel_rfl) ?_
  refine L_seq (L_seq ?_)
  refine L_regS hb [0, 1, 5] (T' := sl 18 [(0, c1 (vL flS l_)), (1, c1 (vS s_)), (5, c1 (vi 0))]) (by kernel_rfl) ?_
  refine L_block (fun K1 hA1 hB1 hC1 hD1 => ?_)
  refine L_backF [0, 1, 5] [] 0 (T' := sl 18 [(0, c1 (vL flS l_)), (1, c1 (vS s_)), (5, c1 (vi 0))]) (σ' := []) (by kernel_rfl) (by kernel_rfl) (by simp) (by kernel_rfl) trivial ?_
  refine L_as (by kernel_rfl) (by kernel_rfl) (L_loopO (body := (g_r11_has_L1 l_ s_)) (fun s1 => sl 18 [(0, c1 (vL flS l_)), (1, c1 (vS s_)), (5, c1 (vi s1))]) (fun s1 => []) (s0 := 0) (fun s1 x1 hq hn1 he1 => ?_) hq)
  refine L_seq (L_seq ?_)
  refine L_regS hb [0, 1, 5, 9] (T' := sl 18 [(0, c1 (vL flS l_)), (1, c1 (vS s_)), (5, c1 (vi s1)), (9, c1 (vB (decide (s1 < (l_.length : Int)))))]) (by kernel_rfl) ?_
  refine L_if hb (b := (decide (s1 < (l_.length : Int)))) (by kernel_rfl) (fun hc1 => ?_) (fun hc1 => ?_)
  · replace hq := cond_t hc1 hq
    refine L_skip (L_seq (L_block (fun K2 hA2 hB2 hC2 hD2 => (L_seq ?_))))
    refine L_regK hb [0, 1, 5, 17] (fun R hR => ?_)
    refine runDS 2 [(12, c1 (vL flS l_)), (13, c1 (vi s1))] (by kernel_rfl) ?_
    obtain ⟨x2, hx2, hq⟩ := bind_inv hq
    refine idxF flS (d := some 14) hx2 (by kernel_rfl) ?_
    refine lastKS (T' := sl 18 [(0, c1 (vL flS l_)), (1, c1 (vS s_)), (5, c1 (vi s1)), (17, c1 (vB (decide (x2 = s_))))]) (by kernel_rfl) hR ?_
    refine L_if hb (b := (decide (x2 = s_))) (by kernel_rfl) (fun hc3 => ?_) (fun hc3 => ?_)
    · replace hq := cond_t hc3 hq
      refine L_seq ?_
      refine L_regS hb [4] (T' := sl 18 [(4, c1 (vB true))]) (by kernel_rfl) ?_
      refine L_ret (hD2 _ _ (hD1 _ _ ?_))
      have h0 := (Option.some.inj hq).symm
      replace h0 := he1 _ h0
      obtain rfl := h0
      exact end_ret (by kernel_rfl)
    · replace hq := cond_f hc3 hq
      refine L_skip (L_nil (hA2 _ _ ?_))
      refine L_regS hb [0, 1, 5] (T' := sl 18 [(0, c1 (vL flS l_)), (1, c1 (vS s_)), (5, c1 (vi (IntKind.i64.wrap (s1 + 1))))]) (by kernel_rfl) ?_
      refine L_backF [0, 1, 5] [] 0 (T' := sl 18 [(0, c1 (vL flS l_)), (1, c1 (vS s_)), (5, c1 (vi (IntKind.i64.wrap (s1 + 1))))]) (σ' := []) (by kernel_rfl) (by kernel_rfl) (by simp) (by kernel_rfl) trivial ?_
      have h0 := (Option.some.inj hq).symm
      exact L_as (by kernel_rfl) (by kernel_rfl) (hn1 _ h0)
  · replace hq := cond_f hc1 hq
    refine L_exit (hB1 _ _ (L_seq ?_))
    refine L_regS hb [4] (T' := sl 18 [(4, c1 (vB false))]) (by kernel_rfl) ?_
    refine L_ret ?_
    have h0 := (Option.some.inj hq).symm
    replace h0 := he1 _ h0
    obtain rfl := h0
    exact end_ret (by kernel_rfl)
noncomputable def g_r07_Get_L1 (v_ : Val) (key_ : ByteArray) (s1 : Int) : Option ((Int) ⊕ (Val × Bool)) :=
  bif (decide (s1 < (v_.keys.length : Int))) then bif (decide (s1 < (v_.items.length : Int))) then (idx v_.keys s1).bind fun x4 => bif (decide (x4 = key_)) then (idx v_.items s1).bind fun x6 => some (.inr (x6, true)) else some (.inl (IntKind.i64.wrap (s1 + 1))) else some (.inr ((Val.mk 0 0 eS [] []), false)) else some (.inr ((Val.mk 0 0 eS [] []), false))
noncomputable def g_r07_Get  (v_ : Val) (key_ : ByteArray) : Option (Val × Bool) :=
  bif (!decide (v_.kind = 5)) then some ((Val.mk 0 0 eS [] []), false) else loopO (g_r07_Get_L1 v_ key_) 0
theorem g_r07_Get_ok (hb : Base E E0 G) (he : ∀ w, E w → EnvV w)   (v_ : Val) (key_ : ByteArray) (r_ : Val × Bool) (hq : g_r07_Get v_ key_ = some r_) :
    Pure E E0 Tryz.prog 65 [.agg (aV v_), .cell (vS key_)] (.tup [.agg (aV r_.1), .cell (vB r_.2)]) := by
  refine pure_L Tryz.func65 rfl ?_
  refine L_keepF [0, 1] (T' := sl 38 [(0, .one (.agg (aV v_))), (1, c1 (vS key_))]) (by kernel_rfl) ?_
  refine L_seq ?_
  refine L_regF hb [1, 2, 4] (T' := sl 38 [(1, c1 (vS key_)), (2, pt 0), (4, pt 1)]) (σ' := [bx (aV v_), bx zV]) (by kernel_rfl) ?_
  refine L_seq (L_seq ?_)
  refine L_regS hb [1, 2, 4, 9] (T' := sl 38 [(1, c1 (vS key_)), (2, pt 0), (4, pt 1), (9, c1 (vB (!decide (v_.kind = 5))))]) (by kernel_rfl) ?_
  refine L_if hb (b := (!decide (v_.kind = 5))) (by kernel_rfl) (fun hc1 => ?_) (fun hc1 => ?_)
  · replace hq := cond_t hc1 hq
    refine L_seq ?_
    refine L_regS hb [4, 5] (T' := sl 38 [(4, pt 1), (5, c1 (vB false))]) (by kernel_rfl) ?_
    refine L_ret ?_
    have h0 := Option.some.inj hq
    obtain rfl := h0
    exact end_ret (by kernel_rfl)
  · replace hq := cond_f hc1 hq
    refine L_skip (L_seq (L_seq ?_))
    refine L_regS hb [1, 2, 4, 6] (T' := sl 38 [(1, c1 (vS key_)), (2, pt 0), (4, pt 1), (6, c1 (vi 0))]) (by kernel_rfl) ?_
    refine L_block (fun K1 hA1 hB1 hC1 hD1 => ?_)
    refine L_backF [1, 2, 4, 6] [] 2 (T' := sl 38 [(1, c1 (vS key_)), (2, pt 0), (4, pt 1), (6, c1 (vi 0))]) (σ' := [bx (aV v_), bx zV]) (by kernel_rfl) (by kernel_rfl) (by simp) (by kernel_rfl) ⟨(by kernel_rfl), (by kernel_rfl), trivial⟩ ?_
    refine L_as (by kernel_rfl) (by kernel_rfl) (L_loopO (body := (g_r07_Get_L1 v_ key_)) (fun s1 => sl 38 [(1, c1 (vS key_)), (2, pt 0), (4, pt 1), (6, c1 (vi s1))]) (fun s1 => [bx (aV v_), bx zV]) (s0 := 0) (fun s1 x1 hq hn1 he1 => ?_) hq)
    refine L_seq (L_seq ?_)
    refine L_regK hb [1, 2, 4, 6, 22] (fun R hR => ?_)
    refine runDS 6 [(11, c1 (vi s1)), (12, c1 (.ptr 0 0 4)), (13, c1 (vL flS v_.keys)), (14, c1 (vi (v_.keys.length : Int))), (15, c1 (vB (decide (s1 < (v_.keys.length : Int))))), (16, c1 (vB (decide (s1 < (v_.keys.length : Int)))))] (by kernel_rfl) ?_
    refine partsD ((decide (s1 < (v_.keys.length : Int)))) (fun zz => [(15, c1 (vB zz)), (16, c1 (vB zz))]) (by kernel_rfl) (fun hc2 => ?_) (fun hc2 => ?_)
    · replace hq := cond_t hc2 hq
      refine lastKS (T' := sl 38 [(1, c1 (vS key_)), (2, pt 0), (4, pt 1), (6, c1 (vi s1)), (22, c1 (vB (decide (s1 < (v_.items.length : Int)))))]) (by kernel_rfl) hR ?_
      refine L_if hb (b := (decide (s1 < (v_.items.length : Int)))) (by kernel_rfl) (fun hc3 => ?_) (fun hc3 => ?_)
      · replace hq := cond_t hc3 hq
        refine L_skip (L_seq (L_block (fun K2 hA2 hB2 hC2 hD2 => (L_seq ?_))))
        refine L_regK hb [1, 2, 4, 6, 31] (fun R hR => ?_)
        refine runDS 3 [(25, c1 (.ptr 0 0 4)), (26, c1 (vL flS v_.keys)), (27, c1 (vi s1))] (by kernel_rfl) ?_
        obtain ⟨x4, hx4, hq⟩ := bind_inv hq
        refine idxF flS (d := some 28) hx4 (by kernel_rfl) ?_
        refine lastKS (T' := sl 38 [(1, c1 (vS key_)), (2, pt 0), (4, pt 1), (6, c1 (vi s1)), (31, c1 (vB (decide (x4 = key_))))]) (by kernel_rfl) hR ?_
        refine L_if hb (b := (decide (x4 = key_))) (by kernel_rfl) (fun hc5 => ?_) (fun hc5 => ?_)
        · replace hq := cond_t hc5 hq
          refine L_seq ?_
          refine L_regK hb [4, 5] (fun R hR => ?_)
          refine runDS 3 [(32, c1 (.ptr 0 0 3)), (33, c1 (vL flV v_.items)), (34, c1 (vi s1))] (by kernel_rfl) ?_
          obtain ⟨x6, hx6, hq⟩ := bind_inv hq
          refine idxF flV (d := some 35) hx6 (by kernel_rfl) ?_
          refine lastK (T' := sl 38 [(4, pt 1), (5, c1 (vB true))]) (σ' := [bx (aV v_), bx (aV x6)]) (by kernel_rfl) hR ?_
          refine L_ret (hD2 _ _ (hD1 _ _ ?_))
          have h0 := (Option.some.inj hq).symm
          replace h0 := he1 _ h0
          obtain rfl := h0
          exact end_ret (by kernel_rfl)
        · replace hq := cond_f hc5 hq
          refine L_skip (L_nil (hA2 _ _ ?_))
          refine L_regS hb [1, 2, 4, 6] (T' := sl 38 [(1, c1 (vS key_)), (2, pt 0), (4, pt 1), (6, c1 (vi (IntKind.i64.wrap (s1 + 1))))]) (by kernel_rfl) ?_
          refine L_backF [1, 2, 4, 6] [] 2 (T' := sl 38 [(1, c1 (vS key_)), (2, pt 0), (4, pt 1), (6, c1 (vi (IntKind.i64.wrap (s1 + 1))))]) (σ' := [bx (aV v_), bx zV]) (by kernel_rfl) (by kernel_rfl) (by simp) (by kernel_rfl) ⟨(by kernel_rfl), (by kernel_rfl), trivial⟩ ?_
          have h0 := (Option.some.inj hq).symm
          exact L_as (by kernel_rfl) (by kernel_rfl) (hn1 _ h0)
      · replace hq := cond_f hc3 hq
        refine L_exit (hB1 _ _ (L_seq ?_))
        refine L_regS hb [4, 5] (T' := sl 38 [(4, pt 1), (5, c1 (vB false))]) (by kernel_rfl) ?_
        refine L_ret ?_
        have h0 := (Option.some.inj hq).symm
        replace h0 := he1 _ h0
        obtain rfl := h0
        exact end_ret (by kernel_rfl)
    · replace hq := cond_f hc2 hq
      refine lastKS (T' := sl 38 [(1, c1 (vS key_)), (2, pt 0), (4, pt 1), (6, c1 (vi s1)), (22, c1 (vB false))]) (by kernel_rfl) hR ?_
      refine L_false hb (by kernel_rfl) (L_exit (hB1 _ _ (L_seq ?_)))
      refine L_regS hb [4, 5] (T' := sl 38 [(4, pt 1), (5, c1 (vB false))]) (by kernel_rfl) ?_
      refine L_ret ?_
      have h0 := (Option.some.inj hq).symm
      replace h0 := he1 _ h0
      obtain rfl := h0
      exact end_ret (by kernel_rfl)
noncomputable def g_r11_word  (v_ : Val) : Option (ByteArray) :=
  bif (decide (v_.kind = 2)) then (m_format v_.num).bind fun y2 => some (y2) else bif (decide (v_.num = 1)) then some (⟨#[116, 114, 117, 101]⟩ : ByteArray) else some (⟨#[102, 97, 108, 115, 101]⟩ : ByteArray)
theorem g_r11_word_ok (hb : Base E E0 G) (he : ∀ w, E w → EnvV w)   (v_ : Val) (r_ : ByteArray) (hq : g_r11_word v_ = some r_) :
    Pure E E0 Tryz.prog 67 [.agg (aV v_)] (c1 (vS r_)) := by
  refine pure_L Tryz.func67 rfl ?_
  refine L_keepF [0] (T' := sl 12 [(0, .one (.agg (aV v_)))]) (by kernel_rfl) ?_
  refine L_seq ?_
  refine L_regF hb [1] (T' := sl 12 [(1, pt 0)]) (σ' := [bx (aV v_)]) (by kernel_rfl) ?_
  refine L_seq (L_seq ?_)
  refine L_regS hb [1, 5] (T' := sl 12 [(1, pt 0), (5, c1 (vB (decide (v_.kind = 2))))]) (by kernel_rfl) ?_
  refine L_if hb (b := (decide (v_.kind = 2))) (by kernel_rfl) (fun hc1 => ?_) (fun hc1 => ?_)
  · replace hq := cond_t hc1 hq
    refine L_seq ?_
    refine L_regK hb [2] (fun R hR => ?_)
    refine runDS 2 [(6, c1 (.ptr 0 0 1)), (7, c1 (vi v_.num))] (by kernel_rfl) ?_
    obtain ⟨y2, hy2, hq⟩ := bind_inv hq
    refine callF (d := some 8) (by kernel_rfl) (rFormat_g hb he v_.num y2 hy2) ?_
    refine lastKS (T' := sl 12 [(2, c1 (vS y2))]) (by kernel_rfl) hR ?_
    refine L_ret ?_
    have h0 := Option.some.inj hq
    obtain rfl := h0
    exact end_ret (by kernel_rfl)
  · replace hq := cond_f hc1 hq
    refine L_skip (L_seq (L_seq ?_))
    refine L_regS hb [11] (T' := sl 12 [(11, c1 (vB (decide (v_.num = 1))))]) (by kernel_rfl) ?_
    refine L_if hb (b := (decide (v_.num = 1))) (by kernel_rfl) (fun hc3 => ?_) (fun hc3 => ?_)
    · replace hq := cond_t hc3 hq
      refine L_seq ?_
      refine L_regS hb [2] (T' := sl 12 [(2, c1 (vS (⟨#[116, 114, 117, 101]⟩ : ByteArray)))]) (by kernel_rfl) ?_
      refine L_ret ?_
      have h0 := Option.some.inj hq
      obtain rfl := h0
      exact end_ret (by kernel_rfl)
    · replace hq := cond_f hc3 hq
      refine L_skip (L_seq ?_)
      refine L_regS hb [2] (T' := sl 12 [(2, c1 (vS (⟨#[102, 97, 108, 115, 101]⟩ : ByteArray)))]) (by kernel_rfl) ?_
      refine L_ret ?_
      have h0 := Option.some.inj hq
      obtain rfl := h0
      exact end_ret (by kernel_rfl)
noncomputable def g_r11_simple  (v_ : Val) (k_ : Int) : Option (Val × Int) :=
  bif (decide (k_ = 1)) then bif (decide (v_.kind = 1)) then some (v_, 0) else bif (decide (v_.kind = 3)) then bif (decide (v_.str = (⟨#[116, 114, 117, 101]⟩ : ByteArray))) then some ((Val.mk 1 1 eS [] []), 0) else bif (decide (v_.str = (⟨#[102, 97, 108, 115, 101]⟩ : ByteArray))) then some ((Val.mk 1 0 eS [] []), 0) else some ((Val.mk 0 0 eS [] []), 6) else some ((Val.mk 0 0 eS [] []), 6) else bif (decide (k_ = 2)) then bif (decide (v_.kind = 2)) then some (v_, 0) else (m_parse v_.str).bind fun y8 => bif (decide (v_.kind = 3)) then bif (decide (y8.2 = 0)) then some ((Val.mk 2 y8.1 eS [] []), 0) else some ((Val.mk 0 0 eS [] []), 6) else some ((Val.mk 0 0 eS [] []), 6) else bif (decide (v_.kind = 3)) then some (v_, 0) else bif (decide (v_.kind = 2)) then (g_r11_word v_).bind fun y13 => some ((Val.mk 3 0 y13 [] []), 0) else bif (decide (v_.kind = 1)) then (g_r11_word v_).bind fun y15 => some ((Val.mk 3 0 y15 [] []), 0) else some ((Val.mk 0 0 eS [] []), 6)
theorem g_r11_simple_ok (hb : Base E E0 G) (he : ∀ w, E w → EnvV w)   (v_ : Val) (k_ : Int) (r_ : Val × Int) (hq : g_r11_simple v_ k_ = some r_) :
    Pure E E0 Tryz.prog 44 [.agg (aV v_), .cell (vi k_)] (.tup [.agg (aV r_.1), .cell (vi r_.2)]) := by
  refine pure_L Tryz.func44 rfl ?_
  refine L_keepF [0, 1] (T' := sl 72 [(0, .one (.agg (aV v_))), (1, c1 (vi k_))]) (by kernel_rfl) ?_
  refine L_seq ?_
  refine L_regF hb [1, 2, 4] (T' := sl 72 [(1, c1 (vi k_)), (2, pt 0), (4, pt 1)]) (σ' := [bx (aV v_), bx zV]) (by kernel_rfl) ?_
  refine L_seq (L_seq ?_)
  refine L_regS hb [2, 4, 9] (T' := sl 72 [(2, pt 0), (4, pt 1), (9, c1 (vi k_))]) (by kernel_rfl) ?_
  refine L_block (fun K1 hA1 hB1 hC1 hD1 => (L_seq ?_))
  refine L_regS hb [2, 4, 9, 25] (T' := sl 72 [(2, pt 0), (4, pt 1), (9, c1 (vi k_)), (25, c1 (vB (decide (k_ = 1))))]) (by kernel_rfl) ?_
  refine L_if hb (b := (decide (k_ = 1))) (by kernel_rfl) (fun hc1 => ?_) (fun hc1 => ?_)
  · replace hq := cond_t hc1 hq
    refine L_seq (L_seq ?_)
    refine L_regS hb [2, 4, 29] (T' := sl 72 [(2, pt 0), (4, pt 1), (29, c1 (vB (decide (v_.kind = 1))))]) (by kernel_rfl) ?_
    refine L_if hb (b := (decide (v_.kind = 1))) (by kernel_rfl) (fun hc2 => ?_) (fun hc2 => ?_)
    · replace hq := cond_t hc2 hq
      refine L_seq ?_
      refine L_regF hb [4, 5] (T' := sl 72 [(4, pt 1), (5, c1 (vi 0))]) (σ' := [bx (aV v_), bx (aV v_)]) (by kernel_rfl) ?_
      refine L_ret (hD1 _ _ ?_)
      have h0 := Option.some.inj hq
      obtain rfl := h0
      exact end_ret (by kernel_rfl)
    · replace hq := cond_f hc2 hq
      refine L_skip (L_seq ?_)
      refine L_regK hb [2, 4, 43] (fun R hR => ?_)
      refine runDS 4 [(31, pt 0), (32, c1 (vi v_.kind)), (33, c1 (vB (decide (v_.kind = 3)))), (34, c1 (vB (decide (v_.kind = 3))))] (by kernel_rfl) ?_
      refine partsD ((decide (v_.kind = 3))) (fun zz => [(33, c1 (vB zz)), (34, c1 (vB zz))]) (by kernel_rfl) (fun hc3 => ?_) (fun hc3 => ?_)
      · replace hq := cond_t hc3 hq
        refine runDS 4 [(35, c1 (.ptr 0 0 2)), (36, c1 (vS v_.str)), (37, c1 (vB (decide (v_.str = (⟨#[116, 114, 117, 101]⟩ : ByteArray))))), (38, c1 (vB (decide (v_.str = (⟨#[116, 114, 117, 101]⟩ : ByteArray)))))] (by kernel_rfl) ?_
        refine partsD ((decide (v_.str = (⟨#[116, 114, 117, 101]⟩ : ByteArray)))) (fun zz => [(37, c1 (vB zz)), (38, c1 (vB zz))]) (by kernel_rfl) (fun hc4 => ?_) (fun hc4 => ?_)
        · replace hq := cond_t hc4 hq
          refine lastKS (T' := sl 72 [(2, pt 0), (4, pt 1), (43, c1 (vB true))]) (by kernel_rfl) hR ?_
          refine L_true hb (by kernel_rfl) (L_seq ?_)
          refine L_regF hb [2, 4, 6] (T' := sl 72 [(2, pt 0), (4, pt 1), (6, pt 2)]) (σ' := [bx (aV v_), bx zV, bx [vi 1, vi 0, vS eS, vN, vN]]) (by kernel_rfl) ?_
          refine L_seq (L_seq ?_)
          refine L_regS hb [4, 6, 47] (T' := sl 72 [(4, pt 1), (6, pt 2), (47, c1 (vB (decide (v_.str = (⟨#[116, 114, 117, 101]⟩ : ByteArray)))))]) (by kernel_rfl) ?_
          refine L_ifT hb (b := (decide (v_.str = (⟨#[116, 114, 117, 101]⟩ : ByteArray)))) (by kernel_rfl) hc4 ?_
          refine L_regF hb [4, 6] (T' := sl 72 [(4, pt 1), (6, pt 2)]) (σ' := [bx (aV v_), bx zV, bx [vi 1, vi 1, vS eS, vN, vN]]) (by kernel_rfl) ?_
          refine L_seq ?_
          refine L_regF hb [4, 5] (T' := sl 72 [(4, pt 1), (5, c1 (vi 0))]) (σ' := [bx (aV v_), bx [vi 1, vi 1, vS eS, vN, vN], bx [vi 1, vi 1, vS eS, vN, vN]]) (by kernel_rfl) ?_
          refine L_ret (hD1 _ _ ?_)
          have h0 := Option.some.inj hq
          obtain rfl := h0
          exact end_ret (by kernel_rfl)
        · replace hq := cond_f hc4 hq
          refine lastKS (T' := sl 72 [(2, pt 0), (4, pt 1), (43, c1 (vB (decide (v_.str = (⟨#[102, 97, 108, 115, 101]⟩ : ByteArray)))))]) (by kernel_rfl) hR ?_
          refine L_if hb (b := (decide (v_.str = (⟨#[102, 97, 108, 115, 101]⟩ : ByteArray)))) (by kernel_rfl) (fun hc5 => ?_) (fun hc5 => ?_)
          · replace hq := cond_t hc5 hq
            refine L_seq ?_
            refine L_regF hb [2, 4, 6] (T' := sl 72 [(2, pt 0), (4, pt 1), (6, pt 2)]) (σ' := [bx (aV v_), bx zV, bx [vi 1, vi 0, vS eS, vN, vN]]) (by kernel_rfl) ?_
            refine L_seq (L_seq ?_)
            refine L_regS hb [4, 6, 47] (T' := sl 72 [(4, pt 1), (6, pt 2), (47, c1 (vB (decide (v_.str = (⟨#[116, 114, 117, 101]⟩ : ByteArray)))))]) (by kernel_rfl) ?_
            refine L_ifF hb (b := (decide (v_.str = (⟨#[116, 114, 117, 101]⟩ : ByteArray)))) (by kernel_rfl) hc4 ?_
            refine L_skip (L_seq ?_)
            refine L_regF hb [4, 5] (T' := sl 72 [(4, pt 1), (5, c1 (vi 0))]) (σ' := [bx (aV v_), bx [vi 1, vi 0, vS eS, vN, vN], bx [vi 1, vi 0, vS eS, vN, vN]]) (by kernel_rfl) ?_
            refine L_ret (hD1 _ _ ?_)
            have h0 := Option.some.inj hq
            obtain rfl := h0
            exact end_ret (by kernel_rfl)
          · replace hq := cond_f hc5 hq
            refine L_skip (L_nil (hA1 _ _ (L_seq ?_)))
            refine L_regS hb [4, 5] (T' := sl 72 [(4, pt 1), (5, c1 (vi 6))]) (by kernel_rfl) ?_
            refine L_ret ?_
            have h0 := Option.some.inj hq
            obtain rfl := h0
            exact end_ret (by kernel_rfl)
      · replace hq := cond_f hc3 hq
        refine lastKS (T' := sl 72 [(2, pt 0), (4, pt 1), (43, c1 (vB false))]) (by kernel_rfl) hR ?_
        refine L_false hb (by kernel_rfl) (L_skip (L_nil (hA1 _ _ (L_seq ?_))))
        refine L_regS hb [4, 5] (T' := sl 72 [(4, pt 1), (5, c1 (vi 6))]) (by kernel_rfl) ?_
        refine L_ret ?_
        have h0 := Option.some.inj hq
        obtain rfl := h0
        exact end_ret (by kernel_rfl)
  · replace hq := cond_f hc1 hq
    refine L_seq ?_
    refine L_regS hb [2, 4, 50] (T' := sl 72 [(2, pt 0), (4, pt 1), (50, c1 (vB (decide (k_ = 2))))]) (by kernel_rfl) ?_
    refine L_if hb (b := (decide (k_ = 2))) (by kernel_rfl) (fun hc6 => ?_) (fun hc6 => ?_)
    · replace hq := cond_t hc6 hq
      refine L_seq (L_seq ?_)
      refine L_regS hb [2, 4, 54] (T' := sl 72 [(2, pt 0), (4, pt 1), (54, c1 (vB (decide (v_.kind = 2))))]) (by kernel_rfl) ?_
      refine L_if hb (b := (decide (v_.kind = 2))) (by kernel_rfl) (fun hc7 => ?_) (fun hc7 => ?_)
      · replace hq := cond_t hc7 hq
        refine L_seq ?_
        refine L_regF hb [4, 5] (T' := sl 72 [(4, pt 1), (5, c1 (vi 0))]) (σ' := [bx (aV v_), bx (aV v_)]) (by kernel_rfl) ?_
        refine L_ret (hD1 _ _ ?_)
        have h0 := Option.some.inj hq
        obtain rfl := h0
        exact end_ret (by kernel_rfl)
      · replace hq := cond_f hc7 hq
        refine L_skip (L_seq ?_)
        refine L_regK hb [2, 4, 7, 8] (fun R hR => ?_)
        refine runDS 2 [(57, c1 (.ptr 0 0 2)), (58, c1 (vS v_.str))] (by kernel_rfl) ?_
        obtain ⟨y8, hy8, hq⟩ := bind_inv hq
        refine callF (d := some 59) (by kernel_rfl) (rParse_g hb he v_.str y8 hy8) ?_
        refine lastKS (T' := sl 72 [(2, pt 0), (4, pt 1), (7, c1 (vi y8.1)), (8, c1 (vi y8.2))]) (by kernel_rfl) hR ?_
        refine L_seq ?_
        refine L_regK hb [4, 7, 68] (fun R hR => ?_)
        refine runDS 4 [(62, pt 0), (63, c1 (vi v_.kind)), (64, c1 (vB (decide (v_.kind = 3)))), (65, c1 (vB (decide (v_.kind = 3))))] (by kernel_rfl) ?_
        refine partsD ((decide (v_.kind = 3))) (fun zz => [(64, c1 (vB zz)), (65, c1 (vB zz))]) (by kernel_rfl) (fun hc9 => ?_) (fun hc9 => ?_)
        · replace hq := cond_t hc9 hq
          refine lastKS (T' := sl 72 [(4, pt 1), (7, c1 (vi y8.1)), (68, c1 (vB (decide (y8.2 = 0))))]) (by kernel_rfl) hR ?_
          refine L_if hb (b := (decide (y8.2 = 0))) (by kernel_rfl) (fun hc10 => ?_) (fun hc10 => ?_)
          · replace hq := cond_t hc10 hq
            refine L_seq ?_
            refine L_regF hb [4, 5] (T' := sl 72 [(4, pt 1), (5, c1 (vi 0))]) (σ' := [bx (aV v_), bx [vi 2, vi y8.1, vS eS, vN, vN]]) (by kernel_rfl) ?_
            refine L_ret (hD1 _ _ ?_)
            have h0 := Option.some.inj hq
            obtain rfl := h0
            exact end_ret (by kernel_rfl)
          · replace hq := cond_f hc10 hq
            refine L_skip (L_nil (hA1 _ _ (L_seq ?_)))
            refine L_regS hb [4, 5] (T' := sl 72 [(4, pt 1), (5, c1 (vi 6))]) (by kernel_rfl) ?_
            refine L_ret ?_
            have h0 := Option.some.inj hq
            obtain rfl := h0
            exact end_ret (by kernel_rfl)
        · replace hq := cond_f hc9 hq
          refine lastKS (T' := sl 72 [(4, pt 1), (7, c1 (vi y8.1)), (68, c1 (vB false))]) (by kernel_rfl) hR ?_
          refine L_false hb (by kernel_rfl) (L_skip (L_nil (hA1 _ _ (L_seq ?_))))
          refine L_regS hb [4, 5] (T' := sl 72 [(4, pt 1), (5, c1 (vi 6))]) (by kernel_rfl) ?_
          refine L_ret ?_
          have h0 := Option.some.inj hq
          obtain rfl := h0
          exact end_ret (by kernel_rfl)
    · replace hq := cond_f hc6 hq
      refine L_seq (L_seq ?_)
      refine L_regS hb [2, 4, 12] (T' := sl 72 [(2, pt 0), (4, pt 1), (12, c1 (vB (decide (v_.kind = 3))))]) (by kernel_rfl) ?_
      refine L_if hb (b := (decide (v_.kind = 3))) (by kernel_rfl) (fun hc11 => ?_) (fun hc11 => ?_)
      · replace hq := cond_t hc11 hq
        refine L_seq ?_
        refine L_regF hb [4, 5] (T' := sl 72 [(4, pt 1), (5, c1 (vi 0))]) (σ' := [bx (aV v_), bx (aV v_)]) (by kernel_rfl) ?_
        refine L_ret (hD1 _ _ ?_)
        have h0 := Option.some.inj hq
        obtain rfl := h0
        exact end_ret (by kernel_rfl)
      · replace hq := cond_f hc11 hq
        refine L_skip (L_seq ?_)
        refine L_regK hb [2, 4, 21] (fun R hR => ?_)
        refine runDS 4 [(14, pt 0), (15, c1 (vi v_.kind)), (16, c1 (vB (decide (v_.kind = 2)))), (17, c1 (vB (decide (v_.kind = 2))))] (by kernel_rfl) ?_
        refine partsD ((decide (v_.kind = 2))) (fun zz => [(16, c1 (vB zz)), (17, c1 (vB zz))]) (by kernel_rfl) (fun hc12 => ?_) (fun hc12 => ?_)
        · replace hq := cond_t hc12 hq
          refine lastKS (T' := sl 72 [(2, pt 0), (4, pt 1), (21, c1 (vB true))]) (by kernel_rfl) hR ?_
          refine L_true hb (by kernel_rfl) (L_seq ?_)
          refine L_regK hb [4, 5] (fun R hR => ?_)
          refine runDS 1 [(22, .one (.agg (aV v_)))] (by kernel_rfl) ?_
          obtain ⟨y13, hy13, hq⟩ := bind_inv hq
          refine callF (d := some 23) (by kernel_rfl) (g_r11_word_ok hb he v_ y13 hy13) ?_
          refine lastK (T' := sl 72 [(4, pt 1), (5, c1 (vi 0))]) (σ' := [bx (aV v_), bx [vi 3, vi 0, vS y13, vN, vN]]) (by kernel_rfl) hR ?_
          refine L_ret (hD1 _ _ ?_)
          have h0 := Option.some.inj hq
          obtain rfl := h0
          exact end_ret (by kernel_rfl)
        · replace hq := cond_f hc12 hq
          refine lastKS (T' := sl 72 [(2, pt 0), (4, pt 1), (21, c1 (vB (decide (v_.kind = 1))))]) (by kernel_rfl) hR ?_
          refine L_if hb (b := (decide (v_.kind = 1))) (by kernel_rfl) (fun hc14 => ?_) (fun hc14 => ?_)
          · replace hq := cond_t hc14 hq
            refine L_seq ?_
            refine L_regK hb [4, 5] (fun R hR => ?_)
            refine runDS 1 [(22, .one (.agg (aV v_)))] (by kernel_rfl) ?_
            obtain ⟨y15, hy15, hq⟩ := bind_inv hq
            refine callF (d := some 23) (by kernel_rfl) (g_r11_word_ok hb he v_ y15 hy15) ?_
            refine lastK (T' := sl 72 [(4, pt 1), (5, c1 (vi 0))]) (σ' := [bx (aV v_), bx [vi 3, vi 0, vS y15, vN, vN]]) (by kernel_rfl) hR ?_
            refine L_ret (hD1 _ _ ?_)
            have h0 := Option.some.inj hq
            obtain rfl := h0
            exact end_ret (by kernel_rfl)
          · replace hq := cond_f hc14 hq
            refine L_skip (L_nil (hA1 _ _ (L_seq ?_)))
            refine L_regS hb [4, 5] (T' := sl 72 [(4, pt 1), (5, c1 (vi 6))]) (by kernel_rfl) ?_
            refine L_ret ?_
            have h0 := Option.some.inj hq
            obtain rfl := h0
            exact end_ret (by kernel_rfl)
noncomputable def g_r11_object_L2 (r_r11_to : Val → Ty → Option (Val × Int)) (v_ : Val) (t_ : Ty) (s2 : Int × List Val × List ByteArray) : Option ((Int × List Val × List ByteArray) ⊕ ((Int) ⊕ (Val × Int))) :=
  bif (decide (s2.1 < (t_.names.length : Int))) then bif (decide (s2.1 < (t_.elems.length : Int))) then (idx t_.names s2.1).bind fun x7 => (g_r07_Get v_ x7).bind fun y8 => (idx t_.elems s2.1).bind fun x9 => (r_r11_to y8.1 x9).bind fun y10 => bif (!decide (y10.2 = 0)) then some (.inr (.inr ((Val.mk 0 0 eS [] []), y10.2))) else (idx t_.names s2.1).bind fun x12 => (app 16 s2.2.2 [x12]).bind fun l13 => (app 80 s2.2.1 [y10.1]).bind fun l14 => some (.inl ((IntKind.i64.wrap (s2.1 + 1)), l14, l13)) else some (.inr (.inr ((Val.mk 5 0 eS s2.2.1 s2.2.2), 0))) else some (.inr (.inr ((Val.mk 5 0 eS s2.2.1 s2.2.2), 0)))
noncomputable def g_r11_object_L1 (r_r11_to : Val → Ty → Option (Val × Int)) (v_ : Val) (t_ : Ty) (s1 : Int) : Option ((Int) ⊕ (Val × Int)) :=
  bif (decide (s1 < (v_.keys.length : Int))) then (idx v_.keys s1).bind fun x2 => (g_r11_has t_.names x2).bind fun y3 => bif (!y3) then some (.inr ((Val.mk 0 0 eS [] []), 13)) else some (.inl (IntKind.i64.wrap (s1 + 1))) else loopO (g_r11_object_L2 r_r11_to v_ t_) (0, [], [])
noncomputable def g_r11_object (r_r11_to : Val → Ty → Option (Val × Int)) (v_ : Val) (t_ : Ty) : Option (Val × Int) :=
  loopO (g_r11_object_L1 r_r11_to v_ t_) 0
theorem g_r11_object_ok (hb : Base E E0 G) (he : ∀ w, E w → EnvV w) (r_r11_to : Val → Ty → Option (Val × Int)) (hr_r11_to : ∀ (a0 : Val) (a1 : Ty) (r : Val × Int), r_r11_to a0 a1 = some r → Pure E E0 Tryz.prog 25 [.agg (aV a0), .agg (aT a1)] (.tup [.agg (aV r.1), .cell (vi r.2)])) (v_ : Val) (t_ : Ty) (r_ : Val × Int) (hq : g_r11_object r_r11_to v_ t_ = some r_) :
    Pure E E0 Tryz.prog 43 [.agg (aV v_), .agg (aT t_)] (.tup [.agg (aV r_.1), .cell (vi r_.2)]) := by
  refine pure_L Tryz.func43 rfl ?_
  refine L_keepF [0, 1] (T' := sl 86 [(0, .one (.agg (aV v_))), (1, .one (.agg (aT t_)))]) (by kernel_rfl) ?_
  refine L_seq ?_
  refine L_regF hb [2, 3, 4] (T' := sl 86 [(2, pt 0), (3, pt 1), (4, pt 2)]) (σ' := [bx (aV v_), bx (aT t_), bx zV]) (by kernel_rfl) ?_
  refine L_seq (L_seq ?_)
  refine L_regS hb [2, 3, 4, 6] (T' := sl 86 [(2, pt 0), (3, pt 1), (4, pt 2), (6, c1 (vi 0))]) (by kernel_rfl) ?_
  refine L_block (fun K1 hA1 hB1 hC1 hD1 => ?_)
  refine L_backF [2, 3, 4, 6] [] 3 (T' := sl 86 [(2, pt 0), (3, pt 1), (4, pt 2), (6, c1 (vi 0))]) (σ' := [bx (aV v_), bx (aT t_), bx zV]) (by kernel_rfl) (by kernel_rfl) (by simp) (by kernel_rfl) ⟨(by kernel_rfl), (by kernel_rfl), (by kernel_rfl), trivial⟩ ?_
  refine L_as (by kernel_rfl) (by kernel_rfl) (L_loopO (body := (g_r11_object_L1 r_r11_to v_ t_)) (fun s1 => sl 86 [(2, pt 0), (3, pt 1), (4, pt 2), (6, c1 (vi s1))]) (fun s1 => [bx (aV v_), bx (aT t_), bx zV]) (s0 := 0) (fun s1 x1 hq hn1 he1 => ?_) hq)
  refine L_seq (L_seq ?_)
  refine L_regS hb [2, 3, 4, 6, 17] (T' := sl 86 [(2, pt 0), (3, pt 1), (4, pt 2), (6, c1 (vi s1)), (17, c1 (vB (decide (s1 < (v_.keys.length : Int)))))]) (by kernel_rfl) ?_
  refine L_if hb (b := (decide (s1 < (v_.keys.length : Int)))) (by kernel_rfl) (fun hc1 => ?_) (fun hc1 => ?_)
  · replace hq := cond_t hc1 hq
    refine L_skip (L_seq (L_block (fun K2 hA2 hB2 hC2 hD2 => (L_seq ?_))))
    refine L_drwK hb mixed [2, 3, 4, 6, 28] 7 (by kernel_rfl) (by kernel_rfl) (fun R hR => ?_)
    refine runDS 5 [(20, c1 (.ptr 1 0 2)), (21, c1 (vL flS t_.names)), (22, c1 (.ptr 0 0 4)), (23, c1 (vL flS v_.keys)), (24, c1 (vi s1))] (by kernel_rfl) ?_
    obtain ⟨x2, hx2, hq⟩ := bind_inv hq
    refine idxF flS (d := some 25) hx2 (by kernel_rfl) ?_
    refine lastFS (T' := sl 86 [(2, pt 0), (3, pt 1), (4, pt 2), (6, c1 (vi s1)), (17, c1 (vB (decide (s1 < (v_.keys.length : Int))))), (20, c1 (.ptr 1 0 2)), (21, c1 (vL flS t_.names)), (22, c1 (.ptr 0 0 4)), (23, c1 (vL flS v_.keys)), (24, c1 (vi s1)), (25, c1 (.pv (.pp (flS.c x2 ++ flS.f (List.drop (s1.toNat + 1) v_.keys))))), (26, c1 (vS x2))]) (by kernel_rfl) ?_
    obtain ⟨y3, hy3, hq⟩ := bind_inv hq
    refine callF (d := some 27) (by kernel_rfl) (g_r11_has_ok hb he t_.names x2 y3 hy3) ?_
    refine lastKS (T' := sl 86 [(2, pt 0), (3, pt 1), (4, pt 2), (6, c1 (vi s1)), (28, c1 (vB (!y3)))]) (by kernel_rfl) hR ?_
    refine L_if hb (b := (!y3)) (by kernel_rfl) (fun hc4 => ?_) (fun hc4 => ?_)
    · replace hq := cond_t hc4 hq
      refine L_seq ?_
      refine L_regS hb [4, 5] (T' := sl 86 [(4, pt 2), (5, c1 (vi 13))]) (by kernel_rfl) ?_
      refine L_ret (hD2 _ _ (hD1 _ _ ?_))
      have h0 := (Option.some.inj hq).symm
      replace h0 := he1 _ h0
      obtain rfl := h0
      exact end_ret (by kernel_rfl)
    · replace hq := cond_f hc4 hq
      refine L_skip (L_nil (hA2 _ _ ?_))
      refine L_regS hb [2, 3, 4, 6] (T' := sl 86 [(2, pt 0), (3, pt 1), (4, pt 2), (6, c1 (vi (IntKind.i64.wrap (s1 + 1))))]) (by kernel_rfl) ?_
      refine L_backF [2, 3, 4, 6] [] 3 (T' := sl 86 [(2, pt 0), (3, pt 1), (4, pt 2), (6, c1 (vi (IntKind.i64.wrap (s1 + 1))))]) (σ' := [bx (aV v_), bx (aT t_), bx zV]) (by kernel_rfl) (by kernel_rfl) (by simp) (by kernel_rfl) ⟨(by kernel_rfl), (by kernel_rfl), (by kernel_rfl), trivial⟩ ?_
      have h0 := (Option.some.inj hq).symm
      exact L_as (by kernel_rfl) (by kernel_rfl) (hn1 _ h0)
  · replace hq := cond_f hc1 hq
    refine L_exit (hB1 _ _ (L_seq ?_))
    refine L_regF hb [2, 3, 4, 7] (T' := sl 86 [(2, pt 0), (3, pt 1), (4, pt 2), (7, pt 3)]) (σ' := [bx (aV v_), bx (aT t_), bx zV, bx [vi 5, vi 0, vS eS, vN, vN]]) (by kernel_rfl) ?_
    refine L_seq (L_seq ?_)
    refine L_regS hb [2, 3, 4, 7, 8] (T' := sl 86 [(2, pt 0), (3, pt 1), (4, pt 2), (7, pt 3), (8, c1 (vi 0))]) (by kernel_rfl) ?_
    refine L_block (fun K1 hA1 hB1 hC1 hD1 => ?_)
    refine L_ownσ 3 3 5 (cs := [vi 5, vi 0, vS eS, vN, vN]) (by kernel_rfl) (by kernel_rfl) rfl ?_
    refine L_ownσ 3 4 1 (cs := [vi 5, vi 0, vS eS, vO flV 4 [], vN]) (by kernel_rfl) (by kernel_rfl) rfl ?_
    refine L_backF [2, 3, 4, 7, 8] [] 6 (T' := sl 86 [(2, pt 0), (3, pt 1), (4, pt 2), (7, pt 3), (8, c1 (vi 0))]) (σ' := [bx (aV v_), bx (aT t_), bx zV, bx [vi 5, vi 0, vS eS, vO flV 4 [], vO flS 5 []], some (arO true flV.sz ((flV.f []).length) (flV.f [])), some (arO true flS.sz ((flS.f []).length) (flS.f []))]) (by kernel_rfl) (by kernel_rfl) (by simp) (by kernel_rfl) ⟨(by kernel_rfl), (by kernel_rfl), (by kernel_rfl), (by kernel_rfl), (under_arO _ _ _ _ _), (under_arO _ _ _ _ _), trivial⟩ ?_
    refine L_as (by kernel_rfl) (by kernel_rfl) (L_loopO (body := (g_r11_object_L2 r_r11_to v_ t_)) (fun s2 => sl 86 [(2, pt 0), (3, pt 1), (4, pt 2), (7, pt 3), (8, c1 (vi s2.1))]) (fun s2 => [bx (aV v_), bx (aT t_), bx zV, bx [vi 5, vi 0, vS eS, vO flV 4 s2.2.1, vO flS 5 s2.2.2], some (arO true flV.sz ((flV.f s2.2.1).length) (flV.f s2.2.1)), some (arO true flS.sz ((flS.f s2.2.2).length) (flS.f s2.2.2))]) (s0 := (0, [], [])) (fun s2 x2 hq hn2 he2 => ?_) hq)
    refine L_seq (L_seq ?_)
    refine L_regK hb [2, 3, 4, 7, 8, 42] (fun R hR => ?_)
    refine runDS 6 [(31, c1 (vi s2.1)), (32, c1 (.ptr 1 0 2)), (33, c1 (vL flS t_.names)), (34, c1 (vi (t_.names.length : Int))), (35, c1 (vB (decide (s2.1 < (t_.names.length : Int))))), (36, c1 (vB (decide (s2.1 < (t_.names.length : Int)))))] (by kernel_rfl) ?_
    refine partsD ((decide (s2.1 < (t_.names.length : Int)))) (fun zz => [(35, c1 (vB zz)), (36, c1 (vB zz))]) (by kernel_rfl) (fun hc5 => ?_) (fun hc5 => ?_)
    · replace hq := cond_t hc5 hq
      refine lastKS (T' := sl 86 [(2, pt 0), (3, pt 1), (4, pt 2), (7, pt 3), (8, c1 (vi s2.1)), (42, c1 (vB (decide (s2.1 < (t_.elems.length : Int)))))]) (by kernel_rfl) hR ?_
      refine L_if hb (b := (decide (s2.1 < (t_.elems.length : Int)))) (by kernel_rfl) (fun hc6 => ?_) (fun hc6 => ?_)
      · replace hq := cond_t hc6 hq
        refine L_skip (L_seq (L_block (fun K2 hA2 hB2 hC2 hD2 => (L_seq ?_))))
        refine L_drwK hb mixed [2, 3, 4, 7, 8, 9] 11 (by kernel_rfl) (by kernel_rfl) (fun R hR => ?_)
        refine runDS 4 [(46, .one (.agg (aV v_))), (47, c1 (.ptr 1 0 2)), (48, c1 (vL flS t_.names)), (49, c1 (vi s2.1))] (by kernel_rfl) ?_
        obtain ⟨x7, hx7, hq⟩ := bind_inv hq
        refine idxF flS (d := some 50) hx7 (by kernel_rfl) ?_
        refine runPS 1 [(50, c1 (.pv (.pp (flS.c x7 ++ flS.f (List.drop (s2.1.toNat + 1) t_.names))))), (51, c1 (vS x7))] (by kernel_rfl) ?_
        obtain ⟨y8, hy8, hq⟩ := bind_inv hq
        refine callF (d := some 52) (by kernel_rfl) (g_r07_Get_ok hb he v_ x7 y8 hy8) ?_
        refine lastF (T' := sl 86 [(2, pt 0), (3, pt 1), (4, pt 2), (7, pt 3), (8, c1 (vi s2.1)), (9, pt 6), (42, c1 (vB (decide (s2.1 < (t_.elems.length : Int))))), (45, .tup [.agg (aV y8.1), .cell (vB y8.2)]), (46, .one (.agg (aV v_))), (47, c1 (.ptr 1 0 2)), (48, c1 (vL flS t_.names)), (49, c1 (vi s2.1)), (50, c1 (.pv (.pp (flS.c x7 ++ flS.f (List.drop (s2.1.toNat + 1) t_.names))))), (51, c1 (vS x7)), (52, .tup [.agg (aV y8.1), .cell (vB y8.2)]), (53, .one (.agg (aV y8.1))), (54, c1 (vB y8.2))]) (σ' := [bx (aV v_), bx (aT t_), bx zV, bx [vi 5, vi 0, vS eS, vO flV 4 s2.2.1, vO flS 5 s2.2.2], some (arO true flV.sz ((flV.f s2.2.1).length) (flV.f s2.2.1)), some (arO true flS.sz ((flS.f s2.2.2).length) (flS.f s2.2.2)), bx zV]) (by kernel_rfl) ?_
        refine lastK (T' := sl 86 [(2, pt 0), (3, pt 1), (4, pt 2), (7, pt 3), (8, c1 (vi s2.1)), (9, pt 6)]) (σ' := [bx (aV v_), bx (aT t_), bx zV, bx [vi 5, vi 0, vS eS, vO flV 4 s2.2.1, vO flS 5 s2.2.2], some (arO true flV.sz ((flV.f s2.2.1).length) (flV.f s2.2.1)), some (arO true flS.sz ((flS.f s2.2.2).length) (flS.f s2.2.2)), bx (aV y8.1)]) (by kernel_rfl) hR ?_
        refine L_seq ?_
        refine L_drwK hb mixed [2, 3, 4, 7, 8, 11, 12] 11 (by kernel_rfl) (by kernel_rfl) (fun R hR => ?_)
        refine runDS 4 [(56, .one (.agg (aV y8.1))), (57, c1 (.ptr 1 0 1)), (58, c1 (vL flT t_.elems)), (59, c1 (vi s2.1))] (by kernel_rfl) ?_
        obtain ⟨x9, hx9, hq⟩ := bind_inv hq
        refine idxF flT (d := some 60) hx9 (by kernel_rfl) ?_
        refine runPS 1 [(60, c1 (.pv (.pp (flT.c x9 ++ flT.f (List.drop (s2.1.toNat + 1) t_.elems))))), (61, .one (.agg (aT x9)))] (by kernel_rfl) ?_
        obtain ⟨y10, hy10, hq⟩ := bind_inv hq
        refine callF (d := some 62) (by kernel_rfl) (hr_r11_to y8.1 x9 y10 hy10) ?_
        refine lastF (T' := sl 86 [(2, pt 0), (3, pt 1), (4, pt 2), (7, pt 3), (8, c1 (vi s2.1)), (9, pt 6), (11, pt 7), (55, .tup [.agg (aV y10.1), .cell (vi y10.2)]), (56, .one (.agg (aV y8.1))), (57, c1 (.ptr 1 0 1)), (58, c1 (vL flT t_.elems)), (59, c1 (vi s2.1)), (60, c1 (.pv (.pp (flT.c x9 ++ flT.f (List.drop (s2.1.toNat + 1) t_.elems))))), (61, .one (.agg (aT x9))), (62, .tup [.agg (aV y10.1), .cell (vi y10.2)]), (63, .one (.agg (aV y10.1))), (64, c1 (vi y10.2))]) (σ' := [bx (aV v_), bx (aT t_), bx zV, bx [vi 5, vi 0, vS eS, vO flV 4 s2.2.1, vO flS 5 s2.2.2], some (arO true flV.sz ((flV.f s2.2.1).length) (flV.f s2.2.1)), some (arO true flS.sz ((flS.f s2.2.2).length) (flS.f s2.2.2)), bx (aV y8.1), bx zV]) (by kernel_rfl) ?_
        refine lastK (T' := sl 86 [(2, pt 0), (3, pt 1), (4, pt 2), (7, pt 3), (8, c1 (vi s2.1)), (11, pt 7), (12, c1 (vi y10.2))]) (σ' := [bx (aV v_), bx (aT t_), bx zV, bx [vi 5, vi 0, vS eS, vO flV 4 s2.2.1, vO flS 5 s2.2.2], some (arO true flV.sz ((flV.f s2.2.1).length) (flV.f s2.2.1)), some (arO true flS.sz ((flS.f s2.2.2).length) (flS.f s2.2.2)), bx (aV y8.1), bx (aV y10.1)]) (by kernel_rfl) hR ?_
        refine L_seq (L_seq ?_)
        refine L_regS hb [2, 3, 4, 7, 8, 11, 12, 66] (T' := sl 86 [(2, pt 0), (3, pt 1), (4, pt 2), (7, pt 3), (8, c1 (vi s2.1)), (11, pt 7), (12, c1 (vi y10.2)), (66, c1 (vB (!decide (y10.2 = 0))))]) (by kernel_rfl) ?_
        refine L_if hb (b := (!decide (y10.2 = 0))) (by kernel_rfl) (fun hc11 => ?_) (fun hc11 => ?_)
        · replace hq := cond_t hc11 hq
          refine L_seq ?_
          refine L_regS hb [4, 5] (T' := sl 86 [(4, pt 2), (5, c1 (vi y10.2))]) (by kernel_rfl) ?_
          refine L_ret (hD2 _ _ (hD1 _ _ ?_))
          have h0 := (Option.some.inj hq).symm
          replace h0 := he2 _ h0
          replace h0 := h0.symm
          replace h0 := he1 _ h0
          obtain rfl := h0
          exact end_ret (by kernel_rfl)
        · replace hq := cond_f hc11 hq
          refine L_skip (L_seq ?_)
          refine L_drwK hb mixed [2, 3, 4, 7, 8, 11] 8 (by kernel_rfl) (by kernel_rfl) (fun R hR => ?_)
          refine runDS 5 [(69, c1 (.ptr 3 0 4)), (70, c1 (vO flS 5 s2.2.2)), (71, c1 (.ptr 1 0 2)), (72, c1 (vL flS t_.names)), (73, c1 (vi s2.1))] (by kernel_rfl) ?_
          obtain ⟨x12, hx12, hq⟩ := bind_inv hq
          refine idxF flS (d := some 74) hx12 (by kernel_rfl) ?_
          refine lastFS (T' := sl 86 [(2, pt 0), (3, pt 1), (4, pt 2), (7, pt 3), (8, c1 (vi s2.1)), (11, pt 7), (12, c1 (vi y10.2)), (66, c1 (vB (!decide (y10.2 = 0)))), (69, c1 (.ptr 3 0 4)), (70, c1 (vO flS 5 s2.2.2)), (71, c1 (.ptr 1 0 2)), (72, c1 (vL flS t_.names)), (73, c1 (vi s2.1)), (74, c1 (.pv (.pp (flS.c x12 ++ flS.f (List.drop (s2.1.toNat + 1) t_.names))))), (75, c1 (vS x12)), (76, c1 (.pv (.sl true 1 [pS x12])))]) (by kernel_rfl) ?_
          obtain ⟨l13, hl13, hq⟩ := bind_inv hq
          refine appOwnF flS (d := some 77) (id := 5) (s := .pv (.sl true 1 [pS x12])) (nb := true) (fr := (flS.f s2.2.2).length) hl13 (by kernel_rfl) (src_lit flS (flS.one x12) rfl) (by kernel_rfl) (Nat.le_refl _) ?_
          refine lastK (T' := sl 86 [(2, pt 0), (3, pt 1), (4, pt 2), (7, pt 3), (8, c1 (vi s2.1)), (11, pt 7)]) (σ' := [bx (aV v_), bx (aT t_), bx zV, bx [vi 5, vi 0, vS eS, vO flV 4 s2.2.1, vO flS 5 l13], some (arO true flV.sz ((flV.f s2.2.1).length) (flV.f s2.2.1)), some (arO true flS.sz ((flS.f s2.2.2).length) (flS.f l13)), bx (aV y8.1), bx (aV y10.1)]) (by kernel_rfl) hR ?_
          refine L_mark 5 (nb := true) (cs := flS.f l13) rfl (app_le flS hl13) ?_
          refine L_regN hb (fun R hR => ?_)
          refine runDS 4 [(79, c1 (.ptr 3 0 3)), (80, c1 (vO flV 4 s2.2.1)), (81, .one (.agg (aV y10.1))), (82, c1 (.pv (.sl true 1 [pI .i64 y10.1.kind, pI .i64 y10.1.num, pS y10.1.str, pL flV y10.1.items, pL flS y10.1.keys])))] (by kernel_rfl) ?_
          obtain ⟨l14, hl14, hq⟩ := bind_inv hq
          refine appOwnF flV (d := some 83) (id := 4) (s := .pv (.sl true 1 [pI .i64 y10.1.kind, pI .i64 y10.1.num, pS y10.1.str, pL flV y10.1.items, pL flS y10.1.keys])) (nb := true) (fr := (flV.f s2.2.1).length) hl14 (by kernel_rfl) (src_lit flV (flV.one y10.1) rfl) (by kernel_rfl) (Nat.le_refl _) ?_
          refine lastF (T' := sl 86 [(2, pt 0), (3, pt 1), (4, pt 2), (7, pt 3), (8, c1 (vi s2.1)), (11, pt 7), (79, c1 (.ptr 3 0 3)), (80, c1 (vO flV 4 s2.2.1)), (81, .one (.agg (aV y10.1))), (82, c1 (.pv (.sl true 1 [pI .i64 y10.1.kind, pI .i64 y10.1.num, pS y10.1.str, pL flV y10.1.items, pL flS y10.1.keys]))), (83, c1 (vO flV 4 l14)), (84, c1 (.ptr 3 0 3))]) (σ' := [bx (aV v_), bx (aT t_), bx zV, bx [vi 5, vi 0, vS eS, vO flV 4 l14, vO flS 5 l13], some (arO true flV.sz ((flV.f s2.2.1).length) (flV.f l14)), some (arO true flS.sz ((flS.f l13).length) (flS.f l13)), bx (aV y8.1), bx (aV y10.1)]) (by kernel_rfl) (hR _ _ ?_)
          refine L_nil (hA2 _ _ ?_)
          refine L_regS hb [2, 3, 4, 7, 8] (T' := sl 86 [(2, pt 0), (3, pt 1), (4, pt 2), (7, pt 3), (8, c1 (vi (IntKind.i64.wrap (s2.1 + 1))))]) (by kernel_rfl) ?_
          refine L_mark 4 (nb := true) (cs := flV.f l14) rfl (app_le flV hl14) ?_
          refine L_backF [2, 3, 4, 7, 8] [] 6 (T' := sl 86 [(2, pt 0), (3, pt 1), (4, pt 2), (7, pt 3), (8, c1 (vi (IntKind.i64.wrap (s2.1 + 1))))]) (σ' := [bx (aV v_), bx (aT t_), bx zV, bx [vi 5, vi 0, vS eS, vO flV 4 l14, vO flS 5 l13], some (arO true flV.sz ((flV.f l14).length) (flV.f l14)), some (arO true flS.sz ((flS.f l13).length) (flS.f l13))]) (by kernel_rfl) (by kernel_rfl) (by simp) (by kernel_rfl) ⟨(by kernel_rfl), (by kernel_rfl), (by kernel_rfl), (by kernel_rfl), (under_arO _ _ _ _ _), (under_arO _ _ _ _ _), trivial⟩ ?_
          have h0 := (Option.some.inj hq).symm
          exact L_as (by kernel_rfl) (by kernel_rfl) (hn2 _ h0)
      · replace hq := cond_f hc6 hq
        refine L_exit (hB1 _ _ (L_seq ?_))
        refine L_regF hb [4, 5] (T' := sl 86 [(4, pt 2), (5, c1 (vi 0))]) (σ' := [bx (aV v_), bx (aT t_), bx [vi 5, vi 0, vS eS, vO flV 4 s2.2.1, vO flS 5 s2.2.2], bx [vi 5, vi 0, vS eS, vO flV 4 s2.2.1, vO flS 5 s2.2.2], some (arO true flV.sz ((flV.f s2.2.1).length) (flV.f s2.2.1)), some (arO true flS.sz ((flS.f s2.2.2).length) (flS.f s2.2.2))]) (by kernel_rfl) ?_
        refine L_cellσ 2 3 (cs := [vi 5, vi 0, vS eS, vO flV 4 s2.2.1, vO flS 5 s2.2.2]) (c := vO flV 4 s2.2.1) (by kernel_rfl) (by kernel_rfl) (conv_own flV (nb := true) (id := 4) (xs := s2.2.1) (by kernel_rfl)) ?_
        refine L_cellσ 2 4 (cs := [vi 5, vi 0, vS eS, vL flV s2.2.1, vO flS 5 s2.2.2]) (c := vO flS 5 s2.2.2) (by kernel_rfl) (by kernel_rfl) (conv_own flS (nb := true) (id := 5) (xs := s2.2.2) (by kernel_rfl)) ?_
        refine L_ret ?_
        have h0 := (Option.some.inj hq).symm
        replace h0 := he2 _ h0
        replace h0 := h0.symm
        replace h0 := he1 _ h0
        obtain rfl := h0
        exact end_ret (by kernel_rfl)
    · replace hq := cond_f hc5 hq
      refine lastKS (T' := sl 86 [(2, pt 0), (3, pt 1), (4, pt 2), (7, pt 3), (8, c1 (vi s2.1)), (42, c1 (vB false))]) (by kernel_rfl) hR ?_
      refine L_false hb (by kernel_rfl) (L_exit (hB1 _ _ (L_seq ?_)))
      refine L_regF hb [4, 5] (T' := sl 86 [(4, pt 2), (5, c1 (vi 0))]) (σ' := [bx (aV v_), bx (aT t_), bx [vi 5, vi 0, vS eS, vO flV 4 s2.2.1, vO flS 5 s2.2.2], bx [vi 5, vi 0, vS eS, vO flV 4 s2.2.1, vO flS 5 s2.2.2], some (arO true flV.sz ((flV.f s2.2.1).length) (flV.f s2.2.1)), some (arO true flS.sz ((flS.f s2.2.2).length) (flS.f s2.2.2))]) (by kernel_rfl) ?_
      refine L_cellσ 2 3 (cs := [vi 5, vi 0, vS eS, vO flV 4 s2.2.1, vO flS 5 s2.2.2]) (c := vO flV 4 s2.2.1) (by kernel_rfl) (by kernel_rfl) (conv_own flV (nb := true) (id := 4) (xs := s2.2.1) (by kernel_rfl)) ?_
      refine L_cellσ 2 4 (cs := [vi 5, vi 0, vS eS, vL flV s2.2.1, vO flS 5 s2.2.2]) (c := vO flS 5 s2.2.2) (by kernel_rfl) (by kernel_rfl) (conv_own flS (nb := true) (id := 5) (xs := s2.2.2) (by kernel_rfl)) ?_
      refine L_ret ?_
      have h0 := (Option.some.inj hq).symm
      replace h0 := he2 _ h0
      replace h0 := h0.symm
      replace h0 := he1 _ h0
      obtain rfl := h0
      exact end_ret (by kernel_rfl)
noncomputable def g_r11_to_L1 (r_r11_to : Val → Ty → Option (Val × Int)) (v_ : Val) (t_ : Ty) (s1 : Int × List Val) : Option ((Int × List Val) ⊕ (Val × Int)) :=
  bif (decide (s1.1 < (v_.items.length : Int))) then (idx v_.items s1.1).bind fun x13 => (idx t_.elems 0).bind fun x14 => (r_r11_to x13 x14).bind fun y15 => bif (!decide (y15.2 = 0)) then some (.inr ((Val.mk 0 0 eS [] []), y15.2)) else (app 80 s1.2 [y15.1]).bind fun l17 => some (.inl ((IntKind.i64.wrap (s1.1 + 1)), l17)) else some (.inr ((Val.mk v_.kind 0 eS s1.2 v_.keys), 0))
noncomputable def g_r11_to_L2 (r_r11_to : Val → Ty → Option (Val × Int)) (v_ : Val) (t_ : Ty) (s1 : Int × List Val) : Option ((Int × List Val) ⊕ (Val × Int)) :=
  bif (decide (s1.1 < (v_.items.length : Int))) then (idx v_.items s1.1).bind fun x23 => (idx t_.elems 0).bind fun x24 => (r_r11_to x23 x24).bind fun y25 => bif (!decide (y25.2 = 0)) then some (.inr ((Val.mk 0 0 eS [] []), y25.2)) else (app 80 s1.2 [y25.1]).bind fun l27 => some (.inl ((IntKind.i64.wrap (s1.1 + 1)), l27)) else some (.inr ((Val.mk v_.kind 0 eS s1.2 v_.keys), 0))
noncomputable def g_r11_to_L3 (r_r11_to : Val → Ty → Option (Val × Int)) (v_ : Val) (t_ : Ty) (s1 : Int × List Val) : Option ((Int × List Val) ⊕ (Val × Int)) :=
  bif (decide (s1.1 < (v_.items.length : Int))) then (idx v_.items s1.1).bind fun x30 => (idx t_.elems 0).bind fun x31 => (r_r11_to x30 x31).bind fun y32 => bif (!decide (y32.2 = 0)) then some (.inr ((Val.mk 0 0 eS [] []), y32.2)) else (app 80 s1.2 [y32.1]).bind fun l34 => some (.inl ((IntKind.i64.wrap (s1.1 + 1)), l34)) else some (.inr ((Val.mk v_.kind 0 eS s1.2 v_.keys), 0))
noncomputable def g_r11_to (r_r11_object : Val → Ty → Option (Val × Int)) (r_r11_to : Val → Ty → Option (Val × Int)) (v_ : Val) (t_ : Ty) : Option (Val × Int) :=
  bif (decide (t_.kind = 0)) then some (v_, 0) else bif (decide (v_.kind = 0)) then some (v_, 0) else bif (decide (v_.kind = 6)) then some (v_, 0) else bif (decide (t_.kind = 6)) then bif (!decide (v_.kind = 5)) then some ((Val.mk 0 0 eS [] []), 6) else (r_r11_object v_ t_).bind fun y6 => some (y6.1, y6.2) else bif (!decide (t_.kind = 4)) then bif (!decide (t_.kind = 5)) then (g_r11_simple v_ t_.kind).bind fun y9 => some (y9.1, y9.2) else bif (!decide (v_.kind = 5)) then some ((Val.mk 0 0 eS [] []), 6) else bif (!decide ((t_.elems.length : Int) = 1)) then some ((Val.mk 0 0 eS [] []), 6) else loopO (g_r11_to_L1 r_r11_to v_ t_) (0, []) else bif (!decide (v_.kind = 4)) then some ((Val.mk 0 0 eS [] []), 6) else bif (decide (t_.kind = 5)) then bif (!decide (v_.kind = 5)) then some ((Val.mk 0 0 eS [] []), 6) else bif (!decide ((t_.elems.length : Int) = 1)) then some ((Val.mk 0 0 eS [] []), 6) else loopO (g_r11_to_L2 r_r11_to v_ t_) (0, []) else bif (!decide ((t_.elems.length : Int) = 1)) then some ((Val.mk 0 0 eS [] []), 6) else loopO (g_r11_to_L3 r_r11_to v_ t_) (0, [])
theorem g_r11_to_ok (hb : Base E E0 G) (he : ∀ w, E w → EnvV w) (r_r11_object : Val → Ty → Option (Val × Int)) (r_r11_to : Val → Ty → Option (Val × Int)) (hr_r11_object : ∀ (a0 : Val) (a1 : Ty) (r : Val × Int), r_r11_object a0 a1 = some r → Pure E E0 Tryz.prog 43 [.agg (aV a0), .agg (aT a1)] (.tup [.agg (aV r.1), .cell (vi r.2)])) (hr_r11_to : ∀ (a0 : Val) (a1 : Ty) (r : Val × Int), r_r11_to a0 a1 = some r → Pure E E0 Tryz.prog 25 [.agg (aV a0), .agg (aT a1)] (.tup [.agg (aV r.1), .cell (vi r.2)])) (v_ : Val) (t_ : Ty) (r_ : Val × Int) (hq : g_r11_to r_r11_object r_r11_to v_ t_ = some r_) :
    Pure E E0 Tryz.prog 25 [.agg (aV v_), .agg (aT t_)] (.tup [.agg (aV r_.1), .cell (vi r_.2)]) := by
  refine pure_L Tryz.func25 rfl ?_
  refine L_keepF [0, 1] (T' := sl 111 [(0, .one (.agg (aV v_))), (1, .one (.agg (aT t_)))]) (by kernel_rfl) ?_
  refine L_seq ?_
  refine L_regF hb [2, 3, 4] (T' := sl 111 [(2, pt 0), (3, pt 1), (4, pt 2)]) (σ' := [bx (aV v_), bx (aT t_), bx zV]) (by kernel_rfl) ?_
  refine L_seq (L_seq ?_)
  refine L_regK hb [2, 3, 4, 22] (fun R hR => ?_)
  refine runDS 4 [(10, pt 1), (11, c1 (vi t_.kind)), (12, c1 (vB (decide (t_.kind = 0)))), (13, c1 (vB (decide (t_.kind = 0))))] (by kernel_rfl) ?_
  refine partsD ((decide (t_.kind = 0))) (fun zz => [(12, c1 (vB zz)), (13, c1 (vB zz))]) (by kernel_rfl) (fun hc1 => ?_) (fun hc1 => ?_)
  · replace hq := cond_t hc1 hq
    refine lastKS (T' := sl 111 [(2, pt 0), (3, pt 1), (4, pt 2), (22, c1 (vB true))]) (by kernel_rfl) hR ?_
    refine L_true hb (by kernel_rfl) (L_seq ?_)
    refine L_regF hb [4, 5] (T' := sl 111 [(4, pt 2), (5, c1 (vi 0))]) (σ' := [bx (aV v_), bx (aT t_), bx (aV v_)]) (by kernel_rfl) ?_
    refine L_ret ?_
    have h0 := Option.some.inj hq
    obtain rfl := h0
    exact end_ret (by kernel_rfl)
  · replace hq := cond_f hc1 hq
    refine runDS 5 [(14, pt 0), (15, c1 (vi v_.kind)), (16, c1 (vB (decide (v_.kind = 0)))), (17, c1 (vB (decide (v_.kind = 0)))), (18, c1 (vB (decide (v_.kind = 0))))] (by kernel_rfl) ?_
    refine partsD ((decide (v_.kind = 0))) (fun zz => [(16, c1 (vB zz)), (17, c1 (vB zz)), (18, c1 (vB zz))]) (by kernel_rfl) (fun hc2 => ?_) (fun hc2 => ?_)
    · replace hq := cond_t hc2 hq
      refine lastKS (T' := sl 111 [(2, pt 0), (3, pt 1), (4, pt 2), (22, c1 (vB true))]) (by kernel_rfl) hR ?_
      refine L_true hb (by kernel_rfl) (L_seq ?_)
      refine L_regF hb [4, 5] (T' := sl 111 [(4, pt 2), (5, c1 (vi 0))]) (σ' := [bx (aV v_), bx (aT t_), bx (aV v_)]) (by kernel_rfl) ?_
      refine L_ret ?_
      have h0 := Option.some.inj hq
      obtain rfl := h0
      exact end_ret (by kernel_rfl)
    · replace hq := cond_f hc2 hq
      refine lastKS (T' := sl 111 [(2, pt 0), (3, pt 1), (4, pt 2), (22, c1 (vB (decide (v_.kind = 6))))]) (by kernel_rfl) hR ?_
      refine L_if hb (b := (decide (v_.kind = 6))) (by kernel_rfl) (fun hc3 => ?_) (fun hc3 => ?_)
      · replace hq := cond_t hc3 hq
        refine L_seq ?_
        refine L_regF hb [4, 5] (T' := sl 111 [(4, pt 2), (5, c1 (vi 0))]) (σ' := [bx (aV v_), bx (aT t_), bx (aV v_)]) (by kernel_rfl) ?_
        refine L_ret ?_
        have h0 := Option.some.inj hq
        obtain rfl := h0
        exact end_ret (by kernel_rfl)
      · replace hq := cond_f hc3 hq
        refine L_skip (L_seq (L_seq ?_))
        refine L_regS hb [2, 3, 4, 26] (T' := sl 111 [(2, pt 0), (3, pt 1), (4, pt 2), (26, c1 (vB (decide (t_.kind = 6))))]) (by kernel_rfl) ?_
        refine L_if hb (b := (decide (t_.kind = 6))) (by kernel_rfl) (fun hc4 => ?_) (fun hc4 => ?_)
        · replace hq := cond_t hc4 hq
          refine L_seq (L_seq ?_)
          refine L_regS hb [2, 3, 4, 29] (T' := sl 111 [(2, pt 0), (3, pt 1), (4, pt 2), (29, c1 (vB (!decide (v_.kind = 5))))]) (by kernel_rfl) ?_
          refine L_if hb (b := (!decide (v_.kind = 5))) (by kernel_rfl) (fun hc5 => ?_) (fun hc5 => ?_)
          · replace hq := cond_t hc5 hq
            refine L_seq ?_
            refine L_regS hb [4, 5] (T' := sl 111 [(4, pt 2), (5, c1 (vi 6))]) (by kernel_rfl) ?_
            refine L_ret ?_
            have h0 := Option.some.inj hq
            obtain rfl := h0
            exact end_ret (by kernel_rfl)
          · replace hq := cond_f hc5 hq
            refine L_skip (L_seq ?_)
            refine L_regK hb [4, 5] (fun R hR => ?_)
            refine runDS 2 [(31, .one (.agg (aV v_))), (32, .one (.agg (aT t_)))] (by kernel_rfl) ?_
            obtain ⟨y6, hy6, hq⟩ := bind_inv hq
            refine callF (d := some 33) (by kernel_rfl) (hr_r11_object v_ t_ y6 hy6) ?_
            refine lastK (T' := sl 111 [(4, pt 2), (5, c1 (vi y6.2))]) (σ' := [bx (aV v_), bx (aT t_), bx (aV y6.1)]) (by kernel_rfl) hR ?_
            refine L_ret ?_
            have h0 := Option.some.inj hq
            obtain rfl := h0
            exact end_ret (by kernel_rfl)
        · replace hq := cond_f hc4 hq
          refine L_skip (L_seq (L_seq ?_))
          refine L_regK hb [2, 3, 4, 43] (fun R hR => ?_)
          refine runDS 4 [(36, pt 1), (37, c1 (vi t_.kind)), (38, c1 (vB (!decide (t_.kind = 4)))), (39, c1 (vB (!decide (t_.kind = 4))))] (by kernel_rfl) ?_
          refine partsD ((!decide (t_.kind = 4))) (fun zz => [(38, c1 (vB zz)), (39, c1 (vB zz))]) (by kernel_rfl) (fun hc7 => ?_) (fun hc7 => ?_)
          · replace hq := cond_t hc7 hq
            refine lastKS (T' := sl 111 [(2, pt 0), (3, pt 1), (4, pt 2), (43, c1 (vB (!decide (t_.kind = 5))))]) (by kernel_rfl) hR ?_
            refine L_if hb (b := (!decide (t_.kind = 5))) (by kernel_rfl) (fun hc8 => ?_) (fun hc8 => ?_)
            · replace hq := cond_t hc8 hq
              refine L_seq ?_
              refine L_regK hb [4, 5] (fun R hR => ?_)
              refine runDS 3 [(44, .one (.agg (aV v_))), (45, pt 1), (46, c1 (vi t_.kind))] (by kernel_rfl) ?_
              obtain ⟨y9, hy9, hq⟩ := bind_inv hq
              refine callF (d := some 47) (by kernel_rfl) (g_r11_simple_ok hb he v_ t_.kind y9 hy9) ?_
              refine lastK (T' := sl 111 [(4, pt 2), (5, c1 (vi y9.2))]) (σ' := [bx (aV v_), bx (aT t_), bx (aV y9.1)]) (by kernel_rfl) hR ?_
              refine L_ret ?_
              have h0 := Option.some.inj hq
              obtain rfl := h0
              exact end_ret (by kernel_rfl)
            · replace hq := cond_f hc8 hq
              refine L_skip (L_seq (L_seq ?_))
              refine L_regK hb [2, 3, 4, 73] (fun R hR => ?_)
              refine runDS 4 [(50, pt 1), (51, c1 (vi t_.kind)), (52, c1 (vB (decide (t_.kind = 4)))), (53, c1 (vB (decide (t_.kind = 4))))] (by kernel_rfl) ?_
              refine partsDF ((decide (t_.kind = 4))) (fun zz => [(52, c1 (vB zz)), (53, c1 (vB zz))]) (by kernel_rfl) (not_t hc7) ?_
              refine runDS 9 [(54, c1 (.undef)), (55, c1 (.undef)), (56, c1 (.undef)), (57, c1 (vB false)), (58, c1 (vB false)), (59, pt 1), (60, c1 (vi t_.kind)), (61, c1 (vB (decide (t_.kind = 5)))), (62, c1 (vB (decide (t_.kind = 5))))] (by kernel_rfl) ?_
              refine partsDT ((decide (t_.kind = 5))) (fun zz => [(61, c1 (vB zz)), (62, c1 (vB zz))]) (by kernel_rfl) (not_f hc8) ?_
              refine runDS 6 [(63, pt 0), (64, c1 (vi v_.kind)), (65, c1 (vB (!decide (v_.kind = 5)))), (66, c1 (vB (!decide (v_.kind = 5)))), (67, c1 (vB (!decide (v_.kind = 5)))), (68, c1 (vB (!decide (v_.kind = 5))))] (by kernel_rfl) ?_
              refine partsD ((!decide (v_.kind = 5))) (fun zz => [(65, c1 (vB zz)), (66, c1 (vB zz)), (67, c1 (vB zz)), (68, c1 (vB zz))]) (by kernel_rfl) (fun hc10 => ?_) (fun hc10 => ?_)
              · replace hq := cond_t hc10 hq
                refine lastKS (T' := sl 111 [(2, pt 0), (3, pt 1), (4, pt 2), (73, c1 (vB true))]) (by kernel_rfl) hR ?_
                refine L_true hb (by kernel_rfl) (L_seq ?_)
                refine L_regS hb [4, 5] (T' := sl 111 [(4, pt 2), (5, c1 (vi 6))]) (by kernel_rfl) ?_
                refine L_ret ?_
                have h0 := Option.some.inj hq
                obtain rfl := h0
                exact end_ret (by kernel_rfl)
              · replace hq := cond_f hc10 hq
                refine lastKS (T' := sl 111 [(2, pt 0), (3, pt 1), (4, pt 2), (73, c1 (vB (!decide ((t_.elems.length : Int) = 1))))]) (by kernel_rfl) hR ?_
                refine L_if hb (b := (!decide ((t_.elems.length : Int) = 1))) (by kernel_rfl) (fun hc11 => ?_) (fun hc11 => ?_)
                · replace hq := cond_t hc11 hq
                  refine L_seq ?_
                  refine L_regS hb [4, 5] (T' := sl 111 [(4, pt 2), (5, c1 (vi 6))]) (by kernel_rfl) ?_
                  refine L_ret ?_
                  have h0 := Option.some.inj hq
                  obtain rfl := h0
                  exact end_ret (by kernel_rfl)
                · replace hq := cond_f hc11 hq
                  refine L_skip (L_seq ?_)
                  refine L_regF hb [2, 3, 4, 6] (T' := sl 111 [(2, pt 0), (3, pt 1), (4, pt 2), (6, pt 3)]) (σ' := [bx (aV v_), bx (aT t_), bx zV, bx [vi v_.kind, vi 0, vS eS, vN, vL flS v_.keys]]) (by kernel_rfl) ?_
                  refine L_seq (L_seq ?_)
                  refine L_regS hb [2, 3, 4, 6, 7] (T' := sl 111 [(2, pt 0), (3, pt 1), (4, pt 2), (6, pt 3), (7, c1 (vi 0))]) (by kernel_rfl) ?_
                  refine L_block (fun K1 hA1 hB1 hC1 hD1 => ?_)
                  refine L_ownσ 3 3 5 (cs := [vi v_.kind, vi 0, vS eS, vN, vL flS v_.keys]) (by kernel_rfl) (by kernel_rfl) rfl ?_
                  refine L_backF [2, 3, 4, 6, 7] [] 5 (T' := sl 111 [(2, pt 0), (3, pt 1), (4, pt 2), (6, pt 3), (7, c1 (vi 0))]) (σ' := [bx (aV v_), bx (aT t_), bx zV, bx [vi v_.kind, vi 0, vS eS, vO flV 4 [], vL flS v_.keys], some (arO true flV.sz ((flV.f []).length) (flV.f []))]) (by kernel_rfl) (by kernel_rfl) (by simp) (by kernel_rfl) ⟨(by kernel_rfl), (by kernel_rfl), (by kernel_rfl), (by kernel_rfl), (under_arO _ _ _ _ _), trivial⟩ ?_
                  refine L_as (by kernel_rfl) (by kernel_rfl) (L_loopO (body := (g_r11_to_L1 r_r11_to v_ t_)) (fun s1 => sl 111 [(2, pt 0), (3, pt 1), (4, pt 2), (6, pt 3), (7, c1 (vi s1.1))]) (fun s1 => [bx (aV v_), bx (aT t_), bx zV, bx [vi v_.kind, vi 0, vS eS, vO flV 4 s1.2, vL flS v_.keys], some (arO true flV.sz ((flV.f s1.2).length) (flV.f s1.2))]) (s0 := (0, [])) (fun s1 x1 hq hn1 he1 => ?_) hq)
                  refine L_seq (L_seq ?_)
                  refine L_regS hb [2, 3, 4, 6, 7, 84] (T' := sl 111 [(2, pt 0), (3, pt 1), (4, pt 2), (6, pt 3), (7, c1 (vi s1.1)), (84, c1 (vB (decide (s1.1 < (v_.items.length : Int)))))]) (by kernel_rfl) ?_
                  refine L_if hb (b := (decide (s1.1 < (v_.items.length : Int)))) (by kernel_rfl) (fun hc12 => ?_) (fun hc12 => ?_)
                  · replace hq := cond_t hc12 hq
                    refine L_skip (L_seq (L_block (fun K2 hA2 hB2 hC2 hD2 => (L_seq ?_))))
                    refine L_drwK hb mixed [2, 3, 4, 6, 7, 8, 9] 14 (by kernel_rfl) (by kernel_rfl) (fun R hR => ?_)
                    refine runDS 3 [(88, c1 (.ptr 0 0 3)), (89, c1 (vL flV v_.items)), (90, c1 (vi s1.1))] (by kernel_rfl) ?_
                    obtain ⟨x13, hx13, hq⟩ := bind_inv hq
                    refine idxF flV (d := some 91) hx13 (by kernel_rfl) ?_
                    refine runPS 3 [(91, c1 (.pv (.pp (flV.c x13 ++ flV.f (List.drop (s1.1.toNat + 1) v_.items))))), (92, .one (.agg (aV x13))), (93, c1 (.ptr 1 0 1)), (94, c1 (vL flT t_.elems))] (by kernel_rfl) ?_
                    obtain ⟨x14, hx14, hq⟩ := bind_inv hq
                    refine idxF flT (d := some 95) hx14 (by kernel_rfl) ?_
                    refine runPS 1 [(95, c1 (.pv (.pp (flT.c x14 ++ flT.f (List.drop ((0 : Int).toNat + 1) t_.elems))))), (96, .one (.agg (aT x14)))] (by kernel_rfl) ?_
                    obtain ⟨y15, hy15, hq⟩ := bind_inv hq
                    refine callF (d := some 97) (by kernel_rfl) (hr_r11_to x13 x14 y15 hy15) ?_
                    refine lastF (T' := sl 111 [(2, pt 0), (3, pt 1), (4, pt 2), (6, pt 3), (7, c1 (vi s1.1)), (8, pt 5), (84, c1 (vB (decide (s1.1 < (v_.items.length : Int))))), (87, .tup [.agg (aV y15.1), .cell (vi y15.2)]), (88, c1 (.ptr 0 0 3)), (89, c1 (vL flV v_.items)), (90, c1 (vi s1.1)), (91, c1 (.pv (.pp (flV.c x13 ++ flV.f (List.drop (s1.1.toNat + 1) v_.items))))), (92, .one (.agg (aV x13))), (93, c1 (.ptr 1 0 1)), (94, c1 (vL flT t_.elems)), (95, c1 (.pv (.pp (flT.c x14 ++ flT.f (List.drop ((0 : Int).toNat + 1) t_.elems))))), (96, .one (.agg (aT x14))), (97, .tup [.agg (aV y15.1), .cell (vi y15.2)]), (98, .one (.agg (aV y15.1))), (99, c1 (vi y15.2))]) (σ' := [bx (aV v_), bx (aT t_), bx zV, bx [vi v_.kind, vi 0, vS eS, vO flV 4 s1.2, vL flS v_.keys], some (arO true flV.sz ((flV.f s1.2).length) (flV.f s1.2)), bx zV]) (by kernel_rfl) ?_
                    refine lastK (T' := sl 111 [(2, pt 0), (3, pt 1), (4, pt 2), (6, pt 3), (7, c1 (vi s1.1)), (8, pt 5), (9, c1 (vi y15.2))]) (σ' := [bx (aV v_), bx (aT t_), bx zV, bx [vi v_.kind, vi 0, vS eS, vO flV 4 s1.2, vL flS v_.keys], some (arO true flV.sz ((flV.f s1.2).length) (flV.f s1.2)), bx (aV y15.1)]) (by kernel_rfl) hR ?_
                    refine L_seq (L_seq ?_)
                    refine L_regS hb [2, 3, 4, 6, 7, 8, 9, 101] (T' := sl 111 [(2, pt 0), (3, pt 1), (4, pt 2), (6, pt 3), (7, c1 (vi s1.1)), (8, pt 5), (9, c1 (vi y15.2)), (101, c1 (vB (!decide (y15.2 = 0))))]) (by kernel_rfl) ?_
                    refine L_if hb (b := (!decide (y15.2 = 0))) (by kernel_rfl) (fun hc16 => ?_) (fun hc16 => ?_)
                    · replace hq := cond_t hc16 hq
                      refine L_seq ?_
                      refine L_regS hb [4, 5] (T' := sl 111 [(4, pt 2), (5, c1 (vi y15.2))]) (by kernel_rfl) ?_
                      refine L_ret (hD2 _ _ (hD1 _ _ ?_))
                      have h0 := (Option.some.inj hq).symm
                      replace h0 := he1 _ h0
                      obtain rfl := h0
                      exact end_ret (by kernel_rfl)
                    · replace hq := cond_f hc16 hq
                      refine L_skip ?_
                      refine L_regN hb (fun R hR => ?_)
                      refine runDS 4 [(104, c1 (.ptr 3 0 3)), (105, c1 (vO flV 4 s1.2)), (106, .one (.agg (aV y15.1))), (107, c1 (.pv (.sl true 1 [pI .i64 y15.1.kind, pI .i64 y15.1.num, pS y15.1.str, pL flV y15.1.items, pL flS y15.1.keys])))] (by kernel_rfl) ?_
                      obtain ⟨l17, hl17, hq⟩ := bind_inv hq
                      refine appOwnF flV (d := some 108) (id := 4) (s := .pv (.sl true 1 [pI .i64 y15.1.kind, pI .i64 y15.1.num, pS y15.1.str, pL flV y15.1.items, pL flS y15.1.keys])) (nb := true) (fr := (flV.f s1.2).length) hl17 (by kernel_rfl) (src_lit flV (flV.one y15.1) rfl) (by kernel_rfl) (Nat.le_refl _) ?_
                      refine lastF (T' := sl 111 [(2, pt 0), (3, pt 1), (4, pt 2), (6, pt 3), (7, c1 (vi s1.1)), (8, pt 5), (9, c1 (vi y15.2)), (101, c1 (vB (!decide (y15.2 = 0)))), (104, c1 (.ptr 3 0 3)), (105, c1 (vO flV 4 s1.2)), (106, .one (.agg (aV y15.1))), (107, c1 (.pv (.sl true 1 [pI .i64 y15.1.kind, pI .i64 y15.1.num, pS y15.1.str, pL flV y15.1.items, pL flS y15.1.keys]))), (108, c1 (vO flV 4 l17)), (109, c1 (.ptr 3 0 3))]) (σ' := [bx (aV v_), bx (aT t_), bx zV, bx [vi v_.kind, vi 0, vS eS, vO flV 4 l17, vL flS v_.keys], some (arO true flV.sz ((flV.f s1.2).length) (flV.f l17)), bx (aV y15.1)]) (by kernel_rfl) (hR _ _ ?_)
                      refine L_nil (hA2 _ _ ?_)
                      refine L_regS hb [2, 3, 4, 6, 7] (T' := sl 111 [(2, pt 0), (3, pt 1), (4, pt 2), (6, pt 3), (7, c1 (vi (IntKind.i64.wrap (s1.1 + 1))))]) (by kernel_rfl) ?_
                      refine L_mark 4 (nb := true) (cs := flV.f l17) rfl (app_le flV hl17) ?_
                      refine L_backF [2, 3, 4, 6, 7] [] 5 (T' := sl 111 [(2, pt 0), (3, pt 1), (4, pt 2), (6, pt 3), (7, c1 (vi (IntKind.i64.wrap (s1.1 + 1))))]) (σ' := [bx (aV v_), bx (aT t_), bx zV, bx [vi v_.kind, vi 0, vS eS, vO flV 4 l17, vL flS v_.keys], some (arO true flV.sz ((flV.f l17).length) (flV.f l17))]) (by kernel_rfl) (by kernel_rfl) (by simp) (by kernel_rfl) ⟨(by kernel_rfl), (by kernel_rfl), (by kernel_rfl), (by kernel_rfl), (under_arO _ _ _ _ _), trivial⟩ ?_
                      have h0 := (Option.some.inj hq).symm
                      exact L_as (by kernel_rfl) (by kernel_rfl) (hn1 _ h0)
                  · replace hq := cond_f hc12 hq
                    refine L_exit (hB1 _ _ (L_seq ?_))
                    refine L_regF hb [4, 5] (T' := sl 111 [(4, pt 2), (5, c1 (vi 0))]) (σ' := [bx (aV v_), bx (aT t_), bx [vi v_.kind, vi 0, vS eS, vO flV 4 s1.2, vL flS v_.keys], bx [vi v_.kind, vi 0, vS eS, vO flV 4 s1.2, vL flS v_.keys], some (arO true flV.sz ((flV.f s1.2).length) (flV.f s1.2))]) (by kernel_rfl) ?_
                    refine L_cellσ 2 3 (cs := [vi v_.kind, vi 0, vS eS, vO flV 4 s1.2, vL flS v_.keys]) (c := vO flV 4 s1.2) (by kernel_rfl) (by kernel_rfl) (conv_own flV (nb := true) (id := 4) (xs := s1.2) (by kernel_rfl)) ?_
                    refine L_ret ?_
                    have h0 := (Option.some.inj hq).symm
                    replace h0 := he1 _ h0
                    obtain rfl := h0
                    exact end_ret (by kernel_rfl)
          · replace hq := cond_f hc7 hq
            refine lastKS (T' := sl 111 [(2, pt 0), (3, pt 1), (4, pt 2), (43, c1 (vB false))]) (by kernel_rfl) hR ?_
            refine L_false hb (by kernel_rfl) (L_skip (L_seq (L_seq ?_)))
            refine L_regK hb [2, 3, 4, 73] (fun R hR => ?_)
            refine runDS 4 [(50, pt 1), (51, c1 (vi t_.kind)), (52, c1 (vB (decide (t_.kind = 4)))), (53, c1 (vB (decide (t_.kind = 4))))] (by kernel_rfl) ?_
            refine partsDT ((decide (t_.kind = 4))) (fun zz => [(52, c1 (vB zz)), (53, c1 (vB zz))]) (by kernel_rfl) (not_f hc7) ?_
            refine runDS 5 [(54, pt 0), (55, c1 (vi v_.kind)), (56, c1 (vB (!decide (v_.kind = 4)))), (57, c1 (vB (!decide (v_.kind = 4)))), (58, c1 (vB (!decide (v_.kind = 4))))] (by kernel_rfl) ?_
            refine partsD ((!decide (v_.kind = 4))) (fun zz => [(56, c1 (vB zz)), (57, c1 (vB zz)), (58, c1 (vB zz))]) (by kernel_rfl) (fun hc18 => ?_) (fun hc18 => ?_)
            · replace hq := cond_t hc18 hq
              refine lastKS (T' := sl 111 [(2, pt 0), (3, pt 1), (4, pt 2), (73, c1 (vB true))]) (by kernel_rfl) hR ?_
              refine L_true hb (by kernel_rfl) (L_seq ?_)
              refine L_regS hb [4, 5] (T' := sl 111 [(4, pt 2), (5, c1 (vi 6))]) (by kernel_rfl) ?_
              refine L_ret ?_
              have h0 := Option.some.inj hq
              obtain rfl := h0
              exact end_ret (by kernel_rfl)
            · replace hq := cond_f hc18 hq
              refine runDS 4 [(59, pt 1), (60, c1 (vi t_.kind)), (61, c1 (vB (decide (t_.kind = 5)))), (62, c1 (vB (decide (t_.kind = 5))))] (by kernel_rfl) ?_
              refine partsD ((decide (t_.kind = 5))) (fun zz => [(61, c1 (vB zz)), (62, c1 (vB zz))]) (by kernel_rfl) (fun hc19 => ?_) (fun hc19 => ?_)
              · replace hq := cond_t hc19 hq
                refine runDS 6 [(63, pt 0), (64, c1 (vi v_.kind)), (65, c1 (vB (!decide (v_.kind = 5)))), (66, c1 (vB (!decide (v_.kind = 5)))), (67, c1 (vB (!decide (v_.kind = 5)))), (68, c1 (vB (!decide (v_.kind = 5))))] (by kernel_rfl) ?_
                refine partsD ((!decide (v_.kind = 5))) (fun zz => [(65, c1 (vB zz)), (66, c1 (vB zz)), (67, c1 (vB zz)), (68, c1 (vB zz))]) (by kernel_rfl) (fun hc20 => ?_) (fun hc20 => ?_)
                · replace hq := cond_t hc20 hq
                  refine lastKS (T' := sl 111 [(2, pt 0), (3, pt 1), (4, pt 2), (73, c1 (vB true))]) (by kernel_rfl) hR ?_
                  refine L_true hb (by kernel_rfl) (L_seq ?_)
                  refine L_regS hb [4, 5] (T' := sl 111 [(4, pt 2), (5, c1 (vi 6))]) (by kernel_rfl) ?_
                  refine L_ret ?_
                  have h0 := Option.some.inj hq
                  obtain rfl := h0
                  exact end_ret (by kernel_rfl)
                · replace hq := cond_f hc20 hq
                  refine lastKS (T' := sl 111 [(2, pt 0), (3, pt 1), (4, pt 2), (73, c1 (vB (!decide ((t_.elems.length : Int) = 1))))]) (by kernel_rfl) hR ?_
                  refine L_if hb (b := (!decide ((t_.elems.length : Int) = 1))) (by kernel_rfl) (fun hc21 => ?_) (fun hc21 => ?_)
                  · replace hq := cond_t hc21 hq
                    refine L_seq ?_
                    refine L_regS hb [4, 5] (T' := sl 111 [(4, pt 2), (5, c1 (vi 6))]) (by kernel_rfl) ?_
                    refine L_ret ?_
                    have h0 := Option.some.inj hq
                    obtain rfl := h0
                    exact end_ret (by kernel_rfl)
                  · replace hq := cond_f hc21 hq
                    refine L_skip (L_seq ?_)
                    refine L_regF hb [2, 3, 4, 6] (T' := sl 111 [(2, pt 0), (3, pt 1), (4, pt 2), (6, pt 3)]) (σ' := [bx (aV v_), bx (aT t_), bx zV, bx [vi v_.kind, vi 0, vS eS, vN, vL flS v_.keys]]) (by kernel_rfl) ?_
                    refine L_seq (L_seq ?_)
                    refine L_regS hb [2, 3, 4, 6, 7] (T' := sl 111 [(2, pt 0), (3, pt 1), (4, pt 2), (6, pt 3), (7, c1 (vi 0))]) (by kernel_rfl) ?_
                    refine L_block (fun K1 hA1 hB1 hC1 hD1 => ?_)
                    refine L_ownσ 3 3 5 (cs := [vi v_.kind, vi 0, vS eS, vN, vL flS v_.keys]) (by kernel_rfl) (by kernel_rfl) rfl ?_
                    refine L_backF [2, 3, 4, 6, 7] [] 5 (T' := sl 111 [(2, pt 0), (3, pt 1), (4, pt 2), (6, pt 3), (7, c1 (vi 0))]) (σ' := [bx (aV v_), bx (aT t_), bx zV, bx [vi v_.kind, vi 0, vS eS, vO flV 4 [], vL flS v_.keys], some (arO true flV.sz ((flV.f []).length) (flV.f []))]) (by kernel_rfl) (by kernel_rfl) (by simp) (by kernel_rfl) ⟨(by kernel_rfl), (by kernel_rfl), (by kernel_rfl), (by kernel_rfl), (under_arO _ _ _ _ _), trivial⟩ ?_
                    refine L_as (by kernel_rfl) (by kernel_rfl) (L_loopO (body := (g_r11_to_L2 r_r11_to v_ t_)) (fun s1 => sl 111 [(2, pt 0), (3, pt 1), (4, pt 2), (6, pt 3), (7, c1 (vi s1.1))]) (fun s1 => [bx (aV v_), bx (aT t_), bx zV, bx [vi v_.kind, vi 0, vS eS, vO flV 4 s1.2, vL flS v_.keys], some (arO true flV.sz ((flV.f s1.2).length) (flV.f s1.2))]) (s0 := (0, [])) (fun s1 x1 hq hn1 he1 => ?_) hq)
                    refine L_seq (L_seq ?_)
                    refine L_regS hb [2, 3, 4, 6, 7, 84] (T' := sl 111 [(2, pt 0), (3, pt 1), (4, pt 2), (6, pt 3), (7, c1 (vi s1.1)), (84, c1 (vB (decide (s1.1 < (v_.items.length : Int)))))]) (by kernel_rfl) ?_
                    refine L_if hb (b := (decide (s1.1 < (v_.items.length : Int)))) (by kernel_rfl) (fun hc22 => ?_) (fun hc22 => ?_)
                    · replace hq := cond_t hc22 hq
                      refine L_skip (L_seq (L_block (fun K2 hA2 hB2 hC2 hD2 => (L_seq ?_))))
                      refine L_drwK hb mixed [2, 3, 4, 6, 7, 8, 9] 14 (by kernel_rfl) (by kernel_rfl) (fun R hR => ?_)
                      refine runDS 3 [(88, c1 (.ptr 0 0 3)), (89, c1 (vL flV v_.items)), (90, c1 (vi s1.1))] (by kernel_rfl) ?_
                      obtain ⟨x23, hx23, hq⟩ := bind_inv hq
                      refine idxF flV (d := some 91) hx23 (by kernel_rfl) ?_
                      refine runPS 3 [(91, c1 (.pv (.pp (flV.c x23 ++ flV.f (List.drop (s1.1.toNat + 1) v_.items))))), (92, .one (.agg (aV x23))), (93, c1 (.ptr 1 0 1)), (94, c1 (vL flT t_.elems))] (by kernel_rfl) ?_
                      obtain ⟨x24, hx24, hq⟩ := bind_inv hq
                      refine idxF flT (d := some 95) hx24 (by kernel_rfl) ?_
                      refine runPS 1 [(95, c1 (.pv (.pp (flT.c x24 ++ flT.f (List.drop ((0 : Int).toNat + 1) t_.elems))))), (96, .one (.agg (aT x24)))] (by kernel_rfl) ?_
                      obtain ⟨y25, hy25, hq⟩ := bind_inv hq
                      refine callF (d := some 97) (by kernel_rfl) (hr_r11_to x23 x24 y25 hy25) ?_
                      refine lastF (T' := sl 111 [(2, pt 0), (3, pt 1), (4, pt 2), (6, pt 3), (7, c1 (vi s1.1)), (8, pt 5), (84, c1 (vB (decide (s1.1 < (v_.items.length : Int))))), (87, .tup [.agg (aV y25.1), .cell (vi y25.2)]), (88, c1 (.ptr 0 0 3)), (89, c1 (vL flV v_.items)), (90, c1 (vi s1.1)), (91, c1 (.pv (.pp (flV.c x23 ++ flV.f (List.drop (s1.1.toNat + 1) v_.items))))), (92, .one (.agg (aV x23))), (93, c1 (.ptr 1 0 1)), (94, c1 (vL flT t_.elems)), (95, c1 (.pv (.pp (flT.c x24 ++ flT.f (List.drop ((0 : Int).toNat + 1) t_.elems))))), (96, .one (.agg (aT x24))), (97, .tup [.agg (aV y25.1), .cell (vi y25.2)]), (98, .one (.agg (aV y25.1))), (99, c1 (vi y25.2))]) (σ' := [bx (aV v_), bx (aT t_), bx zV, bx [vi v_.kind, vi 0, vS eS, vO flV 4 s1.2, vL flS v_.keys], some (arO true flV.sz ((flV.f s1.2).length) (flV.f s1.2)), bx zV]) (by kernel_rfl) ?_
                      refine lastK (T' := sl 111 [(2, pt 0), (3, pt 1), (4, pt 2), (6, pt 3), (7, c1 (vi s1.1)), (8, pt 5), (9, c1 (vi y25.2))]) (σ' := [bx (aV v_), bx (aT t_), bx zV, bx [vi v_.kind, vi 0, vS eS, vO flV 4 s1.2, vL flS v_.keys], some (arO true flV.sz ((flV.f s1.2).length) (flV.f s1.2)), bx (aV y25.1)]) (by kernel_rfl) hR ?_
                      refine L_seq (L_seq ?_)
                      refine L_regS hb [2, 3, 4, 6, 7, 8, 9, 101] (T' := sl 111 [(2, pt 0), (3, pt 1), (4, pt 2), (6, pt 3), (7, c1 (vi s1.1)), (8, pt 5), (9, c1 (vi y25.2)), (101, c1 (vB (!decide (y25.2 = 0))))]) (by kernel_rfl) ?_
                      refine L_if hb (b := (!decide (y25.2 = 0))) (by kernel_rfl) (fun hc26 => ?_) (fun hc26 => ?_)
                      · replace hq := cond_t hc26 hq
                        refine L_seq ?_
                        refine L_regS hb [4, 5] (T' := sl 111 [(4, pt 2), (5, c1 (vi y25.2))]) (by kernel_rfl) ?_
                        refine L_ret (hD2 _ _ (hD1 _ _ ?_))
                        have h0 := (Option.some.inj hq).symm
                        replace h0 := he1 _ h0
                        obtain rfl := h0
                        exact end_ret (by kernel_rfl)
                      · replace hq := cond_f hc26 hq
                        refine L_skip ?_
                        refine L_regN hb (fun R hR => ?_)
                        refine runDS 4 [(104, c1 (.ptr 3 0 3)), (105, c1 (vO flV 4 s1.2)), (106, .one (.agg (aV y25.1))), (107, c1 (.pv (.sl true 1 [pI .i64 y25.1.kind, pI .i64 y25.1.num, pS y25.1.str, pL flV y25.1.items, pL flS y25.1.keys])))] (by kernel_rfl) ?_
                        obtain ⟨l27, hl27, hq⟩ := bind_inv hq
                        refine appOwnF flV (d := some 108) (id := 4) (s := .pv (.sl true 1 [pI .i64 y25.1.kind, pI .i64 y25.1.num, pS y25.1.str, pL flV y25.1.items, pL flS y25.1.keys])) (nb := true) (fr := (flV.f s1.2).length) hl27 (by kernel_rfl) (src_lit flV (flV.one y25.1) rfl) (by kernel_rfl) (Nat.le_refl _) ?_
                        refine lastF (T' := sl 111 [(2, pt 0), (3, pt 1), (4, pt 2), (6, pt 3), (7, c1 (vi s1.1)), (8, pt 5), (9, c1 (vi y25.2)), (101, c1 (vB (!decide (y25.2 = 0)))), (104, c1 (.ptr 3 0 3)), (105, c1 (vO flV 4 s1.2)), (106, .one (.agg (aV y25.1))), (107, c1 (.pv (.sl true 1 [pI .i64 y25.1.kind, pI .i64 y25.1.num, pS y25.1.str, pL flV y25.1.items, pL flS y25.1.keys]))), (108, c1 (vO flV 4 l27)), (109, c1 (.ptr 3 0 3))]) (σ' := [bx (aV v_), bx (aT t_), bx zV, bx [vi v_.kind, vi 0, vS eS, vO flV 4 l27, vL flS v_.keys], some (arO true flV.sz ((flV.f s1.2).length) (flV.f l27)), bx (aV y25.1)]) (by kernel_rfl) (hR _ _ ?_)
                        refine L_nil (hA2 _ _ ?_)
                        refine L_regS hb [2, 3, 4, 6, 7] (T' := sl 111 [(2, pt 0), (3, pt 1), (4, pt 2), (6, pt 3), (7, c1 (vi (IntKind.i64.wrap (s1.1 + 1))))]) (by kernel_rfl) ?_
                        refine L_mark 4 (nb := true) (cs := flV.f l27) rfl (app_le flV hl27) ?_
                        refine L_backF [2, 3, 4, 6, 7] [] 5 (T' := sl 111 [(2, pt 0), (3, pt 1), (4, pt 2), (6, pt 3), (7, c1 (vi (IntKind.i64.wrap (s1.1 + 1))))]) (σ' := [bx (aV v_), bx (aT t_), bx zV, bx [vi v_.kind, vi 0, vS eS, vO flV 4 l27, vL flS v_.keys], some (arO true flV.sz ((flV.f l27).length) (flV.f l27))]) (by kernel_rfl) (by kernel_rfl) (by simp) (by kernel_rfl) ⟨(by kernel_rfl), (by kernel_rfl), (by kernel_rfl), (by kernel_rfl), (under_arO _ _ _ _ _), trivial⟩ ?_
                        have h0 := (Option.some.inj hq).symm
                        exact L_as (by kernel_rfl) (by kernel_rfl) (hn1 _ h0)
                    · replace hq := cond_f hc22 hq
                      refine L_exit (hB1 _ _ (L_seq ?_))
                      refine L_regF hb [4, 5] (T' := sl 111 [(4, pt 2), (5, c1 (vi 0))]) (σ' := [bx (aV v_), bx (aT t_), bx [vi v_.kind, vi 0, vS eS, vO flV 4 s1.2, vL flS v_.keys], bx [vi v_.kind, vi 0, vS eS, vO flV 4 s1.2, vL flS v_.keys], some (arO true flV.sz ((flV.f s1.2).length) (flV.f s1.2))]) (by kernel_rfl) ?_
                      refine L_cellσ 2 3 (cs := [vi v_.kind, vi 0, vS eS, vO flV 4 s1.2, vL flS v_.keys]) (c := vO flV 4 s1.2) (by kernel_rfl) (by kernel_rfl) (conv_own flV (nb := true) (id := 4) (xs := s1.2) (by kernel_rfl)) ?_
                      refine L_ret ?_
                      have h0 := (Option.some.inj hq).symm
                      replace h0 := he1 _ h0
                      obtain rfl := h0
                      exact end_ret (by kernel_rfl)
              · replace hq := cond_f hc19 hq
                refine lastKS (T' := sl 111 [(2, pt 0), (3, pt 1), (4, pt 2), (73, c1 (vB (!decide ((t_.elems.length : Int) = 1))))]) (by kernel_rfl) hR ?_
                refine L_if hb (b := (!decide ((t_.elems.length : Int) = 1))) (by kernel_rfl) (fun hc28 => ?_) (fun hc28 => ?_)
                · replace hq := cond_t hc28 hq
                  refine L_seq ?_
                  refine L_regS hb [4, 5] (T' := sl 111 [(4, pt 2), (5, c1 (vi 6))]) (by kernel_rfl) ?_
                  refine L_ret ?_
                  have h0 := Option.some.inj hq
                  obtain rfl := h0
                  exact end_ret (by kernel_rfl)
                · replace hq := cond_f hc28 hq
                  refine L_skip (L_seq ?_)
                  refine L_regF hb [2, 3, 4, 6] (T' := sl 111 [(2, pt 0), (3, pt 1), (4, pt 2), (6, pt 3)]) (σ' := [bx (aV v_), bx (aT t_), bx zV, bx [vi v_.kind, vi 0, vS eS, vN, vL flS v_.keys]]) (by kernel_rfl) ?_
                  refine L_seq (L_seq ?_)
                  refine L_regS hb [2, 3, 4, 6, 7] (T' := sl 111 [(2, pt 0), (3, pt 1), (4, pt 2), (6, pt 3), (7, c1 (vi 0))]) (by kernel_rfl) ?_
                  refine L_block (fun K1 hA1 hB1 hC1 hD1 => ?_)
                  refine L_ownσ 3 3 5 (cs := [vi v_.kind, vi 0, vS eS, vN, vL flS v_.keys]) (by kernel_rfl) (by kernel_rfl) rfl ?_
                  refine L_backF [2, 3, 4, 6, 7] [] 5 (T' := sl 111 [(2, pt 0), (3, pt 1), (4, pt 2), (6, pt 3), (7, c1 (vi 0))]) (σ' := [bx (aV v_), bx (aT t_), bx zV, bx [vi v_.kind, vi 0, vS eS, vO flV 4 [], vL flS v_.keys], some (arO true flV.sz ((flV.f []).length) (flV.f []))]) (by kernel_rfl) (by kernel_rfl) (by simp) (by kernel_rfl) ⟨(by kernel_rfl), (by kernel_rfl), (by kernel_rfl), (by kernel_rfl), (under_arO _ _ _ _ _), trivial⟩ ?_
                  refine L_as (by kernel_rfl) (by kernel_rfl) (L_loopO (body := (g_r11_to_L3 r_r11_to v_ t_)) (fun s1 => sl 111 [(2, pt 0), (3, pt 1), (4, pt 2), (6, pt 3), (7, c1 (vi s1.1))]) (fun s1 => [bx (aV v_), bx (aT t_), bx zV, bx [vi v_.kind, vi 0, vS eS, vO flV 4 s1.2, vL flS v_.keys], some (arO true flV.sz ((flV.f s1.2).length) (flV.f s1.2))]) (s0 := (0, [])) (fun s1 x1 hq hn1 he1 => ?_) hq)
                  refine L_seq (L_seq ?_)
                  refine L_regS hb [2, 3, 4, 6, 7, 84] (T' := sl 111 [(2, pt 0), (3, pt 1), (4, pt 2), (6, pt 3), (7, c1 (vi s1.1)), (84, c1 (vB (decide (s1.1 < (v_.items.length : Int)))))]) (by kernel_rfl) ?_
                  refine L_if hb (b := (decide (s1.1 < (v_.items.length : Int)))) (by kernel_rfl) (fun hc29 => ?_) (fun hc29 => ?_)
                  · replace hq := cond_t hc29 hq
                    refine L_skip (L_seq (L_block (fun K2 hA2 hB2 hC2 hD2 => (L_seq ?_))))
                    refine L_drwK hb mixed [2, 3, 4, 6, 7, 8, 9] 14 (by kernel_rfl) (by kernel_rfl) (fun R hR => ?_)
                    refine runDS 3 [(88, c1 (.ptr 0 0 3)), (89, c1 (vL flV v_.items)), (90, c1 (vi s1.1))] (by kernel_rfl) ?_
                    obtain ⟨x30, hx30, hq⟩ := bind_inv hq
                    refine idxF flV (d := some 91) hx30 (by kernel_rfl) ?_
                    refine runPS 3 [(91, c1 (.pv (.pp (flV.c x30 ++ flV.f (List.drop (s1.1.toNat + 1) v_.items))))), (92, .one (.agg (aV x30))), (93, c1 (.ptr 1 0 1)), (94, c1 (vL flT t_.elems))] (by kernel_rfl) ?_
                    obtain ⟨x31, hx31, hq⟩ := bind_inv hq
                    refine idxF flT (d := some 95) hx31 (by kernel_rfl) ?_
                    refine runPS 1 [(95, c1 (.pv (.pp (flT.c x31 ++ flT.f (List.drop ((0 : Int).toNat + 1) t_.elems))))), (96, .one (.agg (aT x31)))] (by kernel_rfl) ?_
                    obtain ⟨y32, hy32, hq⟩ := bind_inv hq
                    refine callF (d := some 97) (by kernel_rfl) (hr_r11_to x30 x31 y32 hy32) ?_
                    refine lastF (T' := sl 111 [(2, pt 0), (3, pt 1), (4, pt 2), (6, pt 3), (7, c1 (vi s1.1)), (8, pt 5), (84, c1 (vB (decide (s1.1 < (v_.items.length : Int))))), (87, .tup [.agg (aV y32.1), .cell (vi y32.2)]), (88, c1 (.ptr 0 0 3)), (89, c1 (vL flV v_.items)), (90, c1 (vi s1.1)), (91, c1 (.pv (.pp (flV.c x30 ++ flV.f (List.drop (s1.1.toNat + 1) v_.items))))), (92, .one (.agg (aV x30))), (93, c1 (.ptr 1 0 1)), (94, c1 (vL flT t_.elems)), (95, c1 (.pv (.pp (flT.c x31 ++ flT.f (List.drop ((0 : Int).toNat + 1) t_.elems))))), (96, .one (.agg (aT x31))), (97, .tup [.agg (aV y32.1), .cell (vi y32.2)]), (98, .one (.agg (aV y32.1))), (99, c1 (vi y32.2))]) (σ' := [bx (aV v_), bx (aT t_), bx zV, bx [vi v_.kind, vi 0, vS eS, vO flV 4 s1.2, vL flS v_.keys], some (arO true flV.sz ((flV.f s1.2).length) (flV.f s1.2)), bx zV]) (by kernel_rfl) ?_
                    refine lastK (T' := sl 111 [(2, pt 0), (3, pt 1), (4, pt 2), (6, pt 3), (7, c1 (vi s1.1)), (8, pt 5), (9, c1 (vi y32.2))]) (σ' := [bx (aV v_), bx (aT t_), bx zV, bx [vi v_.kind, vi 0, vS eS, vO flV 4 s1.2, vL flS v_.keys], some (arO true flV.sz ((flV.f s1.2).length) (flV.f s1.2)), bx (aV y32.1)]) (by kernel_rfl) hR ?_
                    refine L_seq (L_seq ?_)
                    refine L_regS hb [2, 3, 4, 6, 7, 8, 9, 101] (T' := sl 111 [(2, pt 0), (3, pt 1), (4, pt 2), (6, pt 3), (7, c1 (vi s1.1)), (8, pt 5), (9, c1 (vi y32.2)), (101, c1 (vB (!decide (y32.2 = 0))))]) (by kernel_rfl) ?_
                    refine L_if hb (b := (!decide (y32.2 = 0))) (by kernel_rfl) (fun hc33 => ?_) (fun hc33 => ?_)
                    · replace hq := cond_t hc33 hq
                      refine L_seq ?_
                      refine L_regS hb [4, 5] (T' := sl 111 [(4, pt 2), (5, c1 (vi y32.2))]) (by kernel_rfl) ?_
                      refine L_ret (hD2 _ _ (hD1 _ _ ?_))
                      have h0 := (Option.some.inj hq).symm
                      replace h0 := he1 _ h0
                      obtain rfl := h0
                      exact end_ret (by kernel_rfl)
                    · replace hq := cond_f hc33 hq
                      refine L_skip ?_
                      refine L_regN hb (fun R hR => ?_)
                      refine runDS 4 [(104, c1 (.ptr 3 0 3)), (105, c1 (vO flV 4 s1.2)), (106, .one (.agg (aV y32.1))), (107, c1 (.pv (.sl true 1 [pI .i64 y32.1.kind, pI .i64 y32.1.num, pS y32.1.str, pL flV y32.1.items, pL flS y32.1.keys])))] (by kernel_rfl) ?_
                      obtain ⟨l34, hl34, hq⟩ := bind_inv hq
                      refine appOwnF flV (d := some 108) (id := 4) (s := .pv (.sl true 1 [pI .i64 y32.1.kind, pI .i64 y32.1.num, pS y32.1.str, pL flV y32.1.items, pL flS y32.1.keys])) (nb := true) (fr := (flV.f s1.2).length) hl34 (by kernel_rfl) (src_lit flV (flV.one y32.1) rfl) (by kernel_rfl) (Nat.le_refl _) ?_
                      refine lastF (T' := sl 111 [(2, pt 0), (3, pt 1), (4, pt 2), (6, pt 3), (7, c1 (vi s1.1)), (8, pt 5), (9, c1 (vi y32.2)), (101, c1 (vB (!decide (y32.2 = 0)))), (104, c1 (.ptr 3 0 3)), (105, c1 (vO flV 4 s1.2)), (106, .one (.agg (aV y32.1))), (107, c1 (.pv (.sl true 1 [pI .i64 y32.1.kind, pI .i64 y32.1.num, pS y32.1.str, pL flV y32.1.items, pL flS y32.1.keys]))), (108, c1 (vO flV 4 l34)), (109, c1 (.ptr 3 0 3))]) (σ' := [bx (aV v_), bx (aT t_), bx zV, bx [vi v_.kind, vi 0, vS eS, vO flV 4 l34, vL flS v_.keys], some (arO true flV.sz ((flV.f s1.2).length) (flV.f l34)), bx (aV y32.1)]) (by kernel_rfl) (hR _ _ ?_)
                      refine L_nil (hA2 _ _ ?_)
                      refine L_regS hb [2, 3, 4, 6, 7] (T' := sl 111 [(2, pt 0), (3, pt 1), (4, pt 2), (6, pt 3), (7, c1 (vi (IntKind.i64.wrap (s1.1 + 1))))]) (by kernel_rfl) ?_
                      refine L_mark 4 (nb := true) (cs := flV.f l34) rfl (app_le flV hl34) ?_
                      refine L_backF [2, 3, 4, 6, 7] [] 5 (T' := sl 111 [(2, pt 0), (3, pt 1), (4, pt 2), (6, pt 3), (7, c1 (vi (IntKind.i64.wrap (s1.1 + 1))))]) (σ' := [bx (aV v_), bx (aT t_), bx zV, bx [vi v_.kind, vi 0, vS eS, vO flV 4 l34, vL flS v_.keys], some (arO true flV.sz ((flV.f l34).length) (flV.f l34))]) (by kernel_rfl) (by kernel_rfl) (by simp) (by kernel_rfl) ⟨(by kernel_rfl), (by kernel_rfl), (by kernel_rfl), (by kernel_rfl), (under_arO _ _ _ _ _), trivial⟩ ?_
                      have h0 := (Option.some.inj hq).symm
                      exact L_as (by kernel_rfl) (by kernel_rfl) (hn1 _ h0)
                  · replace hq := cond_f hc29 hq
                    refine L_exit (hB1 _ _ (L_seq ?_))
                    refine L_regF hb [4, 5] (T' := sl 111 [(4, pt 2), (5, c1 (vi 0))]) (σ' := [bx (aV v_), bx (aT t_), bx [vi v_.kind, vi 0, vS eS, vO flV 4 s1.2, vL flS v_.keys], bx [vi v_.kind, vi 0, vS eS, vO flV 4 s1.2, vL flS v_.keys], some (arO true flV.sz ((flV.f s1.2).length) (flV.f s1.2))]) (by kernel_rfl) ?_
                    refine L_cellσ 2 3 (cs := [vi v_.kind, vi 0, vS eS, vO flV 4 s1.2, vL flS v_.keys]) (c := vO flV 4 s1.2) (by kernel_rfl) (by kernel_rfl) (conv_own flV (nb := true) (id := 4) (xs := s1.2) (by kernel_rfl)) ?_
                    refine L_ret ?_
                    have h0 := (Option.some.inj hq).symm
                    replace h0 := he1 _ h0
                    obtain rfl := h0
                    exact end_ret (by kernel_rfl)
noncomputable def t_r11_to_step (rec : Ty → Val → Option (Val × Int)) (a : Ty) (b : Val) : Option (Val × Int) :=
  g_r11_to (g_r11_object (fun a0 a1 => rec a1 a0)) (fun a0 a1 => rec a1 a0) b a
noncomputable def t_r11_to (a0 : Val) (a1 : Ty) : Option (Val × Int) := tieF relT wfT t_r11_to_step a1 a0
theorem t_r11_to_ok (hb : Base E E0 G) (he : ∀ w, E w → EnvV w) (a0 : Val) (a1 : Ty) (r : Val × Int) (hq : t_r11_to a0 a1 = some r) : Pure E E0 Tryz.prog 25 [.agg (aV a0), .agg (aT a1)] (.tup [.agg (aV r.1), .cell (vi r.2)]) :=
  tieF_ok (C := fun a b r => Pure E E0 Tryz.prog 25 [.agg (aV b), .agg (aT a)] (.tup [.agg (aV r.1), .cell (vi r.2)])) (fun rec hr a b r hq => g_r11_to_ok hb he (g_r11_object (fun a0 a1 => rec a1 a0)) (fun a0 a1 => rec a1 a0) (g_r11_object_ok hb he (fun a0 a1 => rec a1 a0) (fun a0 a1 r e => hr a1 a0 r e)) (fun a0 a1 r e => hr a1 a0 r e) b a r hq) a1 a0 r hq
noncomputable def t_r11_object (a0 : Val) (a1 : Ty) : Option (Val × Int) := (g_r11_object t_r11_to) a0 a1
theorem t_r11_object_ok (hb : Base E E0 G) (he : ∀ w, E w → EnvV w) (a0 : Val) (a1 : Ty) (r : Val × Int) (hq : t_r11_object a0 a1 = some r) : Pure E E0 Tryz.prog 43 [.agg (aV a0), .agg (aT a1)] (.tup [.agg (aV r.1), .cell (vi r.2)]) :=
  g_r11_object_ok hb he t_r11_to (t_r11_to_ok hb he) a0 a1 r hq
noncomputable def g_r11_single  (v_ : Val) (k_ : Int) : Option (Val × Int) :=
  bif (decide (v_.kind = 0)) then some ((Val.mk 0 0 eS [] []), 6) else (t_r11_to v_ (Ty.mk k_ [] [])).bind fun y2 => some (y2.1, y2.2)
theorem g_r11_single_ok (hb : Base E E0 G) (he : ∀ w, E w → EnvV w)   (v_ : Val) (k_ : Int) (r_ : Val × Int) (hq : g_r11_single v_ k_ = some r_) :
    Pure E E0 Tryz.prog 22 [.agg (aV v_), .cell (vi k_)] (.tup [.agg (aV r_.1), .cell (vi r_.2)]) := by
  refine pure_L Tryz.func22 rfl ?_
  refine L_keepF [0, 1] (T' := sl 16 [(0, .one (.agg (aV v_))), (1, c1 (vi k_))]) (by kernel_rfl) ?_
  refine L_seq ?_
  refine L_regF hb [1, 2, 4] (T' := sl 16 [(1, c1 (vi k_)), (2, pt 0), (4, pt 1)]) (σ' := [bx (aV v_), bx zV]) (by kernel_rfl) ?_
  refine L_seq (L_seq ?_)
  refine L_regS hb [1, 2, 4, 8] (T' := sl 16 [(1, c1 (vi k_)), (2, pt 0), (4, pt 1), (8, c1 (vB (decide (v_.kind = 0))))]) (by kernel_rfl) ?_
  refine L_if hb (b := (decide (v_.kind = 0))) (by kernel_rfl) (fun hc1 => ?_) (fun hc1 => ?_)
  · replace hq := cond_t hc1 hq
    refine L_seq ?_
    refine L_regS hb [4, 5] (T' := sl 16 [(4, pt 1), (5, c1 (vi 6))]) (by kernel_rfl) ?_
    refine L_ret ?_
    have h0 := Option.some.inj hq
    obtain rfl := h0
    exact end_ret (by kernel_rfl)
  · replace hq := cond_f hc1 hq
    refine L_skip (L_seq ?_)
    refine L_regK hb [4, 5] (fun R hR => ?_)
    refine runDS 3 [(10, .one (.agg (aV v_))), (11, c1 (vi k_)), (12, .one (.agg [vi k_, vN, vN]))] (by kernel_rfl) ?_
    obtain ⟨y2, hy2, hq⟩ := bind_inv hq
    refine callF (d := some 13) (by kernel_rfl) (t_r11_to_ok hb he v_ (Ty.mk k_ [] []) y2 hy2) ?_
    refine lastK (T' := sl 16 [(4, pt 1), (5, c1 (vi y2.2))]) (σ' := [bx (aV v_), bx (aV y2.1)]) (by kernel_rfl) hR ?_
    refine L_ret ?_
    have h0 := Option.some.inj hq
    obtain rfl := h0
    exact end_ret (by kernel_rfl)
noncomputable def g_r11_Text  (v_ : Val) : Option (Val × Int) :=
  (g_r11_single v_ 3).bind fun y1 => some (y1.1, y1.2)
theorem g_r11_Text_ok (hb : Base E E0 G) (he : ∀ w, E w → EnvV w)   (v_ : Val) (r_ : Val × Int) (hq : g_r11_Text v_ = some r_) :
    Pure E E0 Tryz.prog 8 [.agg (aV v_)] (.tup [.agg (aV r_.1), .cell (vi r_.2)]) := by
  refine pure_L Tryz.func8 rfl ?_
  refine L_keepF [0] (T' := sl 8 [(0, .one (.agg (aV v_)))]) (by kernel_rfl) ?_
  refine L_seq ?_
  refine L_regF hb [1, 2] (T' := sl 8 [(1, pt 0), (2, pt 1)]) (σ' := [bx (aV v_), bx zV]) (by kernel_rfl) ?_
  refine L_seq ?_
  refine L_regK hb [2, 3] (fun R hR => ?_)
  refine runDS 1 [(4, .one (.agg (aV v_)))] (by kernel_rfl) ?_
  obtain ⟨y1, hy1, hq⟩ := bind_inv hq
  refine callF (d := some 5) (by kernel_rfl) (g_r11_single_ok hb he v_ 3 y1 hy1) ?_
  refine lastK (T' := sl 8 [(2, pt 1), (3, c1 (vi y1.2))]) (σ' := [bx (aV v_), bx (aV y1.1)]) (by kernel_rfl) hR ?_
  refine L_ret ?_
  have h0 := Option.some.inj hq
  obtain rfl := h0
  exact end_ret (by kernel_rfl)
noncomputable def g_r11_Truth  (v_ : Val) : Option (Val × Int) :=
  (g_r11_single v_ 1).bind fun y1 => some (y1.1, y1.2)
theorem g_r11_Truth_ok (hb : Base E E0 G) (he : ∀ w, E w → EnvV w)   (v_ : Val) (r_ : Val × Int) (hq : g_r11_Truth v_ = some r_) :
    Pure E E0 Tryz.prog 10 [.agg (aV v_)] (.tup [.agg (aV r_.1), .cell (vi r_.2)]) := by
  refine pure_L Tryz.func10 rfl ?_
  refine L_keepF [0] (T' := sl 8 [(0, .one (.agg (aV v_)))]) (by kernel_rfl) ?_
  refine L_seq ?_
  refine L_regF hb [1, 2] (T' := sl 8 [(1, pt 0), (2, pt 1)]) (σ' := [bx (aV v_), bx zV]) (by kernel_rfl) ?_
  refine L_seq ?_
  refine L_regK hb [2, 3] (fun R hR => ?_)
  refine runDS 1 [(4, .one (.agg (aV v_)))] (by kernel_rfl) ?_
  obtain ⟨y1, hy1, hq⟩ := bind_inv hq
  refine callF (d := some 5) (by kernel_rfl) (g_r11_single_ok hb he v_ 1 y1 hy1) ?_
  refine lastK (T' := sl 8 [(2, pt 1), (3, c1 (vi y1.2))]) (σ' := [bx (aV v_), bx (aV y1.1)]) (by kernel_rfl) hR ?_
  refine L_ret ?_
  have h0 := Option.some.inj hq
  obtain rfl := h0
  exact end_ret (by kernel_rfl)
end Abs
end Go.Proofs.YtkmhhboihgckcaaGreatDoor
