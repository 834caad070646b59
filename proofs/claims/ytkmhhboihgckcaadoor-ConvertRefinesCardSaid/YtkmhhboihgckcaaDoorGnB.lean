/-
  Convert: Go functions as functions over plain values, with the proof that the code computes them; printed by gen.py.
-/
import Derived.Test.YtkmhhboihgckcaaDoorGnA
namespace Go.Proofs.YtkmhhboihgckcaaDoor
namespace Abs
open Go.RowKit
variable {E : World → Prop} {E0 : Nat} {G : Nat → Option (List PV)}
set_option maxRecDepth 100000
set_option linter.unusedVariables false
attribute [local irreducible] asqX awpL awp asq asqD Pure Ok asqF sl loopO
noncomputable def g_convert_toObject_L2 (r_convert_to : Val → Ty → Option (Val × Int)) (v_ : Val) (t_ : Ty) (y5 : List ByteArray) (s2 : Int × List Val) : Option ((Int × List Val) ⊕ ((Int) ⊕ (Val × Int))) :=
  bif (decide (s2.1 < (t_.names.length : Int))) then (idx t_.names s2.1).bind fun x7 => (g_value_Get v_ x7).bind fun y8 => (idx t_.elems s2.1).bind fun x9 => (r_convert_to y8.1 x9).bind fun y10 => bif (!decide (y10.2 = 0)) then some (.inr (.inr ((Val.mk 0 0 eS [] []), y10.2))) else (app 80 s2.2 [y10.1]).bind fun l12 => some (.inl ((IntKind.i64.wrap (s2.1 + 1)), l12)) else some (.inr (.inr ((Val.mk 5 0 eS s2.2 y5), 0)))
noncomputable def g_convert_toObject_L1 (r_convert_to : Val → Ty → Option (Val × Int)) (v_ : Val) (t_ : Ty) (s1 : Int) : Option ((Int) ⊕ (Val × Int)) :=
  bif (decide (s1 < (v_.keys.length : Int))) then (idx v_.keys s1).bind fun x2 => (g_slices_Contains t_.names x2).bind fun y3 => bif (!y3) then some (.inr ((Val.mk 0 0 eS [] []), 13)) else some (.inl (IntKind.i64.wrap (s1 + 1))) else (clone 16 t_.names).bind fun y5 => loopO (g_convert_toObject_L2 r_convert_to v_ t_ y5) (0, [])
noncomputable def g_convert_toObject (r_convert_to : Val → Ty → Option (Val × Int)) (v_ : Val) (t_ : Ty) : Option (Val × Int) :=
  loopO (g_convert_toObject_L1 r_convert_to v_ t_) 0
theorem g_convert_toObject_ok (hb : Base E E0 G) (he : ∀ w, E w → EnvV w) (r_convert_to : Val → Ty → Option (Val × Int)) (hr_convert_to : ∀ (a0 : Val) (a1 : Ty) (r : Val × Int), r_convert_to a0 a1 = some r → Pure E E0 Tryd.prog 25 [.agg (aV a0), .agg (aT a1)] (.tup [.agg (aV r.1), .cell (vi r.2)])) (v_ : Val) (t_ : Ty) (r_ : Val × Int) (hq : g_convert_toObject r_convert_to v_ t_ = some r_) :
    Pure E E0 Tryd.prog 38 [.agg (aV v_), .agg (aT t_)] (.tup [.agg (aV r_.1), .cell (vi r_.2)]) := by
  refine pure_L Tryd.func38 rfl ?_
  refine L_keepF [0, 1] (T' := sl 69 [(0, .one (.agg (aV v_))), (1, .one (.agg (aT t_)))]) (by kernel_rfl) ?_
  refine L_seq ?_
  refine L_regF hb [2, 3, 4] (T' := sl 69 [(2, c1 (.ptr 0 0 0)), (3, c1 (.ptr 1 0 0)), (4, c1 (.ptr 2 0 0))]) (σ' := [some (.box (aV v_)), some (.box (aT t_)), some (.box zV)]) (by kernel_rfl) ?_
  refine L_seq (L_seq ?_)
  refine L_regF hb [2, 3, 4, 16, 17, 18] (T' := sl 69 [(2, c1 (.ptr 0 0 0)), (3, c1 (.ptr 1 0 0)), (4, c1 (.ptr 2 0 0)), (16, c1 (vL flS v_.keys)), (17, c1 (vi (v_.keys.length : Int))), (18, c1 (vi 0))]) (σ' := [some (.box (aV v_)), some (.box (aT t_)), some (.box zV)]) (by kernel_rfl) ?_
  refine L_block (fun K1 hA1 hB1 hC1 hD1 => ?_)
  refine L_backF [2, 3, 4, 16, 17, 18] [] 3 (T' := sl 69 [(2, c1 (.ptr 0 0 0)), (3, c1 (.ptr 1 0 0)), (4, c1 (.ptr 2 0 0)), (16, c1 (vL flS v_.keys)), (17, c1 (vi (v_.keys.length : Int))), (18, c1 (vi 0))]) (σ' := [some (.box (aV v_)), some (.box (aT t_)), some (.box zV)]) (by kernel_rfl) (by kernel_rfl) (by simp) (by kernel_rfl) ⟨(by kernel_rfl), (by kernel_rfl), (by kernel_rfl), trivial⟩ ?_
  refine L_as (by kernel_rfl) (by kernel_rfl) (L_loopO (body := (g_convert_toObject_L1 r_convert_to v_ t_)) (fun s1 => sl 69 [(2, c1 (.ptr 0 0 0)), (3, c1 (.ptr 1 0 0)), (4, c1 (.ptr 2 0 0)), (16, c1 (vL flS v_.keys)), (17, c1 (vi (v_.keys.length : Int))), (18, c1 (vi s1))]) (fun s1 => [some (.box (aV v_)), some (.box (aT t_)), some (.box zV)]) (s0 := 0) (fun s1 x1 hq hn1 he1 => ?_) hq)
  refine L_seq ?_
  refine L_regF hb [2, 3, 4, 16, 17, 18, 19] (T' := sl 69 [(2, c1 (.ptr 0 0 0)), (3, c1 (.ptr 1 0 0)), (4, c1 (.ptr 2 0 0)), (16, c1 (vL flS v_.keys)), (17, c1 (vi (v_.keys.length : Int))), (18, c1 (vi s1)), (19, c1 (vB (decide (s1 < (v_.keys.length : Int)))))]) (σ' := [some (.box (aV v_)), some (.box (aT t_)), some (.box zV)]) (by kernel_rfl) ?_
  refine L_seq ?_
  refine L_if hb (b := (decide (s1 < (v_.keys.length : Int)))) (by kernel_rfl) (fun hc1 => ?_) (fun hc1 => ?_)
  · replace hq := cond_t hc1 hq
    refine L_skip (L_seq (L_block (fun K2 hA2 hB2 hC2 hD2 => (L_seq ?_))))
    refine L_regK hb [2, 3, 4, 7, 16, 17, 18] (fun R hR => ?_)
    obtain ⟨x2, hx2, hq⟩ := bind_inv hq
    refine idxF flS (d := some 20) hx2 (by kernel_rfl) ?_
    refine lastK (T' := sl 69 [(2, c1 (.ptr 0 0 0)), (3, c1 (.ptr 1 0 0)), (4, c1 (.ptr 2 0 0)), (7, c1 (vS x2)), (16, c1 (vL flS v_.keys)), (17, c1 (vi (v_.keys.length : Int))), (18, c1 (vi s1))]) (σ' := [some (.box (aV v_)), some (.box (aT t_)), some (.box zV)]) (by kernel_rfl) hR ?_
    refine L_seq ?_
    refine L_regK hb [2, 3, 4, 16, 17, 18, 26] (fun R hR => ?_)
    refine runF 3 (T' := sl 69 [(2, c1 (.ptr 0 0 0)), (3, c1 (.ptr 1 0 0)), (4, c1 (.ptr 2 0 0)), (7, c1 (vS x2)), (16, c1 (vL flS v_.keys)), (17, c1 (vi (v_.keys.length : Int))), (18, c1 (vi s1)), (22, c1 (.ptr 1 0 2)), (23, c1 (vL flS t_.names)), (24, c1 (vS x2))]) (σ' := [some (.box (aV v_)), some (.box (aT t_)), some (.box zV)]) (by kernel_rfl) ?_
    obtain ⟨y3, hy3, hq⟩ := bind_inv hq
    refine callF (d := some 25) (by kernel_rfl) (g_slices_Contains_ok hb he t_.names x2 y3 hy3) ?_
    refine lastK (T' := sl 69 [(2, c1 (.ptr 0 0 0)), (3, c1 (.ptr 1 0 0)), (4, c1 (.ptr 2 0 0)), (16, c1 (vL flS v_.keys)), (17, c1 (vi (v_.keys.length : Int))), (18, c1 (vi s1)), (26, c1 (vB (!y3)))]) (σ' := [some (.box (aV v_)), some (.box (aT t_)), some (.box zV)]) (by kernel_rfl) hR ?_
    refine L_if hb (b := (!y3)) (by kernel_rfl) (fun hc4 => ?_) (fun hc4 => ?_)
    · replace hq := cond_t hc4 hq
      refine L_seq ?_
      refine L_regF hb [4, 5] (T' := sl 69 [(4, c1 (.ptr 2 0 0)), (5, c1 (vi 13))]) (σ' := [some (.box (aV v_)), some (.box (aT t_)), some (.box zV)]) (by kernel_rfl) ?_
      refine L_ret (hD2 _ _ (hD1 _ _ ?_))
      have h0 := (Option.some.inj hq).symm
      replace h0 := he1 _ h0
      obtain rfl := h0
      exact end_ret (by kernel_rfl)
    · replace hq := cond_f hc4 hq
      refine L_skip (L_nil (hA2 _ _ ?_))
      refine L_regF hb [2, 3, 4, 16, 17, 18] (T' := sl 69 [(2, c1 (.ptr 0 0 0)), (3, c1 (.ptr 1 0 0)), (4, c1 (.ptr 2 0 0)), (16, c1 (vL flS v_.keys)), (17, c1 (vi (v_.keys.length : Int))), (18, c1 (vi (IntKind.i64.wrap (s1 + 1))))]) (σ' := [some (.box (aV v_)), some (.box (aT t_)), some (.box zV)]) (by kernel_rfl) ?_
      refine L_backF [2, 3, 4, 16, 17, 18] [] 3 (T' := sl 69 [(2, c1 (.ptr 0 0 0)), (3, c1 (.ptr 1 0 0)), (4, c1 (.ptr 2 0 0)), (16, c1 (vL flS v_.keys)), (17, c1 (vi (v_.keys.length : Int))), (18, c1 (vi (IntKind.i64.wrap (s1 + 1))))]) (σ' := [some (.box (aV v_)), some (.box (aT t_)), some (.box zV)]) (by kernel_rfl) (by kernel_rfl) (by simp) (by kernel_rfl) ⟨(by kernel_rfl), (by kernel_rfl), (by kernel_rfl), trivial⟩ ?_
      have h0 := (Option.some.inj hq).symm
      exact L_as (by kernel_rfl) (by kernel_rfl) (hn1 _ h0)
  · replace hq := cond_f hc1 hq
    refine L_exit (hB1 _ _ (L_seq ?_))
    refine L_regK hb [2, 3, 4, 8] (fun R hR => ?_)
    refine runF 2 (T' := sl 69 [(2, c1 (.ptr 0 0 0)), (3, c1 (.ptr 1 0 0)), (4, c1 (.ptr 2 0 0)), (16, c1 (vL flS v_.keys)), (17, c1 (vi (v_.keys.length : Int))), (18, c1 (vi s1)), (19, c1 (vB (decide (s1 < (v_.keys.length : Int))))), (29, c1 (.ptr 1 0 2)), (30, c1 (vL flS t_.names))]) (σ' := [some (.box (aV v_)), some (.box (aT t_)), some (.box zV)]) (by kernel_rfl) ?_
    obtain ⟨y5, hy5, hq⟩ := bind_inv hq
    refine callF (d := some 31) (by kernel_rfl) (cloneK_g hb he t_.names y5 hy5) ?_
    refine lastK (T' := sl 69 [(2, c1 (.ptr 0 0 0)), (3, c1 (.ptr 1 0 0)), (4, c1 (.ptr 2 0 0)), (8, c1 (.ptr 3 0 0))]) (σ' := [some (.box (aV v_)), some (.box (aT t_)), some (.box zV), some (.box [vi 5, vi 0, vS eS, vN, vL flS y5])]) (by kernel_rfl) hR ?_
    refine L_seq (L_seq ?_)
    refine L_regF hb [2, 3, 4, 8, 34, 35, 36] (T' := sl 69 [(2, c1 (.ptr 0 0 0)), (3, c1 (.ptr 1 0 0)), (4, c1 (.ptr 2 0 0)), (8, c1 (.ptr 3 0 0)), (34, c1 (vL flS t_.names)), (35, c1 (vi (t_.names.length : Int))), (36, c1 (vi 0))]) (σ' := [some (.box (aV v_)), some (.box (aT t_)), some (.box zV), some (.box [vi 5, vi 0, vS eS, vN, vL flS y5])]) (by kernel_rfl) ?_
    refine L_block (fun K1 hA1 hB1 hC1 hD1 => ?_)
    refine L_ownσ 3 3 5 (cs := [vi 5, vi 0, vS eS, vN, vL flS y5]) (by kernel_rfl) (by kernel_rfl) rfl ?_
    refine L_backF [2, 3, 4, 8, 34, 35, 36] [] 5 (T' := sl 69 [(2, c1 (.ptr 0 0 0)), (3, c1 (.ptr 1 0 0)), (4, c1 (.ptr 2 0 0)), (8, c1 (.ptr 3 0 0)), (34, c1 (vL flS t_.names)), (35, c1 (vi (t_.names.length : Int))), (36, c1 (vi 0))]) (σ' := [some (.box (aV v_)), some (.box (aT t_)), some (.box zV), some (.box [vi 5, vi 0, vS eS, vO flV 4 [], vL flS y5]), some (arO true flV.sz ((flV.f []).length) (flV.f []))]) (by kernel_rfl) (by kernel_rfl) (by simp) (by kernel_rfl) ⟨(by kernel_rfl), (by kernel_rfl), (by kernel_rfl), (by kernel_rfl), (under_arO _ _ _ _ _), trivial⟩ ?_
    refine L_as (by kernel_rfl) (by kernel_rfl) (L_loopO (body := (g_convert_toObject_L2 r_convert_to v_ t_ y5)) (fun s2 => sl 69 [(2, c1 (.ptr 0 0 0)), (3, c1 (.ptr 1 0 0)), (4, c1 (.ptr 2 0 0)), (8, c1 (.ptr 3 0 0)), (34, c1 (vL flS t_.names)), (35, c1 (vi (t_.names.length : Int))), (36, c1 (vi s2.1))]) (fun s2 => [some (.box (aV v_)), some (.box (aT t_)), some (.box zV), some (.box [vi 5, vi 0, vS eS, vO flV 4 s2.2, vL flS y5]), some (arO true flV.sz ((flV.f s2.2).length) (flV.f s2.2))]) (s0 := (0, [])) (fun s2 x2 hq hn2 he2 => ?_) hq)
    refine L_seq ?_
    refine L_regF hb [2, 3, 4, 8, 34, 35, 36, 37] (T' := sl 69 [(2, c1 (.ptr 0 0 0)), (3, c1 (.ptr 1 0 0)), (4, c1 (.ptr 2 0 0)), (8, c1 (.ptr 3 0 0)), (34, c1 (vL flS t_.names)), (35, c1 (vi (t_.names.length : Int))), (36, c1 (vi s2.1)), (37, c1 (vB (decide (s2.1 < (t_.names.length : Int)))))]) (σ' := [some (.box (aV v_)), some (.box (aT t_)), some (.box zV), some (.box [vi 5, vi 0, vS eS, vO flV 4 s2.2, vL flS y5]), some (arO true flV.sz ((flV.f s2.2).length) (flV.f s2.2))]) (by kernel_rfl) ?_
    refine L_seq ?_
    refine L_if hb (b := (decide (s2.1 < (t_.names.length : Int)))) (by kernel_rfl) (fun hc6 => ?_) (fun hc6 => ?_)
    · replace hq := cond_t hc6 hq
      refine L_skip (L_seq (L_block (fun K2 hA2 hB2 hC2 hD2 => (L_seq ?_))))
      refine L_regK hb [2, 3, 4, 8, 9, 10, 34, 35, 36] (fun R hR => ?_)
      refine runF 1 (T' := sl 69 [(2, c1 (.ptr 0 0 0)), (3, c1 (.ptr 1 0 0)), (4, c1 (.ptr 2 0 0)), (8, c1 (.ptr 3 0 0)), (34, c1 (vL flS t_.names)), (35, c1 (vi (t_.names.length : Int))), (36, c1 (vi s2.1)), (37, c1 (vB (decide (s2.1 < (t_.names.length : Int))))), (38, c1 (vi s2.1))]) (σ' := [some (.box (aV v_)), some (.box (aT t_)), some (.box zV), some (.box [vi 5, vi 0, vS eS, vO flV 4 s2.2, vL flS y5]), some (arO true flV.sz ((flV.f s2.2).length) (flV.f s2.2))]) (by kernel_rfl) ?_
      obtain ⟨x7, hx7, hq⟩ := bind_inv hq
      refine idxF flS (d := some 39) hx7 (by kernel_rfl) ?_
      refine lastK (T' := sl 69 [(2, c1 (.ptr 0 0 0)), (3, c1 (.ptr 1 0 0)), (4, c1 (.ptr 2 0 0)), (8, c1 (.ptr 3 0 0)), (9, c1 (vi s2.1)), (10, c1 (vS x7)), (34, c1 (vL flS t_.names)), (35, c1 (vi (t_.names.length : Int))), (36, c1 (vi s2.1))]) (σ' := [some (.box (aV v_)), some (.box (aT t_)), some (.box zV), some (.box [vi 5, vi 0, vS eS, vO flV 4 s2.2, vL flS y5]), some (arO true flV.sz ((flV.f s2.2).length) (flV.f s2.2))]) (by kernel_rfl) hR ?_
      refine L_seq ?_
      refine L_regK hb [2, 3, 4, 8, 9, 11, 34, 35, 36] (fun R hR => ?_)
      refine runF 2 (T' := sl 69 [(2, c1 (.ptr 0 0 0)), (3, c1 (.ptr 1 0 0)), (4, c1 (.ptr 2 0 0)), (8, c1 (.ptr 3 0 0)), (9, c1 (vi s2.1)), (10, c1 (vS x7)), (34, c1 (vL flS t_.names)), (35, c1 (vi (t_.names.length : Int))), (36, c1 (vi s2.1)), (42, .one (.agg (aV v_))), (43, c1 (vS x7))]) (σ' := [some (.box (aV v_)), some (.box (aT t_)), some (.box zV), some (.box [vi 5, vi 0, vS eS, vO flV 4 s2.2, vL flS y5]), some (arO true flV.sz ((flV.f s2.2).length) (flV.f s2.2))]) (by kernel_rfl) ?_
      obtain ⟨y8, hy8, hq⟩ := bind_inv hq
      refine callF (d := some 44) (by kernel_rfl) (g_value_Get_ok hb he v_ x7 y8 hy8) ?_
      refine lastK (T' := sl 69 [(2, c1 (.ptr 0 0 0)), (3, c1 (.ptr 1 0 0)), (4, c1 (.ptr 2 0 0)), (8, c1 (.ptr 3 0 0)), (9, c1 (vi s2.1)), (11, c1 (.ptr 5 0 0)), (34, c1 (vL flS t_.names)), (35, c1 (vi (t_.names.length : Int))), (36, c1 (vi s2.1))]) (σ' := [some (.box (aV v_)), some (.box (aT t_)), some (.box zV), some (.box [vi 5, vi 0, vS eS, vO flV 4 s2.2, vL flS y5]), some (arO true flV.sz ((flV.f s2.2).length) (flV.f s2.2)), some (.box (aV y8.1))]) (by kernel_rfl) hR ?_
      refine L_seq ?_
      refine L_drwK hb mixed [2, 3, 4, 8, 13, 14, 34, 35, 36] 11 (by kernel_rfl) (by kernel_rfl) (fun R hR => ?_)
      refine runF 4 (T' := sl 69 [(2, c1 (.ptr 0 0 0)), (3, c1 (.ptr 1 0 0)), (4, c1 (.ptr 2 0 0)), (8, c1 (.ptr 3 0 0)), (9, c1 (vi s2.1)), (11, c1 (.ptr 5 0 0)), (34, c1 (vL flS t_.names)), (35, c1 (vi (t_.names.length : Int))), (36, c1 (vi s2.1)), (48, .one (.agg (aV y8.1))), (49, c1 (.ptr 1 0 1)), (50, c1 (vL flT t_.elems)), (51, c1 (vi s2.1))]) (σ' := [some (.box (aV v_)), some (.box (aT t_)), some (.box zV), some (.box [vi 5, vi 0, vS eS, vO flV 4 s2.2, vL flS y5]), some (arO true flV.sz ((flV.f s2.2).length) (flV.f s2.2)), some (.box (aV y8.1))]) (by kernel_rfl) ?_
      obtain ⟨x9, hx9, hq⟩ := bind_inv hq
      refine idxF flT (d := some 52) hx9 (by kernel_rfl) ?_
      refine runF 1 (T' := sl 69 [(2, c1 (.ptr 0 0 0)), (3, c1 (.ptr 1 0 0)), (4, c1 (.ptr 2 0 0)), (8, c1 (.ptr 3 0 0)), (9, c1 (vi s2.1)), (11, c1 (.ptr 5 0 0)), (34, c1 (vL flS t_.names)), (35, c1 (vi (t_.names.length : Int))), (36, c1 (vi s2.1)), (48, .one (.agg (aV y8.1))), (49, c1 (.ptr 1 0 1)), (50, c1 (vL flT t_.elems)), (51, c1 (vi s2.1)), (52, c1 (.pv (.pp (flT.c x9 ++ flT.f (List.drop (s2.1.toNat + 1) t_.elems))))), (53, .one (.agg (aT x9)))]) (σ' := [some (.box (aV v_)), some (.box (aT t_)), some (.box zV), some (.box [vi 5, vi 0, vS eS, vO flV 4 s2.2, vL flS y5]), some (arO true flV.sz ((flV.f s2.2).length) (flV.f s2.2)), some (.box (aV y8.1))]) (by kernel_rfl) ?_
      obtain ⟨y10, hy10, hq⟩ := bind_inv hq
      refine callF (d := some 54) (by kernel_rfl) (hr_convert_to y8.1 x9 y10 hy10) ?_
      refine lastF (T' := sl 69 [(2, c1 (.ptr 0 0 0)), (3, c1 (.ptr 1 0 0)), (4, c1 (.ptr 2 0 0)), (8, c1 (.ptr 3 0 0)), (9, c1 (vi s2.1)), (11, c1 (.ptr 5 0 0)), (13, c1 (.ptr 6 0 0)), (34, c1 (vL flS t_.names)), (35, c1 (vi (t_.names.length : Int))), (36, c1 (vi s2.1)), (47, .tup [.agg (aV y10.1), .cell (vi y10.2)]), (48, .one (.agg (aV y8.1))), (49, c1 (.ptr 1 0 1)), (50, c1 (vL flT t_.elems)), (51, c1 (vi s2.1)), (52, c1 (.pv (.pp (flT.c x9 ++ flT.f (List.drop (s2.1.toNat + 1) t_.elems))))), (53, .one (.agg (aT x9))), (54, .tup [.agg (aV y10.1), .cell (vi y10.2)]), (55, .one (.agg (aV y10.1))), (56, c1 (vi y10.2))]) (σ' := [some (.box (aV v_)), some (.box (aT t_)), some (.box zV), some (.box [vi 5, vi 0, vS eS, vO flV 4 s2.2, vL flS y5]), some (arO true flV.sz ((flV.f s2.2).length) (flV.f s2.2)), some (.box (aV y8.1)), some (.box zV)]) (by kernel_rfl) ?_
      refine lastK (T' := sl 69 [(2, c1 (.ptr 0 0 0)), (3, c1 (.ptr 1 0 0)), (4, c1 (.ptr 2 0 0)), (8, c1 (.ptr 3 0 0)), (13, c1 (.ptr 6 0 0)), (14, c1 (vi y10.2)), (34, c1 (vL flS t_.names)), (35, c1 (vi (t_.names.length : Int))), (36, c1 (vi s2.1))]) (σ' := [some (.box (aV v_)), some (.box (aT t_)), some (.box zV), some (.box [vi 5, vi 0, vS eS, vO flV 4 s2.2, vL flS y5]), some (arO true flV.sz ((flV.f s2.2).length) (flV.f s2.2)), some (.box (aV y8.1)), some (.box (aV y10.1))]) (by kernel_rfl) hR ?_
      refine L_seq (L_seq ?_)
      refine L_regF hb [2, 3, 4, 8, 13, 14, 34, 35, 36, 58] (T' := sl 69 [(2, c1 (.ptr 0 0 0)), (3, c1 (.ptr 1 0 0)), (4, c1 (.ptr 2 0 0)), (8, c1 (.ptr 3 0 0)), (13, c1 (.ptr 6 0 0)), (14, c1 (vi y10.2)), (34, c1 (vL flS t_.names)), (35, c1 (vi (t_.names.length : Int))), (36, c1 (vi s2.1)), (58, c1 (vB (!decide (y10.2 = 0))))]) (σ' := [some (.box (aV v_)), some (.box (aT t_)), some (.box zV), some (.box [vi 5, vi 0, vS eS, vO flV 4 s2.2, vL flS y5]), some (arO true flV.sz ((flV.f s2.2).length) (flV.f s2.2)), some (.box (aV y8.1)), some (.box (aV y10.1))]) (by kernel_rfl) ?_
      refine L_if hb (b := (!decide (y10.2 = 0))) (by kernel_rfl) (fun hc11 => ?_) (fun hc11 => ?_)
      · replace hq := cond_t hc11 hq
        refine L_seq ?_
        refine L_regF hb [4, 5] (T' := sl 69 [(4, c1 (.ptr 2 0 0)), (5, c1 (vi y10.2))]) (σ' := [some (.box (aV v_)), some (.box (aT t_)), some (.box zV), some (.box [vi 5, vi 0, vS eS, vO flV 4 s2.2, vL flS y5]), some (arO true flV.sz ((flV.f s2.2).length) (flV.f s2.2)), some (.box (aV y8.1)), some (.box (aV y10.1))]) (by kernel_rfl) ?_
        refine L_ret (hD2 _ _ (hD1 _ _ ?_))
        have h0 := (Option.some.inj hq).symm
        replace h0 := he2 _ h0
        replace h0 := h0.symm
        replace h0 := he1 _ h0
        obtain rfl := h0
        exact end_ret (by kernel_rfl)
      · replace hq := cond_f hc11 hq
        refine L_skip ?_
        refine L_regN hb (fun R hR => ?_)
        refine runF 4 (T' := sl 69 [(2, c1 (.ptr 0 0 0)), (3, c1 (.ptr 1 0 0)), (4, c1 (.ptr 2 0 0)), (8, c1 (.ptr 3 0 0)), (13, c1 (.ptr 6 0 0)), (14, c1 (vi y10.2)), (34, c1 (vL flS t_.names)), (35, c1 (vi (t_.names.length : Int))), (36, c1 (vi s2.1)), (58, c1 (vB (!decide (y10.2 = 0)))), (61, c1 (.ptr 3 0 3)), (62, c1 (vO flV 4 s2.2)), (63, .one (.agg (aV y10.1))), (64, c1 (.pv (.sl true 1 [pI .i64 y10.1.kind, pI .i64 y10.1.num, pS y10.1.str, pL flV y10.1.items, pL flS y10.1.keys])))]) (σ' := [some (.box (aV v_)), some (.box (aT t_)), some (.box zV), some (.box [vi 5, vi 0, vS eS, vO flV 4 s2.2, vL flS y5]), some (arO true flV.sz ((flV.f s2.2).length) (flV.f s2.2)), some (.box (aV y8.1)), some (.box (aV y10.1))]) (by kernel_rfl) ?_
        obtain ⟨l12, hl12, hq⟩ := bind_inv hq
        refine appOwnF flV (d := some 65) (id := 4) (s := .pv (.sl true 1 [pI .i64 y10.1.kind, pI .i64 y10.1.num, pS y10.1.str, pL flV y10.1.items, pL flS y10.1.keys])) (nb := true) (fr := (flV.f s2.2).length) hl12 (by kernel_rfl) (src_lit flV (flV.one y10.1) rfl) (by kernel_rfl) (Nat.le_refl _) ?_
        refine lastF (T' := sl 69 [(2, c1 (.ptr 0 0 0)), (3, c1 (.ptr 1 0 0)), (4, c1 (.ptr 2 0 0)), (8, c1 (.ptr 3 0 0)), (13, c1 (.ptr 6 0 0)), (14, c1 (vi y10.2)), (34, c1 (vL flS t_.names)), (35, c1 (vi (t_.names.length : Int))), (36, c1 (vi s2.1)), (58, c1 (vB (!decide (y10.2 = 0)))), (61, c1 (.ptr 3 0 3)), (62, c1 (vO flV 4 s2.2)), (63, .one (.agg (aV y10.1))), (64, c1 (.pv (.sl true 1 [pI .i64 y10.1.kind, pI .i64 y10.1.num, pS y10.1.str, pL flV y10.1.items, pL flS y10.1.keys]))), (65, c1 (vO flV 4 l12)), (66, c1 (.ptr 3 0 3))]) (σ' := [some (.box (aV v_)), some (.box (aT t_)), some (.box zV), some (.box [vi 5, vi 0, vS eS, vO flV 4 l12, vL flS y5]), some (arO true flV.sz ((flV.f s2.2).length) (flV.f l12)), some (.box (aV y8.1)), some (.box (aV y10.1))]) (by kernel_rfl) (hR _ _ ?_)
        refine L_nil (hA2 _ _ ?_)
        refine L_regF hb [2, 3, 4, 8, 34, 35, 36] (T' := sl 69 [(2, c1 (.ptr 0 0 0)), (3, c1 (.ptr 1 0 0)), (4, c1 (.ptr 2 0 0)), (8, c1 (.ptr 3 0 0)), (34, c1 (vL flS t_.names)), (35, c1 (vi (t_.names.length : Int))), (36, c1 (vi (IntKind.i64.wrap (s2.1 + 1))))]) (σ' := [some (.box (aV v_)), some (.box (aT t_)), some (.box zV), some (.box [vi 5, vi 0, vS eS, vO flV 4 l12, vL flS y5]), some (arO true flV.sz ((flV.f s2.2).length) (flV.f l12)), some (.box (aV y8.1)), some (.box (aV y10.1))]) (by kernel_rfl) ?_
        refine L_mark 4 (nb := true) (cs := flV.f l12) rfl (app_le flV hl12) ?_
        refine L_backF [2, 3, 4, 8, 34, 35, 36] [] 5 (T' := sl 69 [(2, c1 (.ptr 0 0 0)), (3, c1 (.ptr 1 0 0)), (4, c1 (.ptr 2 0 0)), (8, c1 (.ptr 3 0 0)), (34, c1 (vL flS t_.names)), (35, c1 (vi (t_.names.length : Int))), (36, c1 (vi (IntKind.i64.wrap (s2.1 + 1))))]) (σ' := [some (.box (aV v_)), some (.box (aT t_)), some (.box zV), some (.box [vi 5, vi 0, vS eS, vO flV 4 l12, vL flS y5]), some (arO true flV.sz ((flV.f l12).length) (flV.f l12))]) (by kernel_rfl) (by kernel_rfl) (by simp) (by kernel_rfl) ⟨(by kernel_rfl), (by kernel_rfl), (by kernel_rfl), (by kernel_rfl), (under_arO _ _ _ _ _), trivial⟩ ?_
        have h0 := (Option.some.inj hq).symm
        exact L_as (by kernel_rfl) (by kernel_rfl) (hn2 _ h0)
    · replace hq := cond_f hc6 hq
      refine L_exit (hB1 _ _ (L_seq ?_))
      refine L_regF hb [4, 5] (T' := sl 69 [(4, c1 (.ptr 2 0 0)), (5, c1 (vi 0))]) (σ' := [some (.box (aV v_)), some (.box (aT t_)), some (.box [vi 5, vi 0, vS eS, vO flV 4 s2.2, vL flS y5]), some (.box [vi 5, vi 0, vS eS, vO flV 4 s2.2, vL flS y5]), some (arO true flV.sz ((flV.f s2.2).length) (flV.f s2.2))]) (by kernel_rfl) ?_
      refine L_cellσ 2 3 (cs := [vi 5, vi 0, vS eS, vO flV 4 s2.2, vL flS y5]) (c := vO flV 4 s2.2) (by kernel_rfl) (by kernel_rfl) (conv_own flV (nb := true) (id := 4) (xs := s2.2) (by kernel_rfl)) ?_
      refine L_ret ?_
      have h0 := (Option.some.inj hq).symm
      replace h0 := he2 _ h0
      replace h0 := h0.symm
      replace h0 := he1 _ h0
      obtain rfl := h0
      exact end_ret (by kernel_rfl)
noncomputable def g_convert_to (r_convert_toObject : Val → Ty → Option (Val × Int)) (r_convert_each : Val → Ty → Option (Val × Int)) (v_ : Val) (t_ : Ty) : Option (Val × Int) :=
  bif (decide (t_.kind = 0)) then (cpy v_).bind fun y2 => some (y2, 0) else bif (decide (v_.kind = 0)) then (cpy v_).bind fun y4 => some (y4, 0) else bif (decide (v_.kind = 6)) then (cpy v_).bind fun y6 => some (y6, 0) else bif (decide (t_.kind = 1)) then (g_convert_toBool v_).bind fun y8 => some (y8.1, y8.2) else bif (decide (t_.kind = 2)) then (g_convert_toNumber v_).bind fun y10 => some (y10.1, y10.2) else bif (decide (t_.kind = 3)) then (g_convert_toString v_).bind fun y12 => some (y12.1, y12.2) else bif (decide (t_.kind = 4)) then bif (decide (v_.kind = 4)) then (idx t_.elems 0).bind fun x15 => (r_convert_each v_ x15).bind fun y16 => some (y16.1, y16.2) else some ((Val.mk 0 0 eS [] []), 6) else bif (decide (t_.kind = 5)) then bif (decide (v_.kind = 5)) then (idx t_.elems 0).bind fun x19 => (r_convert_each v_ x19).bind fun y20 => some (y20.1, y20.2) else some ((Val.mk 0 0 eS [] []), 6) else bif (decide (t_.kind = 6)) then bif (decide (v_.kind = 5)) then (r_convert_toObject v_ t_).bind fun y23 => some (y23.1, y23.2) else some ((Val.mk 0 0 eS [] []), 6) else some ((Val.mk 0 0 eS [] []), 6)
theorem g_convert_to_ok (hb : Base E E0 G) (he : ∀ w, E w → EnvV w) (r_convert_toObject : Val → Ty → Option (Val × Int)) (r_convert_each : Val → Ty → Option (Val × Int)) (hr_convert_toObject : ∀ (a0 : Val) (a1 : Ty) (r : Val × Int), r_convert_toObject a0 a1 = some r → Pure E E0 Tryd.prog 38 [.agg (aV a0), .agg (aT a1)] (.tup [.agg (aV r.1), .cell (vi r.2)])) (hr_convert_each : ∀ (a0 : Val) (a1 : Ty) (r : Val × Int), r_convert_each a0 a1 = some r → Pure E E0 Tryd.prog 37 [.agg (aV a0), .agg (aT a1)] (.tup [.agg (aV r.1), .cell (vi r.2)])) (v_ : Val) (t_ : Ty) (r_ : Val × Int) (hq : g_convert_to r_convert_toObject r_convert_each v_ t_ = some r_) :
    Pure E E0 Tryd.prog 25 [.agg (aV v_), .agg (aT t_)] (.tup [.agg (aV r_.1), .cell (vi r_.2)]) := by
  refine pure_L Tryd.func25 rfl ?_
  refine L_keepF [0, 1] (T' := sl 78 [(0, .one (.agg (aV v_))), (1, .one (.agg (aT t_)))]) (by kernel_rfl) ?_
  refine L_seq ?_
  refine L_regF hb [2, 3, 4] (T' := sl 78 [(2, c1 (.ptr 0 0 0)), (3, c1 (.ptr 1 0 0)), (4, c1 (.ptr 2 0 0))]) (σ' := [some (.box (aV v_)), some (.box (aT t_)), some (.box zV)]) (by kernel_rfl) ?_
  refine L_seq (L_seq ?_)
  refine L_regK hb [2, 3, 4, 18] (fun R hR => ?_)
  refine runF 4 (T' := sl 78 [(2, c1 (.ptr 0 0 0)), (3, c1 (.ptr 1 0 0)), (4, c1 (.ptr 2 0 0)), (6, c1 (.ptr 1 0 0)), (7, c1 (vi t_.kind)), (8, c1 (vB (decide (t_.kind = 0)))), (9, c1 (vB (decide (t_.kind = 0))))]) (σ' := [some (.box (aV v_)), some (.box (aT t_)), some (.box zV)]) (by kernel_rfl) ?_
  refine partsF ((decide (t_.kind = 0))) (fun zz => sl 78 [(2, c1 (.ptr 0 0 0)), (3, c1 (.ptr 1 0 0)), (4, c1 (.ptr 2 0 0)), (6, c1 (.ptr 1 0 0)), (7, c1 (vi t_.kind)), (8, c1 (vB zz)), (9, c1 (vB zz))]) (by kernel_rfl) (fun hc1 => ?_) (fun hc1 => ?_)
  · replace hq := cond_t hc1 hq
    refine lastK (T' := sl 78 [(2, c1 (.ptr 0 0 0)), (3, c1 (.ptr 1 0 0)), (4, c1 (.ptr 2 0 0)), (18, c1 (vB true))]) (σ' := [some (.box (aV v_)), some (.box (aT t_)), some (.box zV)]) (by kernel_rfl) hR ?_
    refine L_true hb (by kernel_rfl) (L_seq ?_)
    refine L_regK hb [4, 5] (fun R hR => ?_)
    refine runF 1 (T' := sl 78 [(2, c1 (.ptr 0 0 0)), (3, c1 (.ptr 1 0 0)), (4, c1 (.ptr 2 0 0)), (18, c1 (vB true)), (19, .one (.agg (aV v_)))]) (σ' := [some (.box (aV v_)), some (.box (aT t_)), some (.box zV)]) (by kernel_rfl) ?_
    obtain ⟨y2, hy2, hq⟩ := bind_inv hq
    refine callF (d := some 20) (by kernel_rfl) (ccopied_g hb he v_ y2 hy2) ?_
    refine lastK (T' := sl 78 [(4, c1 (.ptr 2 0 0)), (5, c1 (vi 0))]) (σ' := [some (.box (aV v_)), some (.box (aT t_)), some (.box (aV y2))]) (by kernel_rfl) hR ?_
    refine L_ret ?_
    have h0 := Option.some.inj hq
    obtain rfl := h0
    exact end_ret (by kernel_rfl)
  · replace hq := cond_f hc1 hq
    refine runF 5 (T' := sl 78 [(2, c1 (.ptr 0 0 0)), (3, c1 (.ptr 1 0 0)), (4, c1 (.ptr 2 0 0)), (6, c1 (.ptr 1 0 0)), (7, c1 (vi t_.kind)), (8, c1 (vB false)), (9, c1 (vB false)), (10, c1 (.ptr 0 0 0)), (11, c1 (vi v_.kind)), (12, c1 (vB (decide (v_.kind = 0)))), (13, c1 (vB (decide (v_.kind = 0)))), (14, c1 (vB (decide (v_.kind = 0))))]) (σ' := [some (.box (aV v_)), some (.box (aT t_)), some (.box zV)]) (by kernel_rfl) ?_
    refine partsF ((decide (v_.kind = 0))) (fun zz => sl 78 [(2, c1 (.ptr 0 0 0)), (3, c1 (.ptr 1 0 0)), (4, c1 (.ptr 2 0 0)), (6, c1 (.ptr 1 0 0)), (7, c1 (vi t_.kind)), (8, c1 (vB false)), (9, c1 (vB false)), (10, c1 (.ptr 0 0 0)), (11, c1 (vi v_.kind)), (12, c1 (vB zz)), (13, c1 (vB zz)), (14, c1 (vB zz))]) (by kernel_rfl) (fun hc3 => ?_) (fun hc3 => ?_)
    · replace hq := cond_t hc3 hq
      refine lastK (T' := sl 78 [(2, c1 (.ptr 0 0 0)), (3, c1 (.ptr 1 0 0)), (4, c1 (.ptr 2 0 0)), (18, c1 (vB true))]) (σ' := [some (.box (aV v_)), some (.box (aT t_)), some (.box zV)]) (by kernel_rfl) hR ?_
      refine L_true hb (by kernel_rfl) (L_seq ?_)
      refine L_regK hb [4, 5] (fun R hR => ?_)
      refine runF 1 (T' := sl 78 [(2, c1 (.ptr 0 0 0)), (3, c1 (.ptr 1 0 0)), (4, c1 (.ptr 2 0 0)), (18, c1 (vB true)), (19, .one (.agg (aV v_)))]) (σ' := [some (.box (aV v_)), some (.box (aT t_)), some (.box zV)]) (by kernel_rfl) ?_
      obtain ⟨y4, hy4, hq⟩ := bind_inv hq
      refine callF (d := some 20) (by kernel_rfl) (ccopied_g hb he v_ y4 hy4) ?_
      refine lastK (T' := sl 78 [(4, c1 (.ptr 2 0 0)), (5, c1 (vi 0))]) (σ' := [some (.box (aV v_)), some (.box (aT t_)), some (.box (aV y4))]) (by kernel_rfl) hR ?_
      refine L_ret ?_
      have h0 := Option.some.inj hq
      obtain rfl := h0
      exact end_ret (by kernel_rfl)
    · replace hq := cond_f hc3 hq
      refine lastK (T' := sl 78 [(2, c1 (.ptr 0 0 0)), (3, c1 (.ptr 1 0 0)), (4, c1 (.ptr 2 0 0)), (18, c1 (vB (decide (v_.kind = 6))))]) (σ' := [some (.box (aV v_)), some (.box (aT t_)), some (.box zV)]) (by kernel_rfl) hR ?_
      refine L_if hb (b := (decide (v_.kind = 6))) (by kernel_rfl) (fun hc5 => ?_) (fun hc5 => ?_)
      · replace hq := cond_t hc5 hq
        refine L_seq ?_
        refine L_regK hb [4, 5] (fun R hR => ?_)
        refine runF 1 (T' := sl 78 [(2, c1 (.ptr 0 0 0)), (3, c1 (.ptr 1 0 0)), (4, c1 (.ptr 2 0 0)), (18, c1 (vB (decide (v_.kind = 6)))), (19, .one (.agg (aV v_)))]) (σ' := [some (.box (aV v_)), some (.box (aT t_)), some (.box zV)]) (by kernel_rfl) ?_
        obtain ⟨y6, hy6, hq⟩ := bind_inv hq
        refine callF (d := some 20) (by kernel_rfl) (ccopied_g hb he v_ y6 hy6) ?_
        refine lastK (T' := sl 78 [(4, c1 (.ptr 2 0 0)), (5, c1 (vi 0))]) (σ' := [some (.box (aV v_)), some (.box (aT t_)), some (.box (aV y6))]) (by kernel_rfl) hR ?_
        refine L_ret ?_
        have h0 := Option.some.inj hq
        obtain rfl := h0
        exact end_ret (by kernel_rfl)
      · replace hq := cond_f hc5 hq
        refine L_skip (L_seq (L_seq ?_))
        refine L_regF hb [2, 3, 4, 22] (T' := sl 78 [(2, c1 (.ptr 0 0 0)), (3, c1 (.ptr 1 0 0)), (4, c1 (.ptr 2 0 0)), (22, c1 (vi t_.kind))]) (σ' := [some (.box (aV v_)), some (.box (aT t_)), some (.box zV)]) (by kernel_rfl) ?_
        refine L_block (fun K1 hA1 hB1 hC1 hD1 => (L_seq ?_))
        refine L_regF hb [2, 3, 4, 22, 23] (T' := sl 78 [(2, c1 (.ptr 0 0 0)), (3, c1 (.ptr 1 0 0)), (4, c1 (.ptr 2 0 0)), (22, c1 (vi t_.kind)), (23, c1 (vB (decide (t_.kind = 1))))]) (σ' := [some (.box (aV v_)), some (.box (aT t_)), some (.box zV)]) (by kernel_rfl) ?_
        refine L_if hb (b := (decide (t_.kind = 1))) (by kernel_rfl) (fun hc7 => ?_) (fun hc7 => ?_)
        · replace hq := cond_t hc7 hq
          refine L_seq ?_
          refine L_regK hb [4, 5] (fun R hR => ?_)
          refine runF 1 (T' := sl 78 [(2, c1 (.ptr 0 0 0)), (3, c1 (.ptr 1 0 0)), (4, c1 (.ptr 2 0 0)), (22, c1 (vi t_.kind)), (23, c1 (vB (decide (t_.kind = 1)))), (25, .one (.agg (aV v_)))]) (σ' := [some (.box (aV v_)), some (.box (aT t_)), some (.box zV)]) (by kernel_rfl) ?_
          obtain ⟨y8, hy8, hq⟩ := bind_inv hq
          refine callF (d := some 26) (by kernel_rfl) (g_convert_toBool_ok hb he v_ y8 hy8) ?_
          refine lastK (T' := sl 78 [(4, c1 (.ptr 2 0 0)), (5, c1 (vi y8.2))]) (σ' := [some (.box (aV v_)), some (.box (aT t_)), some (.box (aV y8.1))]) (by kernel_rfl) hR ?_
          refine L_ret (hD1 _ _ ?_)
          have h0 := Option.some.inj hq
          obtain rfl := h0
          exact end_ret (by kernel_rfl)
        · replace hq := cond_f hc7 hq
          refine L_seq ?_
          refine L_regF hb [2, 3, 4, 22, 29] (T' := sl 78 [(2, c1 (.ptr 0 0 0)), (3, c1 (.ptr 1 0 0)), (4, c1 (.ptr 2 0 0)), (22, c1 (vi t_.kind)), (29, c1 (vB (decide (t_.kind = 2))))]) (σ' := [some (.box (aV v_)), some (.box (aT t_)), some (.box zV)]) (by kernel_rfl) ?_
          refine L_if hb (b := (decide (t_.kind = 2))) (by kernel_rfl) (fun hc9 => ?_) (fun hc9 => ?_)
          · replace hq := cond_t hc9 hq
            refine L_seq ?_
            refine L_regK hb [4, 5] (fun R hR => ?_)
            refine runF 1 (T' := sl 78 [(2, c1 (.ptr 0 0 0)), (3, c1 (.ptr 1 0 0)), (4, c1 (.ptr 2 0 0)), (22, c1 (vi t_.kind)), (29, c1 (vB (decide (t_.kind = 2)))), (31, .one (.agg (aV v_)))]) (σ' := [some (.box (aV v_)), some (.box (aT t_)), some (.box zV)]) (by kernel_rfl) ?_
            obtain ⟨y10, hy10, hq⟩ := bind_inv hq
            refine callF (d := some 32) (by kernel_rfl) (g_convert_toNumber_ok hb he v_ y10 hy10) ?_
            refine lastK (T' := sl 78 [(4, c1 (.ptr 2 0 0)), (5, c1 (vi y10.2))]) (σ' := [some (.box (aV v_)), some (.box (aT t_)), some (.box (aV y10.1))]) (by kernel_rfl) hR ?_
            refine L_ret (hD1 _ _ ?_)
            have h0 := Option.some.inj hq
            obtain rfl := h0
            exact end_ret (by kernel_rfl)
          · replace hq := cond_f hc9 hq
            refine L_seq ?_
            refine L_regF hb [2, 3, 4, 22, 35] (T' := sl 78 [(2, c1 (.ptr 0 0 0)), (3, c1 (.ptr 1 0 0)), (4, c1 (.ptr 2 0 0)), (22, c1 (vi t_.kind)), (35, c1 (vB (decide (t_.kind = 3))))]) (σ' := [some (.box (aV v_)), some (.box (aT t_)), some (.box zV)]) (by kernel_rfl) ?_
            refine L_if hb (b := (decide (t_.kind = 3))) (by kernel_rfl) (fun hc11 => ?_) (fun hc11 => ?_)
            · replace hq := cond_t hc11 hq
              refine L_seq ?_
              refine L_regK hb [4, 5] (fun R hR => ?_)
              refine runF 1 (T' := sl 78 [(2, c1 (.ptr 0 0 0)), (3, c1 (.ptr 1 0 0)), (4, c1 (.ptr 2 0 0)), (22, c1 (vi t_.kind)), (35, c1 (vB (decide (t_.kind = 3)))), (37, .one (.agg (aV v_)))]) (σ' := [some (.box (aV v_)), some (.box (aT t_)), some (.box zV)]) (by kernel_rfl) ?_
              obtain ⟨y12, hy12, hq⟩ := bind_inv hq
              refine callF (d := some 38) (by kernel_rfl) (g_convert_toString_ok hb he v_ y12 hy12) ?_
              refine lastK (T' := sl 78 [(4, c1 (.ptr 2 0 0)), (5, c1 (vi y12.2))]) (σ' := [some (.box (aV v_)), some (.box (aT t_)), some (.box (aV y12.1))]) (by kernel_rfl) hR ?_
              refine L_ret (hD1 _ _ ?_)
              have h0 := Option.some.inj hq
              obtain rfl := h0
              exact end_ret (by kernel_rfl)
            · replace hq := cond_f hc11 hq
              refine L_seq ?_
              refine L_regF hb [2, 3, 4, 22, 41] (T' := sl 78 [(2, c1 (.ptr 0 0 0)), (3, c1 (.ptr 1 0 0)), (4, c1 (.ptr 2 0 0)), (22, c1 (vi t_.kind)), (41, c1 (vB (decide (t_.kind = 4))))]) (σ' := [some (.box (aV v_)), some (.box (aT t_)), some (.box zV)]) (by kernel_rfl) ?_
              refine L_if hb (b := (decide (t_.kind = 4))) (by kernel_rfl) (fun hc13 => ?_) (fun hc13 => ?_)
              · replace hq := cond_t hc13 hq
                refine L_seq ?_
                refine L_regF hb [2, 3, 4, 45] (T' := sl 78 [(2, c1 (.ptr 0 0 0)), (3, c1 (.ptr 1 0 0)), (4, c1 (.ptr 2 0 0)), (45, c1 (vB (decide (v_.kind = 4))))]) (σ' := [some (.box (aV v_)), some (.box (aT t_)), some (.box zV)]) (by kernel_rfl) ?_
                refine L_if hb (b := (decide (v_.kind = 4))) (by kernel_rfl) (fun hc14 => ?_) (fun hc14 => ?_)
                · replace hq := cond_t hc14 hq
                  refine L_seq ?_
                  refine L_drwK hb mixed [4, 5] 7 (by kernel_rfl) (by kernel_rfl) (fun R hR => ?_)
                  refine runF 3 (T' := sl 78 [(2, c1 (.ptr 0 0 0)), (3, c1 (.ptr 1 0 0)), (4, c1 (.ptr 2 0 0)), (45, c1 (vB (decide (v_.kind = 4)))), (46, .one (.agg (aV v_))), (47, c1 (.ptr 1 0 1)), (48, c1 (vL flT t_.elems))]) (σ' := [some (.box (aV v_)), some (.box (aT t_)), some (.box zV)]) (by kernel_rfl) ?_
                  obtain ⟨x15, hx15, hq⟩ := bind_inv hq
                  refine idxF flT (d := some 49) hx15 (by kernel_rfl) ?_
                  refine runF 1 (T' := sl 78 [(2, c1 (.ptr 0 0 0)), (3, c1 (.ptr 1 0 0)), (4, c1 (.ptr 2 0 0)), (45, c1 (vB (decide (v_.kind = 4)))), (46, .one (.agg (aV v_))), (47, c1 (.ptr 1 0 1)), (48, c1 (vL flT t_.elems)), (49, c1 (.pv (.pp (flT.c x15 ++ flT.f (List.drop ((0 : Int).toNat + 1) t_.elems))))), (50, .one (.agg (aT x15)))]) (σ' := [some (.box (aV v_)), some (.box (aT t_)), some (.box zV)]) (by kernel_rfl) ?_
                  obtain ⟨y16, hy16, hq⟩ := bind_inv hq
                  refine callF (d := some 51) (by kernel_rfl) (hr_convert_each v_ x15 y16 hy16) ?_
                  refine lastF (T' := sl 78 [(2, c1 (.ptr 0 0 0)), (3, c1 (.ptr 1 0 0)), (4, c1 (.ptr 2 0 0)), (45, c1 (vB (decide (v_.kind = 4)))), (46, .one (.agg (aV v_))), (47, c1 (.ptr 1 0 1)), (48, c1 (vL flT t_.elems)), (49, c1 (.pv (.pp (flT.c x15 ++ flT.f (List.drop ((0 : Int).toNat + 1) t_.elems))))), (50, .one (.agg (aT x15))), (51, .tup [.agg (aV y16.1), .cell (vi y16.2)]), (52, .one (.agg (aV y16.1)))]) (σ' := [some (.box (aV v_)), some (.box (aT t_)), some (.box zV)]) (by kernel_rfl) ?_
                  refine lastK (T' := sl 78 [(4, c1 (.ptr 2 0 0)), (5, c1 (vi y16.2))]) (σ' := [some (.box (aV v_)), some (.box (aT t_)), some (.box (aV y16.1))]) (by kernel_rfl) hR ?_
                  refine L_ret (hD1 _ _ ?_)
                  have h0 := Option.some.inj hq
                  obtain rfl := h0
                  exact end_ret (by kernel_rfl)
                · replace hq := cond_f hc14 hq
                  refine L_skip (L_nil (hA1 _ _ (L_seq ?_)))
                  refine L_regF hb [4, 5] (T' := sl 78 [(4, c1 (.ptr 2 0 0)), (5, c1 (vi 6))]) (σ' := [some (.box (aV v_)), some (.box (aT t_)), some (.box zV)]) (by kernel_rfl) ?_
                  refine L_ret ?_
                  have h0 := Option.some.inj hq
                  obtain rfl := h0
                  exact end_ret (by kernel_rfl)
              · replace hq := cond_f hc13 hq
                refine L_seq ?_
                refine L_regF hb [2, 3, 4, 22, 54] (T' := sl 78 [(2, c1 (.ptr 0 0 0)), (3, c1 (.ptr 1 0 0)), (4, c1 (.ptr 2 0 0)), (22, c1 (vi t_.kind)), (54, c1 (vB (decide (t_.kind = 5))))]) (σ' := [some (.box (aV v_)), some (.box (aT t_)), some (.box zV)]) (by kernel_rfl) ?_
                refine L_if hb (b := (decide (t_.kind = 5))) (by kernel_rfl) (fun hc17 => ?_) (fun hc17 => ?_)
                · replace hq := cond_t hc17 hq
                  refine L_seq ?_
                  refine L_regF hb [2, 3, 4, 58] (T' := sl 78 [(2, c1 (.ptr 0 0 0)), (3, c1 (.ptr 1 0 0)), (4, c1 (.ptr 2 0 0)), (58, c1 (vB (decide (v_.kind = 5))))]) (σ' := [some (.box (aV v_)), some (.box (aT t_)), some (.box zV)]) (by kernel_rfl) ?_
                  refine L_if hb (b := (decide (v_.kind = 5))) (by kernel_rfl) (fun hc18 => ?_) (fun hc18 => ?_)
                  · replace hq := cond_t hc18 hq
                    refine L_seq ?_
                    refine L_drwK hb mixed [4, 5] 7 (by kernel_rfl) (by kernel_rfl) (fun R hR => ?_)
                    refine runF 3 (T' := sl 78 [(2, c1 (.ptr 0 0 0)), (3, c1 (.ptr 1 0 0)), (4, c1 (.ptr 2 0 0)), (58, c1 (vB (decide (v_.kind = 5)))), (59, .one (.agg (aV v_))), (60, c1 (.ptr 1 0 1)), (61, c1 (vL flT t_.elems))]) (σ' := [some (.box (aV v_)), some (.box (aT t_)), some (.box zV)]) (by kernel_rfl) ?_
                    obtain ⟨x19, hx19, hq⟩ := bind_inv hq
                    refine idxF flT (d := some 62) hx19 (by kernel_rfl) ?_
                    refine runF 1 (T' := sl 78 [(2, c1 (.ptr 0 0 0)), (3, c1 (.ptr 1 0 0)), (4, c1 (.ptr 2 0 0)), (58, c1 (vB (decide (v_.kind = 5)))), (59, .one (.agg (aV v_))), (60, c1 (.ptr 1 0 1)), (61, c1 (vL flT t_.elems)), (62, c1 (.pv (.pp (flT.c x19 ++ flT.f (List.drop ((0 : Int).toNat + 1) t_.elems))))), (63, .one (.agg (aT x19)))]) (σ' := [some (.box (aV v_)), some (.box (aT t_)), some (.box zV)]) (by kernel_rfl) ?_
                    obtain ⟨y20, hy20, hq⟩ := bind_inv hq
                    refine callF (d := some 64) (by kernel_rfl) (hr_convert_each v_ x19 y20 hy20) ?_
                    refine lastF (T' := sl 78 [(2, c1 (.ptr 0 0 0)), (3, c1 (.ptr 1 0 0)), (4, c1 (.ptr 2 0 0)), (58, c1 (vB (decide (v_.kind = 5)))), (59, .one (.agg (aV v_))), (60, c1 (.ptr 1 0 1)), (61, c1 (vL flT t_.elems)), (62, c1 (.pv (.pp (flT.c x19 ++ flT.f (List.drop ((0 : Int).toNat + 1) t_.elems))))), (63, .one (.agg (aT x19))), (64, .tup [.agg (aV y20.1), .cell (vi y20.2)]), (65, .one (.agg (aV y20.1)))]) (σ' := [some (.box (aV v_)), some (.box (aT t_)), some (.box zV)]) (by kernel_rfl) ?_
                    refine lastK (T' := sl 78 [(4, c1 (.ptr 2 0 0)), (5, c1 (vi y20.2))]) (σ' := [some (.box (aV v_)), some (.box (aT t_)), some (.box (aV y20.1))]) (by kernel_rfl) hR ?_
                    refine L_ret (hD1 _ _ ?_)
                    have h0 := Option.some.inj hq
                    obtain rfl := h0
                    exact end_ret (by kernel_rfl)
                  · replace hq := cond_f hc18 hq
                    refine L_skip (L_nil (hA1 _ _ (L_seq ?_)))
                    refine L_regF hb [4, 5] (T' := sl 78 [(4, c1 (.ptr 2 0 0)), (5, c1 (vi 6))]) (σ' := [some (.box (aV v_)), some (.box (aT t_)), some (.box zV)]) (by kernel_rfl) ?_
                    refine L_ret ?_
                    have h0 := Option.some.inj hq
                    obtain rfl := h0
                    exact end_ret (by kernel_rfl)
                · replace hq := cond_f hc17 hq
                  refine L_seq ?_
                  refine L_regF hb [2, 3, 4, 67] (T' := sl 78 [(2, c1 (.ptr 0 0 0)), (3, c1 (.ptr 1 0 0)), (4, c1 (.ptr 2 0 0)), (67, c1 (vB (decide (t_.kind = 6))))]) (σ' := [some (.box (aV v_)), some (.box (aT t_)), some (.box zV)]) (by kernel_rfl) ?_
                  refine L_if hb (b := (decide (t_.kind = 6))) (by kernel_rfl) (fun hc21 => ?_) (fun hc21 => ?_)
                  · replace hq := cond_t hc21 hq
                    refine L_seq ?_
                    refine L_regF hb [2, 3, 4, 71] (T' := sl 78 [(2, c1 (.ptr 0 0 0)), (3, c1 (.ptr 1 0 0)), (4, c1 (.ptr 2 0 0)), (71, c1 (vB (decide (v_.kind = 5))))]) (σ' := [some (.box (aV v_)), some (.box (aT t_)), some (.box zV)]) (by kernel_rfl) ?_
                    refine L_if hb (b := (decide (v_.kind = 5))) (by kernel_rfl) (fun hc22 => ?_) (fun hc22 => ?_)
                    · replace hq := cond_t hc22 hq
                      refine L_seq ?_
                      refine L_regK hb [4, 5] (fun R hR => ?_)
                      refine runF 2 (T' := sl 78 [(2, c1 (.ptr 0 0 0)), (3, c1 (.ptr 1 0 0)), (4, c1 (.ptr 2 0 0)), (71, c1 (vB (decide (v_.kind = 5)))), (72, .one (.agg (aV v_))), (73, .one (.agg (aT t_)))]) (σ' := [some (.box (aV v_)), some (.box (aT t_)), some (.box zV)]) (by kernel_rfl) ?_
                      obtain ⟨y23, hy23, hq⟩ := bind_inv hq
                      refine callF (d := some 74) (by kernel_rfl) (hr_convert_toObject v_ t_ y23 hy23) ?_
                      refine lastK (T' := sl 78 [(4, c1 (.ptr 2 0 0)), (5, c1 (vi y23.2))]) (σ' := [some (.box (aV v_)), some (.box (aT t_)), some (.box (aV y23.1))]) (by kernel_rfl) hR ?_
                      refine L_ret (hD1 _ _ ?_)
                      have h0 := Option.some.inj hq
                      obtain rfl := h0
                      exact end_ret (by kernel_rfl)
                    · replace hq := cond_f hc22 hq
                      refine L_skip (L_nil (hA1 _ _ (L_seq ?_)))
                      refine L_regF hb [4, 5] (T' := sl 78 [(4, c1 (.ptr 2 0 0)), (5, c1 (vi 6))]) (σ' := [some (.box (aV v_)), some (.box (aT t_)), some (.box zV)]) (by kernel_rfl) ?_
                      refine L_ret ?_
                      have h0 := Option.some.inj hq
                      obtain rfl := h0
                      exact end_ret (by kernel_rfl)
                  · replace hq := cond_f hc21 hq
                    refine L_skip (L_nil (hA1 _ _ (L_seq ?_)))
                    refine L_regF hb [4, 5] (T' := sl 78 [(4, c1 (.ptr 2 0 0)), (5, c1 (vi 6))]) (σ' := [some (.box (aV v_)), some (.box (aT t_)), some (.box zV)]) (by kernel_rfl) ?_
                    refine L_ret ?_
                    have h0 := Option.some.inj hq
                    obtain rfl := h0
                    exact end_ret (by kernel_rfl)
noncomputable def t_convert_to_step (rec : Ty → Val → Option (Val × Int)) (a : Ty) (b : Val) : Option (Val × Int) :=
  g_convert_to (g_convert_toObject (fun a0 a1 => rec a1 a0)) (g_convert_each (fun a0 a1 => rec a1 a0)) b a
noncomputable def t_convert_to (a0 : Val) (a1 : Ty) : Option (Val × Int) := tieF relT wfT t_convert_to_step a1 a0
theorem t_convert_to_ok (hb : Base E E0 G) (he : ∀ w, E w → EnvV w) (a0 : Val) (a1 : Ty) (r : Val × Int) (hq : t_convert_to a0 a1 = some r) : Pure E E0 Tryd.prog 25 [.agg (aV a0), .agg (aT a1)] (.tup [.agg (aV r.1), .cell (vi r.2)]) :=
  tieF_ok (C := fun a b r => Pure E E0 Tryd.prog 25 [.agg (aV b), .agg (aT a)] (.tup [.agg (aV r.1), .cell (vi r.2)])) (fun rec hr a b r hq => g_convert_to_ok hb he (g_convert_toObject (fun a0 a1 => rec a1 a0)) (g_convert_each (fun a0 a1 => rec a1 a0)) (g_convert_toObject_ok hb he (fun a0 a1 => rec a1 a0) (fun a0 a1 r e => hr a1 a0 r e)) (g_convert_each_ok hb he (fun a0 a1 => rec a1 a0) (fun a0 a1 r e => hr a1 a0 r e)) b a r hq) a1 a0 r hq
noncomputable def t_convert_each (a0 : Val) (a1 : Ty) : Option (Val × Int) := (g_convert_each t_convert_to) a0 a1
theorem t_convert_each_ok (hb : Base E E0 G) (he : ∀ w, E w → EnvV w) (a0 : Val) (a1 : Ty) (r : Val × Int) (hq : t_convert_each a0 a1 = some r) : Pure E E0 Tryd.prog 37 [.agg (aV a0), .agg (aT a1)] (.tup [.agg (aV r.1), .cell (vi r.2)]) :=
  g_convert_each_ok hb he t_convert_to (t_convert_to_ok hb he) a0 a1 r hq
noncomputable def t_convert_toObject (a0 : Val) (a1 : Ty) : Option (Val × Int) := (g_convert_toObject t_convert_to) a0 a1
theorem t_convert_toObject_ok (hb : Base E E0 G) (he : ∀ w, E w → EnvV w) (a0 : Val) (a1 : Ty) (r : Val × Int) (hq : t_convert_toObject a0 a1 = some r) : Pure E E0 Tryd.prog 38 [.agg (aV a0), .agg (aT a1)] (.tup [.agg (aV r.1), .cell (vi r.2)]) :=
  g_convert_toObject_ok hb he t_convert_to (t_convert_to_ok hb he) a0 a1 r hq
noncomputable def g_convert_To  (v_ : Val) (t_ : Ty) : Option (Val × Int) :=
  (t_convert_to v_ t_).bind fun y1 => bif (decide (y1.2 = 0)) then (m_checkE y1.1).bind fun y3 => bif (!decide (y3 = 0)) then some ((Val.mk 0 0 eS [] []), y3) else some (y1.1, 0) else some ((Val.mk 0 0 eS [] []), y1.2)
theorem g_convert_To_ok (hb : Base E E0 G) (he : ∀ w, E w → EnvV w)   (v_ : Val) (t_ : Ty) (r_ : Val × Int) (hq : g_convert_To v_ t_ = some r_) :
    Pure E E0 Tryd.prog 12 [.agg (aV v_), .agg (aT t_)] (.tup [.agg (aV r_.1), .cell (vi r_.2)]) := by
  refine pure_L Tryd.func12 rfl ?_
  refine L_keepF [0, 1] (T' := sl 23 [(0, .one (.agg (aV v_))), (1, .one (.agg (aT t_)))]) (by kernel_rfl) ?_
  refine L_seq ?_
  refine L_regF hb [2, 3, 4] (T' := sl 23 [(2, c1 (.ptr 0 0 0)), (3, c1 (.ptr 1 0 0)), (4, c1 (.ptr 2 0 0))]) (σ' := [some (.box (aV v_)), some (.box (aT t_)), some (.box zV)]) (by kernel_rfl) ?_
  refine L_seq ?_
  refine L_regK hb [4, 6, 7] (fun R hR => ?_)
  refine runF 2 (T' := sl 23 [(2, c1 (.ptr 0 0 0)), (3, c1 (.ptr 1 0 0)), (4, c1 (.ptr 2 0 0)), (9, .one (.agg (aV v_))), (10, .one (.agg (aT t_)))]) (σ' := [some (.box (aV v_)), some (.box (aT t_)), some (.box zV)]) (by kernel_rfl) ?_
  obtain ⟨y1, hy1, hq⟩ := bind_inv hq
  refine callF (d := some 11) (by kernel_rfl) (t_convert_to_ok hb he v_ t_ y1 hy1) ?_
  refine lastK (T' := sl 23 [(4, c1 (.ptr 2 0 0)), (6, c1 (.ptr 3 0 0)), (7, c1 (vi y1.2))]) (σ' := [some (.box (aV v_)), some (.box (aT t_)), some (.box zV), some (.box (aV y1.1))]) (by kernel_rfl) hR ?_
  refine L_seq (L_seq ?_)
  refine L_regF hb [4, 6, 7, 15] (T' := sl 23 [(4, c1 (.ptr 2 0 0)), (6, c1 (.ptr 3 0 0)), (7, c1 (vi y1.2)), (15, c1 (vB (decide (y1.2 = 0))))]) (σ' := [some (.box (aV v_)), some (.box (aT t_)), some (.box zV), some (.box (aV y1.1))]) (by kernel_rfl) ?_
  refine L_if hb (b := (decide (y1.2 = 0))) (by kernel_rfl) (fun hc2 => ?_) (fun hc2 => ?_)
  · replace hq := cond_t hc2 hq
    refine L_regK hb [4, 6, 7] (fun R hR => ?_)
    refine runF 1 (T' := sl 23 [(4, c1 (.ptr 2 0 0)), (6, c1 (.ptr 3 0 0)), (7, c1 (vi y1.2)), (15, c1 (vB (decide (y1.2 = 0)))), (16, .one (.agg (aV y1.1)))]) (σ' := [some (.box (aV v_)), some (.box (aT t_)), some (.box zV), some (.box (aV y1.1))]) (by kernel_rfl) ?_
    obtain ⟨y3, hy3, hq⟩ := bind_inv hq
    refine callF (d := some 17) (by kernel_rfl) (pCheck_g hb he y1.1 y3 hy3) ?_
    refine lastK (T' := sl 23 [(4, c1 (.ptr 2 0 0)), (6, c1 (.ptr 3 0 0)), (7, c1 (vi y3))]) (σ' := [some (.box (aV v_)), some (.box (aT t_)), some (.box zV), some (.box (aV y1.1))]) (by kernel_rfl) hR ?_
    refine L_seq (L_seq ?_)
    refine L_regF hb [4, 6, 7, 19] (T' := sl 23 [(4, c1 (.ptr 2 0 0)), (6, c1 (.ptr 3 0 0)), (7, c1 (vi y3)), (19, c1 (vB (!decide (y3 = 0))))]) (σ' := [some (.box (aV v_)), some (.box (aT t_)), some (.box zV), some (.box (aV y1.1))]) (by kernel_rfl) ?_
    refine L_if hb (b := (!decide (y3 = 0))) (by kernel_rfl) (fun hc4 => ?_) (fun hc4 => ?_)
    · replace hq := cond_t hc4 hq
      refine L_seq ?_
      refine L_regF hb [4, 5] (T' := sl 23 [(4, c1 (.ptr 2 0 0)), (5, c1 (vi y3))]) (σ' := [some (.box (aV v_)), some (.box (aT t_)), some (.box zV), some (.box (aV y1.1))]) (by kernel_rfl) ?_
      refine L_ret ?_
      have h0 := Option.some.inj hq
      obtain rfl := h0
      exact end_ret (by kernel_rfl)
    · replace hq := cond_f hc4 hq
      refine L_skip (L_seq ?_)
      refine L_regF hb [4, 5] (T' := sl 23 [(4, c1 (.ptr 2 0 0)), (5, c1 (vi 0))]) (σ' := [some (.box (aV v_)), some (.box (aT t_)), some (.box (aV y1.1)), some (.box (aV y1.1))]) (by kernel_rfl) ?_
      refine L_ret ?_
      have h0 := Option.some.inj hq
      obtain rfl := h0
      exact end_ret (by kernel_rfl)
  · replace hq := cond_f hc2 hq
    refine L_skip (L_seq (L_seq ?_))
    refine L_regF hb [4, 6, 7, 19] (T' := sl 23 [(4, c1 (.ptr 2 0 0)), (6, c1 (.ptr 3 0 0)), (7, c1 (vi y1.2)), (19, c1 (vB (!decide (y1.2 = 0))))]) (σ' := [some (.box (aV v_)), some (.box (aT t_)), some (.box zV), some (.box (aV y1.1))]) (by kernel_rfl) ?_
    refine L_ifT hb (b := (!decide (y1.2 = 0))) (by kernel_rfl) (congrArg (fun z => !z) hc2) ?_
    refine L_seq ?_
    refine L_regF hb [4, 5] (T' := sl 23 [(4, c1 (.ptr 2 0 0)), (5, c1 (vi y1.2))]) (σ' := [some (.box (aV v_)), some (.box (aT t_)), some (.box zV), some (.box (aV y1.1))]) (by kernel_rfl) ?_
    refine L_ret ?_
    have h0 := Option.some.inj hq
    obtain rfl := h0
    exact end_ret (by kernel_rfl)
noncomputable def g_l11_text  (s_ : ByteArray) : Option (Val) :=
  some (Val.mk 3 0 s_ [] [])
theorem g_l11_text_ok (hb : Base E E0 G) (he : ∀ w, E w → EnvV w)   (s_ : ByteArray) (r_ : Val) (hq : g_l11_text s_ = some r_) :
    Pure E E0 Tryd.prog 20 [.cell (vS s_)] (.one (.agg (aV r_))) := by
  refine pure_L Tryd.func20 rfl ?_
  refine L_keepF [0] (T' := sl 5 [(0, c1 (vS s_))]) (by kernel_rfl) ?_
  refine L_seq ?_
  refine L_regF hb [0, 2] (T' := sl 5 [(0, c1 (vS s_)), (2, c1 (.ptr 0 0 0))]) (σ' := [some (.box zV)]) (by kernel_rfl) ?_
  refine L_seq ?_
  refine L_regF hb [2] (T' := sl 5 [(2, c1 (.ptr 0 0 0))]) (σ' := [some (.box [vi 3, vi 0, vS s_, vN, vN])]) (by kernel_rfl) ?_
  refine L_ret ?_
  have h0 := Option.some.inj hq
  obtain rfl := h0
  exact end_ret (by kernel_rfl)
noncomputable def g_convert_simple  (v_ : Val) (k_ : Int) : Option (Val × Int) :=
  bif (decide (v_.kind = 0)) then some ((Val.mk 0 0 eS [] []), 6) else (g_convert_To v_ (Ty.mk k_ [] [])).bind fun y2 => some (y2.1, y2.2)
theorem g_convert_simple_ok (hb : Base E E0 G) (he : ∀ w, E w → EnvV w)   (v_ : Val) (k_ : Int) (r_ : Val × Int) (hq : g_convert_simple v_ k_ = some r_) :
    Pure E E0 Tryd.prog 32 [.agg (aV v_), .cell (vi k_)] (.tup [.agg (aV r_.1), .cell (vi r_.2)]) := by
  refine pure_L Tryd.func32 rfl ?_
  refine L_keepF [0, 1] (T' := sl 16 [(0, .one (.agg (aV v_))), (1, c1 (vi k_))]) (by kernel_rfl) ?_
  refine L_seq ?_
  refine L_regF hb [1, 2, 4] (T' := sl 16 [(1, c1 (vi k_)), (2, c1 (.ptr 0 0 0)), (4, c1 (.ptr 1 0 0))]) (σ' := [some (.box (aV v_)), some (.box zV)]) (by kernel_rfl) ?_
  refine L_seq (L_seq ?_)
  refine L_regF hb [1, 2, 4, 8] (T' := sl 16 [(1, c1 (vi k_)), (2, c1 (.ptr 0 0 0)), (4, c1 (.ptr 1 0 0)), (8, c1 (vB (decide (v_.kind = 0))))]) (σ' := [some (.box (aV v_)), some (.box zV)]) (by kernel_rfl) ?_
  refine L_if hb (b := (decide (v_.kind = 0))) (by kernel_rfl) (fun hc1 => ?_) (fun hc1 => ?_)
  · replace hq := cond_t hc1 hq
    refine L_seq ?_
    refine L_regF hb [4, 5] (T' := sl 16 [(4, c1 (.ptr 1 0 0)), (5, c1 (vi 6))]) (σ' := [some (.box (aV v_)), some (.box zV)]) (by kernel_rfl) ?_
    refine L_ret ?_
    have h0 := Option.some.inj hq
    obtain rfl := h0
    exact end_ret (by kernel_rfl)
  · replace hq := cond_f hc1 hq
    refine L_skip (L_seq ?_)
    refine L_regK hb [4, 5] (fun R hR => ?_)
    refine runF 3 (T' := sl 16 [(1, c1 (vi k_)), (2, c1 (.ptr 0 0 0)), (4, c1 (.ptr 1 0 0)), (8, c1 (vB (decide (v_.kind = 0)))), (10, .one (.agg (aV v_))), (11, c1 (vi k_)), (12, .one (.agg [vi k_, vN, vN]))]) (σ' := [some (.box (aV v_)), some (.box zV)]) (by kernel_rfl) ?_
    obtain ⟨y2, hy2, hq⟩ := bind_inv hq
    refine callF (d := some 13) (by kernel_rfl) (g_convert_To_ok hb he v_ (Ty.mk k_ [] []) y2 hy2) ?_
    refine lastK (T' := sl 16 [(4, c1 (.ptr 1 0 0)), (5, c1 (vi y2.2))]) (σ' := [some (.box (aV v_)), some (.box (aV y2.1))]) (by kernel_rfl) hR ?_
    refine L_ret ?_
    have h0 := Option.some.inj hq
    obtain rfl := h0
    exact end_ret (by kernel_rfl)
noncomputable def g_convert_Text  (v_ : Val) : Option (Val × Int) :=
  (g_convert_simple v_ 3).bind fun y1 => some (y1.1, y1.2)
theorem g_convert_Text_ok (hb : Base E E0 G) (he : ∀ w, E w → EnvV w)   (v_ : Val) (r_ : Val × Int) (hq : g_convert_Text v_ = some r_) :
    Pure E E0 Tryd.prog 21 [.agg (aV v_)] (.tup [.agg (aV r_.1), .cell (vi r_.2)]) := by
  refine pure_L Tryd.func21 rfl ?_
  refine L_keepF [0] (T' := sl 8 [(0, .one (.agg (aV v_)))]) (by kernel_rfl) ?_
  refine L_seq ?_
  refine L_regF hb [1, 2] (T' := sl 8 [(1, c1 (.ptr 0 0 0)), (2, c1 (.ptr 1 0 0))]) (σ' := [some (.box (aV v_)), some (.box zV)]) (by kernel_rfl) ?_
  refine L_seq ?_
  refine L_regK hb [2, 3] (fun R hR => ?_)
  refine runF 1 (T' := sl 8 [(1, c1 (.ptr 0 0 0)), (2, c1 (.ptr 1 0 0)), (4, .one (.agg (aV v_)))]) (σ' := [some (.box (aV v_)), some (.box zV)]) (by kernel_rfl) ?_
  obtain ⟨y1, hy1, hq⟩ := bind_inv hq
  refine callF (d := some 5) (by kernel_rfl) (g_convert_simple_ok hb he v_ 3 y1 hy1) ?_
  refine lastK (T' := sl 8 [(2, c1 (.ptr 1 0 0)), (3, c1 (vi y1.2))]) (σ' := [some (.box (aV v_)), some (.box (aV y1.1))]) (by kernel_rfl) hR ?_
  refine L_ret ?_
  have h0 := Option.some.inj hq
  obtain rfl := h0
  exact end_ret (by kernel_rfl)
noncomputable def g_convert_Truth  (v_ : Val) : Option (Val × Int) :=
  (g_convert_simple v_ 1).bind fun y1 => some (y1.1, y1.2)
theorem g_convert_Truth_ok (hb : Base E E0 G) (he : ∀ w, E w → EnvV w)   (v_ : Val) (r_ : Val × Int) (hq : g_convert_Truth v_ = some r_) :
    Pure E E0 Tryd.prog 22 [.agg (aV v_)] (.tup [.agg (aV r_.1), .cell (vi r_.2)]) := by
  refine pure_L Tryd.func22 rfl ?_
  refine L_keepF [0] (T' := sl 8 [(0, .one (.agg (aV v_)))]) (by kernel_rfl) ?_
  refine L_seq ?_
  refine L_regF hb [1, 2] (T' := sl 8 [(1, c1 (.ptr 0 0 0)), (2, c1 (.ptr 1 0 0))]) (σ' := [some (.box (aV v_)), some (.box zV)]) (by kernel_rfl) ?_
  refine L_seq ?_
  refine L_regK hb [2, 3] (fun R hR => ?_)
  refine runF 1 (T' := sl 8 [(1, c1 (.ptr 0 0 0)), (2, c1 (.ptr 1 0 0)), (4, .one (.agg (aV v_)))]) (σ' := [some (.box (aV v_)), some (.box zV)]) (by kernel_rfl) ?_
  obtain ⟨y1, hy1, hq⟩ := bind_inv hq
  refine callF (d := some 5) (by kernel_rfl) (g_convert_simple_ok hb he v_ 1 y1 hy1) ?_
  refine lastK (T' := sl 8 [(2, c1 (.ptr 1 0 0)), (3, c1 (vi y1.2))]) (σ' := [some (.box (aV v_)), some (.box (aV y1.1))]) (by kernel_rfl) hR ?_
  refine L_ret ?_
  have h0 := Option.some.inj hq
  obtain rfl := h0
  exact end_ret (by kernel_rfl)
noncomputable def g_l11_awake   : Option (Bool) :=
  (g_l11_text (⟨#[49]⟩ : ByteArray)).bind fun y1 => (g_convert_To (Val.mk 4 0 eS [y1, (Val.mk 2 2 eS [] [])] []) (Ty.mk 4 [(Ty.mk 2 [] [])] [])).bind fun y2 => (g_l11_text (⟨#[48, 48, 55]⟩ : ByteArray)).bind fun y3 => (g_convert_To y3 (Ty.mk 2 [] [])).bind fun y4 => (g_convert_Text (Val.mk 1 1 eS [] [])).bind fun y5 => (g_l11_text (⟨#[121, 101, 115]⟩ : ByteArray)).bind fun y6 => (g_convert_Truth y6).bind fun y7 => (g_convert_Text (Val.mk 0 0 eS [] [])).bind fun y8 => bif (decide (y2.2 = 0)) then bif (decide ((y2.1.items.length : Int) = 2)) then (idx y2.1.items 0).bind fun x11 => bif (decide (x11.kind = 2)) then (idx y2.1.items 0).bind fun x13 => bif (decide (x13.num = 1)) then bif (decide (y4.2 = 6)) then bif (decide (y5.2 = 0)) then bif (decide (y5.1.str = (⟨#[116, 114, 117, 101]⟩ : ByteArray))) then bif (decide (y7.2 = 6)) then some (decide (y8.2 = 6)) else some (false) else some (false) else some (false) else some (false) else some (false) else some (false) else some (false) else some (false)
theorem g_l11_awake_ok (hb : Base E E0 G) (he : ∀ w, E w → EnvV w)    (r_ : Bool) (hq : g_l11_awake = some r_) :
    Pure E E0 Tryd.prog 9 [] (c1 (vB r_)) := by
  refine pure_L Tryd.func9 rfl ?_
  refine L_keepF [] (T' := sl 90 []) (by kernel_rfl) ?_
  refine L_seq ?_
  refine L_regF hb [] (T' := sl 90 []) (σ' := []) (by kernel_rfl) ?_
  refine L_seq ?_
  refine L_regF hb [1] (T' := sl 90 [(1, c1 (.ptr 0 0 0))]) (σ' := [some (.box [vi 4, .pv (.sl true 1 [pI .i64 2, pL flT [], pL flS []]), vN])]) (by kernel_rfl) ?_
  refine L_seq ?_
  refine L_drwK hb mixed [2, 3] 10 (by kernel_rfl) (by kernel_rfl) (fun R hR => ?_)
  obtain ⟨y1, hy1, hq⟩ := bind_inv hq
  refine callF (d := some 16) (by kernel_rfl) (g_l11_text_ok hb he (⟨#[49]⟩ : ByteArray) y1 hy1) ?_
  refine runF 4 (T' := sl 90 [(1, c1 (.ptr 0 0 0)), (16, .one (.agg (aV y1))), (17, .one (.agg [vi 2, vi 2, vS eS, vN, vN])), (18, c1 (.pv (.sl true 2 [pI .i64 y1.kind, pI .i64 y1.num, pS y1.str, pL flV y1.items, pL flS y1.keys, pI .i64 2, pI .i64 2, pS eS, pL flV [], pL flS []]))), (19, .one (.agg [vi 4, vi 0, vS eS, .pv (.sl true 2 [pI .i64 y1.kind, pI .i64 y1.num, pS y1.str, pL flV y1.items, pL flS y1.keys, pI .i64 2, pI .i64 2, pS eS, pL flV [], pL flS []]), vN])), (20, .one (.agg [vi 4, .pv (.sl true 1 [pI .i64 2, pL flT [], pL flS []]), vN]))]) (σ' := [some (.box [vi 4, .pv (.sl true 1 [pI .i64 2, pL flT [], pL flS []]), vN])]) (by kernel_rfl) ?_
  obtain ⟨y2, hy2, hq⟩ := bind_inv hq
  have hp := g_convert_To_ok hb he (Val.mk 4 0 eS [y1, (Val.mk 2 2 eS [] [])] []) (Ty.mk 4 [(Ty.mk 2 [] [])] []) y2 hy2
  simp only [aV, aT, kind_mk, num_mk, str_mk, items_mk, keys_mk, Ty.kind_mk, Ty.elems_mk, Ty.names_mk, vL_one, vL_two, vL_three] at hp
  refine callF (d := some 21) (by kernel_rfl) hp ?_
  refine lastF (T' := sl 90 [(1, c1 (.ptr 0 0 0)), (2, c1 (.ptr 1 0 0)), (15, .tup [.agg (aV y2.1), .cell (vi y2.2)]), (16, .one (.agg (aV y1))), (17, .one (.agg [vi 2, vi 2, vS eS, vN, vN])), (18, c1 (.pv (.sl true 2 [pI .i64 y1.kind, pI .i64 y1.num, pS y1.str, pL flV y1.items, pL flS y1.keys, pI .i64 2, pI .i64 2, pS eS, pL flV [], pL flS []]))), (19, .one (.agg [vi 4, vi 0, vS eS, .pv (.sl true 2 [pI .i64 y1.kind, pI .i64 y1.num, pS y1.str, pL flV y1.items, pL flS y1.keys, pI .i64 2, pI .i64 2, pS eS, pL flV [], pL flS []]), vN])), (20, .one (.agg [vi 4, .pv (.sl true 1 [pI .i64 2, pL flT [], pL flS []]), vN])), (21, .tup [.agg (aV y2.1), .cell (vi y2.2)]), (22, .one (.agg (aV y2.1))), (23, c1 (vi y2.2))]) (σ' := [some (.box [vi 4, .pv (.sl true 1 [pI .i64 2, pL flT [], pL flS []]), vN]), some (.box zV)]) (by kernel_rfl) ?_
  refine lastK (T' := sl 90 [(2, c1 (.ptr 1 0 0)), (3, c1 (vi y2.2))]) (σ' := [some (.box [vi 4, .pv (.sl true 1 [pI .i64 2, pL flT [], pL flS []]), vN]), some (.box (aV y2.1))]) (by kernel_rfl) hR ?_
  refine L_seq ?_
  refine L_regK hb [2, 3, 5] (fun R hR => ?_)
  obtain ⟨y3, hy3, hq⟩ := bind_inv hq
  refine callF (d := some 25) (by kernel_rfl) (g_l11_text_ok hb he (⟨#[48, 48, 55]⟩ : ByteArray) y3 hy3) ?_
  refine runF 1 (T' := sl 90 [(2, c1 (.ptr 1 0 0)), (3, c1 (vi y2.2)), (25, .one (.agg (aV y3))), (26, .one (.agg [vi 2, vN, vN]))]) (σ' := [some (.box [vi 4, .pv (.sl true 1 [pI .i64 2, pL flT [], pL flS []]), vN]), some (.box (aV y2.1))]) (by kernel_rfl) ?_
  obtain ⟨y4, hy4, hq⟩ := bind_inv hq
  refine callF (d := some 27) (by kernel_rfl) (g_convert_To_ok hb he y3 (Ty.mk 2 [] []) y4 hy4) ?_
  refine lastK (T' := sl 90 [(2, c1 (.ptr 1 0 0)), (3, c1 (vi y2.2)), (5, c1 (vi y4.2))]) (σ' := [some (.box [vi 4, .pv (.sl true 1 [pI .i64 2, pL flT [], pL flS []]), vN]), some (.box (aV y2.1)), some (.box (aV y4.1))]) (by kernel_rfl) hR ?_
  refine L_seq ?_
  refine L_regK hb [2, 3, 5, 6, 7] (fun R hR => ?_)
  refine runF 1 (T' := sl 90 [(2, c1 (.ptr 1 0 0)), (3, c1 (vi y2.2)), (5, c1 (vi y4.2)), (31, .one (.agg [vi 1, vi 1, vS eS, vN, vN]))]) (σ' := [some (.box [vi 4, .pv (.sl true 1 [pI .i64 2, pL flT [], pL flS []]), vN]), some (.box (aV y2.1)), some (.box (aV y4.1))]) (by kernel_rfl) ?_
  obtain ⟨y5, hy5, hq⟩ := bind_inv hq
  refine callF (d := some 32) (by kernel_rfl) (g_convert_Text_ok hb he (Val.mk 1 1 eS [] []) y5 hy5) ?_
  refine lastK (T' := sl 90 [(2, c1 (.ptr 1 0 0)), (3, c1 (vi y2.2)), (5, c1 (vi y4.2)), (6, c1 (.ptr 3 0 0)), (7, c1 (vi y5.2))]) (σ' := [some (.box [vi 4, .pv (.sl true 1 [pI .i64 2, pL flT [], pL flS []]), vN]), some (.box (aV y2.1)), some (.box (aV y4.1)), some (.box (aV y5.1))]) (by kernel_rfl) hR ?_
  refine L_seq ?_
  refine L_regK hb [2, 3, 5, 6, 7, 9] (fun R hR => ?_)
  obtain ⟨y6, hy6, hq⟩ := bind_inv hq
  refine callF (d := some 36) (by kernel_rfl) (g_l11_text_ok hb he (⟨#[121, 101, 115]⟩ : ByteArray) y6 hy6) ?_
  obtain ⟨y7, hy7, hq⟩ := bind_inv hq
  refine callF (d := some 37) (by kernel_rfl) (g_convert_Truth_ok hb he y6 y7 hy7) ?_
  refine lastK (T' := sl 90 [(2, c1 (.ptr 1 0 0)), (3, c1 (vi y2.2)), (5, c1 (vi y4.2)), (6, c1 (.ptr 3 0 0)), (7, c1 (vi y5.2)), (9, c1 (vi y7.2))]) (σ' := [some (.box [vi 4, .pv (.sl true 1 [pI .i64 2, pL flT [], pL flS []]), vN]), some (.box (aV y2.1)), some (.box (aV y4.1)), some (.box (aV y5.1)), some (.box (aV y7.1))]) (by kernel_rfl) hR ?_
  refine L_seq ?_
  refine L_regK hb [2, 3, 5, 6, 7, 9, 11] (fun R hR => ?_)
  refine runF 1 (T' := sl 90 [(2, c1 (.ptr 1 0 0)), (3, c1 (vi y2.2)), (5, c1 (vi y4.2)), (6, c1 (.ptr 3 0 0)), (7, c1 (vi y5.2)), (9, c1 (vi y7.2)), (41, .one (.agg zV))]) (σ' := [some (.box [vi 4, .pv (.sl true 1 [pI .i64 2, pL flT [], pL flS []]), vN]), some (.box (aV y2.1)), some (.box (aV y4.1)), some (.box (aV y5.1)), some (.box (aV y7.1))]) (by kernel_rfl) ?_
  obtain ⟨y8, hy8, hq⟩ := bind_inv hq
  refine callF (d := some 42) (by kernel_rfl) (g_convert_Text_ok hb he (Val.mk 0 0 eS [] []) y8 hy8) ?_
  refine lastK (T' := sl 90 [(2, c1 (.ptr 1 0 0)), (3, c1 (vi y2.2)), (5, c1 (vi y4.2)), (6, c1 (.ptr 3 0 0)), (7, c1 (vi y5.2)), (9, c1 (vi y7.2)), (11, c1 (vi y8.2))]) (σ' := [some (.box [vi 4, .pv (.sl true 1 [pI .i64 2, pL flT [], pL flS []]), vN]), some (.box (aV y2.1)), some (.box (aV y4.1)), some (.box (aV y5.1)), some (.box (aV y7.1)), some (.box (aV y8.1))]) (by kernel_rfl) hR ?_
  refine L_seq ?_
  refine L_regK hb [0] (fun R hR => ?_)
  refine runF 3 (T' := sl 90 [(2, c1 (.ptr 1 0 0)), (3, c1 (vi y2.2)), (5, c1 (vi y4.2)), (6, c1 (.ptr 3 0 0)), (7, c1 (vi y5.2)), (9, c1 (vi y7.2)), (11, c1 (vi y8.2)), (45, c1 (vi y2.2)), (46, c1 (vB (decide (y2.2 = 0)))), (47, c1 (vB (decide (y2.2 = 0))))]) (σ' := [some (.box [vi 4, .pv (.sl true 1 [pI .i64 2, pL flT [], pL flS []]), vN]), some (.box (aV y2.1)), some (.box (aV y4.1)), some (.box (aV y5.1)), some (.box (aV y7.1)), some (.box (aV y8.1))]) (by kernel_rfl) ?_
  refine partsF ((decide (y2.2 = 0))) (fun zz => sl 90 [(2, c1 (.ptr 1 0 0)), (3, c1 (vi y2.2)), (5, c1 (vi y4.2)), (6, c1 (.ptr 3 0 0)), (7, c1 (vi y5.2)), (9, c1 (vi y7.2)), (11, c1 (vi y8.2)), (45, c1 (vi y2.2)), (46, c1 (vB zz)), (47, c1 (vB zz))]) (by kernel_rfl) (fun hc9 => ?_) (fun hc9 => ?_)
  · replace hq := cond_t hc9 hq
    refine runF 6 (T' := sl 90 [(2, c1 (.ptr 1 0 0)), (3, c1 (vi y2.2)), (5, c1 (vi y4.2)), (6, c1 (.ptr 3 0 0)), (7, c1 (vi y5.2)), (9, c1 (vi y7.2)), (11, c1 (vi y8.2)), (45, c1 (vi y2.2)), (46, c1 (vB true)), (47, c1 (vB true)), (48, c1 (.ptr 1 0 3)), (49, c1 (vL flV y2.1.items)), (50, c1 (vi (y2.1.items.length : Int))), (51, c1 (vB (decide ((y2.1.items.length : Int) = 2)))), (52, c1 (vB (decide ((y2.1.items.length : Int) = 2)))), (53, c1 (vB (decide ((y2.1.items.length : Int) = 2))))]) (σ' := [some (.box [vi 4, .pv (.sl true 1 [pI .i64 2, pL flT [], pL flS []]), vN]), some (.box (aV y2.1)), some (.box (aV y4.1)), some (.box (aV y5.1)), some (.box (aV y7.1)), some (.box (aV y8.1))]) (by kernel_rfl) ?_
    refine partsF ((decide ((y2.1.items.length : Int) = 2))) (fun zz => sl 90 [(2, c1 (.ptr 1 0 0)), (3, c1 (vi y2.2)), (5, c1 (vi y4.2)), (6, c1 (.ptr 3 0 0)), (7, c1 (vi y5.2)), (9, c1 (vi y7.2)), (11, c1 (vi y8.2)), (45, c1 (vi y2.2)), (46, c1 (vB true)), (47, c1 (vB true)), (48, c1 (.ptr 1 0 3)), (49, c1 (vL flV y2.1.items)), (50, c1 (vi (y2.1.items.length : Int))), (51, c1 (vB zz)), (52, c1 (vB zz)), (53, c1 (vB zz))]) (by kernel_rfl) (fun hc10 => ?_) (fun hc10 => ?_)
    · replace hq := cond_t hc10 hq
      refine runF 2 (T' := sl 90 [(2, c1 (.ptr 1 0 0)), (3, c1 (vi y2.2)), (5, c1 (vi y4.2)), (6, c1 (.ptr 3 0 0)), (7, c1 (vi y5.2)), (9, c1 (vi y7.2)), (11, c1 (vi y8.2)), (45, c1 (vi y2.2)), (46, c1 (vB true)), (47, c1 (vB true)), (48, c1 (.ptr 1 0 3)), (49, c1 (vL flV y2.1.items)), (50, c1 (vi (y2.1.items.length : Int))), (51, c1 (vB true)), (52, c1 (vB true)), (53, c1 (vB true)), (54, c1 (.ptr 1 0 3)), (55, c1 (vL flV y2.1.items))]) (σ' := [some (.box [vi 4, .pv (.sl true 1 [pI .i64 2, pL flT [], pL flS []]), vN]), some (.box (aV y2.1)), some (.box (aV y4.1)), some (.box (aV y5.1)), some (.box (aV y7.1)), some (.box (aV y8.1))]) (by kernel_rfl) ?_
      obtain ⟨x11, hx11, hq⟩ := bind_inv hq
      refine idxF flV (d := some 56) hx11 (by kernel_rfl) ?_
      refine runF 5 (T' := sl 90 [(2, c1 (.ptr 1 0 0)), (3, c1 (vi y2.2)), (5, c1 (vi y4.2)), (6, c1 (.ptr 3 0 0)), (7, c1 (vi y5.2)), (9, c1 (vi y7.2)), (11, c1 (vi y8.2)), (45, c1 (vi y2.2)), (46, c1 (vB true)), (47, c1 (vB true)), (48, c1 (.ptr 1 0 3)), (49, c1 (vL flV y2.1.items)), (50, c1 (vi (y2.1.items.length : Int))), (51, c1 (vB true)), (52, c1 (vB true)), (53, c1 (vB true)), (54, c1 (.ptr 1 0 3)), (55, c1 (vL flV y2.1.items)), (56, c1 (.pv (.pp (flV.c x11 ++ flV.f (List.drop ((0 : Int).toNat + 1) y2.1.items))))), (57, c1 (.pv (.pp (List.drop 0 (flV.c x11 ++ flV.f (List.drop ((0 : Int).toNat + 1) y2.1.items)))))), (58, c1 (vi x11.kind)), (59, c1 (vB (decide (x11.kind = 2)))), (60, c1 (vB (decide (x11.kind = 2)))), (61, c1 (vB (decide (x11.kind = 2))))]) (σ' := [some (.box [vi 4, .pv (.sl true 1 [pI .i64 2, pL flT [], pL flS []]), vN]), some (.box (aV y2.1)), some (.box (aV y4.1)), some (.box (aV y5.1)), some (.box (aV y7.1)), some (.box (aV y8.1))]) (by kernel_rfl) ?_
      refine partsF ((decide (x11.kind = 2))) (fun zz => sl 90 [(2, c1 (.ptr 1 0 0)), (3, c1 (vi y2.2)), (5, c1 (vi y4.2)), (6, c1 (.ptr 3 0 0)), (7, c1 (vi y5.2)), (9, c1 (vi y7.2)), (11, c1 (vi y8.2)), (45, c1 (vi y2.2)), (46, c1 (vB true)), (47, c1 (vB true)), (48, c1 (.ptr 1 0 3)), (49, c1 (vL flV y2.1.items)), (50, c1 (vi (y2.1.items.length : Int))), (51, c1 (vB true)), (52, c1 (vB true)), (53, c1 (vB true)), (54, c1 (.ptr 1 0 3)), (55, c1 (vL flV y2.1.items)), (56, c1 (.pv (.pp (flV.c x11 ++ flV.f (List.drop ((0 : Int).toNat + 1) y2.1.items))))), (57, c1 (.pv (.pp (List.drop 0 (flV.c x11 ++ flV.f (List.drop ((0 : Int).toNat + 1) y2.1.items)))))), (58, c1 (vi x11.kind)), (59, c1 (vB zz)), (60, c1 (vB zz)), (61, c1 (vB zz))]) (by kernel_rfl) (fun hc12 => ?_) (fun hc12 => ?_)
      · replace hq := cond_t hc12 hq
        refine runF 2 (T' := sl 90 [(2, c1 (.ptr 1 0 0)), (3, c1 (vi y2.2)), (5, c1 (vi y4.2)), (6, c1 (.ptr 3 0 0)), (7, c1 (vi y5.2)), (9, c1 (vi y7.2)), (11, c1 (vi y8.2)), (45, c1 (vi y2.2)), (46, c1 (vB true)), (47, c1 (vB true)), (48, c1 (.ptr 1 0 3)), (49, c1 (vL flV y2.1.items)), (50, c1 (vi (y2.1.items.length : Int))), (51, c1 (vB true)), (52, c1 (vB true)), (53, c1 (vB true)), (54, c1 (.ptr 1 0 3)), (55, c1 (vL flV y2.1.items)), (56, c1 (.pv (.pp (flV.c x11 ++ flV.f (List.drop ((0 : Int).toNat + 1) y2.1.items))))), (57, c1 (.pv (.pp (List.drop 0 (flV.c x11 ++ flV.f (List.drop ((0 : Int).toNat + 1) y2.1.items)))))), (58, c1 (vi x11.kind)), (59, c1 (vB true)), (60, c1 (vB true)), (61, c1 (vB true)), (62, c1 (.ptr 1 0 3)), (63, c1 (vL flV y2.1.items))]) (σ' := [some (.box [vi 4, .pv (.sl true 1 [pI .i64 2, pL flT [], pL flS []]), vN]), some (.box (aV y2.1)), some (.box (aV y4.1)), some (.box (aV y5.1)), some (.box (aV y7.1)), some (.box (aV y8.1))]) (by kernel_rfl) ?_
        obtain ⟨x13, hx13, hq⟩ := bind_inv hq
        refine idxF flV (d := some 64) hx13 (by kernel_rfl) ?_
        refine runF 5 (T' := sl 90 [(2, c1 (.ptr 1 0 0)), (3, c1 (vi y2.2)), (5, c1 (vi y4.2)), (6, c1 (.ptr 3 0 0)), (7, c1 (vi y5.2)), (9, c1 (vi y7.2)), (11, c1 (vi y8.2)), (45, c1 (vi y2.2)), (46, c1 (vB true)), (47, c1 (vB true)), (48, c1 (.ptr 1 0 3)), (49, c1 (vL flV y2.1.items)), (50, c1 (vi (y2.1.items.length : Int))), (51, c1 (vB true)), (52, c1 (vB true)), (53, c1 (vB true)), (54, c1 (.ptr 1 0 3)), (55, c1 (vL flV y2.1.items)), (56, c1 (.pv (.pp (flV.c x11 ++ flV.f (List.drop ((0 : Int).toNat + 1) y2.1.items))))), (57, c1 (.pv (.pp (List.drop 0 (flV.c x11 ++ flV.f (List.drop ((0 : Int).toNat + 1) y2.1.items)))))), (58, c1 (vi x11.kind)), (59, c1 (vB true)), (60, c1 (vB true)), (61, c1 (vB true)), (62, c1 (.ptr 1 0 3)), (63, c1 (vL flV y2.1.items)), (64, c1 (.pv (.pp (flV.c x13 ++ flV.f (List.drop ((0 : Int).toNat + 1) y2.1.items))))), (65, c1 (.pv (.pp (List.drop 1 (flV.c x13 ++ flV.f (List.drop ((0 : Int).toNat + 1) y2.1.items)))))), (66, c1 (vi x13.num)), (67, c1 (vB (decide (x13.num = 1)))), (68, c1 (vB (decide (x13.num = 1)))), (69, c1 (vB (decide (x13.num = 1))))]) (σ' := [some (.box [vi 4, .pv (.sl true 1 [pI .i64 2, pL flT [], pL flS []]), vN]), some (.box (aV y2.1)), some (.box (aV y4.1)), some (.box (aV y5.1)), some (.box (aV y7.1)), some (.box (aV y8.1))]) (by kernel_rfl) ?_
        refine partsF ((decide (x13.num = 1))) (fun zz => sl 90 [(2, c1 (.ptr 1 0 0)), (3, c1 (vi y2.2)), (5, c1 (vi y4.2)), (6, c1 (.ptr 3 0 0)), (7, c1 (vi y5.2)), (9, c1 (vi y7.2)), (11, c1 (vi y8.2)), (45, c1 (vi y2.2)), (46, c1 (vB true)), (47, c1 (vB true)), (48, c1 (.ptr 1 0 3)), (49, c1 (vL flV y2.1.items)), (50, c1 (vi (y2.1.items.length : Int))), (51, c1 (vB true)), (52, c1 (vB true)), (53, c1 (vB true)), (54, c1 (.ptr 1 0 3)), (55, c1 (vL flV y2.1.items)), (56, c1 (.pv (.pp (flV.c x11 ++ flV.f (List.drop ((0 : Int).toNat + 1) y2.1.items))))), (57, c1 (.pv (.pp (List.drop 0 (flV.c x11 ++ flV.f (List.drop ((0 : Int).toNat + 1) y2.1.items)))))), (58, c1 (vi x11.kind)), (59, c1 (vB true)), (60, c1 (vB true)), (61, c1 (vB true)), (62, c1 (.ptr 1 0 3)), (63, c1 (vL flV y2.1.items)), (64, c1 (.pv (.pp (flV.c x13 ++ flV.f (List.drop ((0 : Int).toNat + 1) y2.1.items))))), (65, c1 (.pv (.pp (List.drop 1 (flV.c x13 ++ flV.f (List.drop ((0 : Int).toNat + 1) y2.1.items)))))), (66, c1 (vi x13.num)), (67, c1 (vB zz)), (68, c1 (vB zz)), (69, c1 (vB zz))]) (by kernel_rfl) (fun hc14 => ?_) (fun hc14 => ?_)
        · replace hq := cond_t hc14 hq
          refine runF 4 (T' := sl 90 [(2, c1 (.ptr 1 0 0)), (3, c1 (vi y2.2)), (5, c1 (vi y4.2)), (6, c1 (.ptr 3 0 0)), (7, c1 (vi y5.2)), (9, c1 (vi y7.2)), (11, c1 (vi y8.2)), (45, c1 (vi y2.2)), (46, c1 (vB true)), (47, c1 (vB true)), (48, c1 (.ptr 1 0 3)), (49, c1 (vL flV y2.1.items)), (50, c1 (vi (y2.1.items.length : Int))), (51, c1 (vB true)), (52, c1 (vB true)), (53, c1 (vB true)), (54, c1 (.ptr 1 0 3)), (55, c1 (vL flV y2.1.items)), (56, c1 (.pv (.pp (flV.c x11 ++ flV.f (List.drop ((0 : Int).toNat + 1) y2.1.items))))), (57, c1 (.pv (.pp (List.drop 0 (flV.c x11 ++ flV.f (List.drop ((0 : Int).toNat + 1) y2.1.items)))))), (58, c1 (vi x11.kind)), (59, c1 (vB true)), (60, c1 (vB true)), (61, c1 (vB true)), (62, c1 (.ptr 1 0 3)), (63, c1 (vL flV y2.1.items)), (64, c1 (.pv (.pp (flV.c x13 ++ flV.f (List.drop ((0 : Int).toNat + 1) y2.1.items))))), (65, c1 (.pv (.pp (List.drop 1 (flV.c x13 ++ flV.f (List.drop ((0 : Int).toNat + 1) y2.1.items)))))), (66, c1 (vi x13.num)), (67, c1 (vB true)), (68, c1 (vB true)), (69, c1 (vB true)), (70, c1 (vi y4.2)), (71, c1 (vB (decide (y4.2 = 6)))), (72, c1 (vB (decide (y4.2 = 6)))), (73, c1 (vB (decide (y4.2 = 6))))]) (σ' := [some (.box [vi 4, .pv (.sl true 1 [pI .i64 2, pL flT [], pL flS []]), vN]), some (.box (aV y2.1)), some (.box (aV y4.1)), some (.box (aV y5.1)), some (.box (aV y7.1)), some (.box (aV y8.1))]) (by kernel_rfl) ?_
          refine partsF ((decide (y4.2 = 6))) (fun zz => sl 90 [(2, c1 (.ptr 1 0 0)), (3, c1 (vi y2.2)), (5, c1 (vi y4.2)), (6, c1 (.ptr 3 0 0)), (7, c1 (vi y5.2)), (9, c1 (vi y7.2)), (11, c1 (vi y8.2)), (45, c1 (vi y2.2)), (46, c1 (vB true)), (47, c1 (vB true)), (48, c1 (.ptr 1 0 3)), (49, c1 (vL flV y2.1.items)), (50, c1 (vi (y2.1.items.length : Int))), (51, c1 (vB true)), (52, c1 (vB true)), (53, c1 (vB true)), (54, c1 (.ptr 1 0 3)), (55, c1 (vL flV y2.1.items)), (56, c1 (.pv (.pp (flV.c x11 ++ flV.f (List.drop ((0 : Int).toNat + 1) y2.1.items))))), (57, c1 (.pv (.pp (List.drop 0 (flV.c x11 ++ flV.f (List.drop ((0 : Int).toNat + 1) y2.1.items)))))), (58, c1 (vi x11.kind)), (59, c1 (vB true)), (60, c1 (vB true)), (61, c1 (vB true)), (62, c1 (.ptr 1 0 3)), (63, c1 (vL flV y2.1.items)), (64, c1 (.pv (.pp (flV.c x13 ++ flV.f (List.drop ((0 : Int).toNat + 1) y2.1.items))))), (65, c1 (.pv (.pp (List.drop 1 (flV.c x13 ++ flV.f (List.drop ((0 : Int).toNat + 1) y2.1.items)))))), (66, c1 (vi x13.num)), (67, c1 (vB true)), (68, c1 (vB true)), (69, c1 (vB true)), (70, c1 (vi y4.2)), (71, c1 (vB zz)), (72, c1 (vB zz)), (73, c1 (vB zz))]) (by kernel_rfl) (fun hc15 => ?_) (fun hc15 => ?_)
          · replace hq := cond_t hc15 hq
            refine runF 4 (T' := sl 90 [(2, c1 (.ptr 1 0 0)), (3, c1 (vi y2.2)), (5, c1 (vi y4.2)), (6, c1 (.ptr 3 0 0)), (7, c1 (vi y5.2)), (9, c1 (vi y7.2)), (11, c1 (vi y8.2)), (45, c1 (vi y2.2)), (46, c1 (vB true)), (47, c1 (vB true)), (48, c1 (.ptr 1 0 3)), (49, c1 (vL flV y2.1.items)), (50, c1 (vi (y2.1.items.length : Int))), (51, c1 (vB true)), (52, c1 (vB true)), (53, c1 (vB true)), (54, c1 (.ptr 1 0 3)), (55, c1 (vL flV y2.1.items)), (56, c1 (.pv (.pp (flV.c x11 ++ flV.f (List.drop ((0 : Int).toNat + 1) y2.1.items))))), (57, c1 (.pv (.pp (List.drop 0 (flV.c x11 ++ flV.f (List.drop ((0 : Int).toNat + 1) y2.1.items)))))), (58, c1 (vi x11.kind)), (59, c1 (vB true)), (60, c1 (vB true)), (61, c1 (vB true)), (62, c1 (.ptr 1 0 3)), (63, c1 (vL flV y2.1.items)), (64, c1 (.pv (.pp (flV.c x13 ++ flV.f (List.drop ((0 : Int).toNat + 1) y2.1.items))))), (65, c1 (.pv (.pp (List.drop 1 (flV.c x13 ++ flV.f (List.drop ((0 : Int).toNat + 1) y2.1.items)))))), (66, c1 (vi x13.num)), (67, c1 (vB true)), (68, c1 (vB true)), (69, c1 (vB true)), (70, c1 (vi y4.2)), (71, c1 (vB true)), (72, c1 (vB true)), (73, c1 (vB true)), (74, c1 (vi y5.2)), (75, c1 (vB (decide (y5.2 = 0)))), (76, c1 (vB (decide (y5.2 = 0)))), (77, c1 (vB (decide (y5.2 = 0))))]) (σ' := [some (.box [vi 4, .pv (.sl true 1 [pI .i64 2, pL flT [], pL flS []]), vN]), some (.box (aV y2.1)), some (.box (aV y4.1)), some (.box (aV y5.1)), some (.box (aV y7.1)), some (.box (aV y8.1))]) (by kernel_rfl) ?_
            refine partsF ((decide (y5.2 = 0))) (fun zz => sl 90 [(2, c1 (.ptr 1 0 0)), (3, c1 (vi y2.2)), (5, c1 (vi y4.2)), (6, c1 (.ptr 3 0 0)), (7, c1 (vi y5.2)), (9, c1 (vi y7.2)), (11, c1 (vi y8.2)), (45, c1 (vi y2.2)), (46, c1 (vB true)), (47, c1 (vB true)), (48, c1 (.ptr 1 0 3)), (49, c1 (vL flV y2.1.items)), (50, c1 (vi (y2.1.items.length : Int))), (51, c1 (vB true)), (52, c1 (vB true)), (53, c1 (vB true)), (54, c1 (.ptr 1 0 3)), (55, c1 (vL flV y2.1.items)), (56, c1 (.pv (.pp (flV.c x11 ++ flV.f (List.drop ((0 : Int).toNat + 1) y2.1.items))))), (57, c1 (.pv (.pp (List.drop 0 (flV.c x11 ++ flV.f (List.drop ((0 : Int).toNat + 1) y2.1.items)))))), (58, c1 (vi x11.kind)), (59, c1 (vB true)), (60, c1 (vB true)), (61, c1 (vB true)), (62, c1 (.ptr 1 0 3)), (63, c1 (vL flV y2.1.items)), (64, c1 (.pv (.pp (flV.c x13 ++ flV.f (List.drop ((0 : Int).toNat + 1) y2.1.items))))), (65, c1 (.pv (.pp (List.drop 1 (flV.c x13 ++ flV.f (List.drop ((0 : Int).toNat + 1) y2.1.items)))))), (66, c1 (vi x13.num)), (67, c1 (vB true)), (68, c1 (vB true)), (69, c1 (vB true)), (70, c1 (vi y4.2)), (71, c1 (vB true)), (72, c1 (vB true)), (73, c1 (vB true)), (74, c1 (vi y5.2)), (75, c1 (vB zz)), (76, c1 (vB zz)), (77, c1 (vB zz))]) (by kernel_rfl) (fun hc16 => ?_) (fun hc16 => ?_)
            · replace hq := cond_t hc16 hq
              refine runF 5 (T' := sl 90 [(2, c1 (.ptr 1 0 0)), (3, c1 (vi y2.2)), (5, c1 (vi y4.2)), (6, c1 (.ptr 3 0 0)), (7, c1 (vi y5.2)), (9, c1 (vi y7.2)), (11, c1 (vi y8.2)), (45, c1 (vi y2.2)), (46, c1 (vB true)), (47, c1 (vB true)), (48, c1 (.ptr 1 0 3)), (49, c1 (vL flV y2.1.items)), (50, c1 (vi (y2.1.items.length : Int))), (51, c1 (vB true)), (52, c1 (vB true)), (53, c1 (vB true)), (54, c1 (.ptr 1 0 3)), (55, c1 (vL flV y2.1.items)), (56, c1 (.pv (.pp (flV.c x11 ++ flV.f (List.drop ((0 : Int).toNat + 1) y2.1.items))))), (57, c1 (.pv (.pp (List.drop 0 (flV.c x11 ++ flV.f (List.drop ((0 : Int).toNat + 1) y2.1.items)))))), (58, c1 (vi x11.kind)), (59, c1 (vB true)), (60, c1 (vB true)), (61, c1 (vB true)), (62, c1 (.ptr 1 0 3)), (63, c1 (vL flV y2.1.items)), (64, c1 (.pv (.pp (flV.c x13 ++ flV.f (List.drop ((0 : Int).toNat + 1) y2.1.items))))), (65, c1 (.pv (.pp (List.drop 1 (flV.c x13 ++ flV.f (List.drop ((0 : Int).toNat + 1) y2.1.items)))))), (66, c1 (vi x13.num)), (67, c1 (vB true)), (68, c1 (vB true)), (69, c1 (vB true)), (70, c1 (vi y4.2)), (71, c1 (vB true)), (72, c1 (vB true)), (73, c1 (vB true)), (74, c1 (vi y5.2)), (75, c1 (vB true)), (76, c1 (vB true)), (77, c1 (vB true)), (78, c1 (.ptr 3 0 2)), (79, c1 (vS y5.1.str)), (80, c1 (vB (decide (y5.1.str = (⟨#[116, 114, 117, 101]⟩ : ByteArray))))), (81, c1 (vB (decide (y5.1.str = (⟨#[116, 114, 117, 101]⟩ : ByteArray))))), (82, c1 (vB (decide (y5.1.str = (⟨#[116, 114, 117, 101]⟩ : ByteArray)))))]) (σ' := [some (.box [vi 4, .pv (.sl true 1 [pI .i64 2, pL flT [], pL flS []]), vN]), some (.box (aV y2.1)), some (.box (aV y4.1)), some (.box (aV y5.1)), some (.box (aV y7.1)), some (.box (aV y8.1))]) (by kernel_rfl) ?_
              refine partsF ((decide (y5.1.str = (⟨#[116, 114, 117, 101]⟩ : ByteArray)))) (fun zz => sl 90 [(2, c1 (.ptr 1 0 0)), (3, c1 (vi y2.2)), (5, c1 (vi y4.2)), (6, c1 (.ptr 3 0 0)), (7, c1 (vi y5.2)), (9, c1 (vi y7.2)), (11, c1 (vi y8.2)), (45, c1 (vi y2.2)), (46, c1 (vB true)), (47, c1 (vB true)), (48, c1 (.ptr 1 0 3)), (49, c1 (vL flV y2.1.items)), (50, c1 (vi (y2.1.items.length : Int))), (51, c1 (vB true)), (52, c1 (vB true)), (53, c1 (vB true)), (54, c1 (.ptr 1 0 3)), (55, c1 (vL flV y2.1.items)), (56, c1 (.pv (.pp (flV.c x11 ++ flV.f (List.drop ((0 : Int).toNat + 1) y2.1.items))))), (57, c1 (.pv (.pp (List.drop 0 (flV.c x11 ++ flV.f (List.drop ((0 : Int).toNat + 1) y2.1.items)))))), (58, c1 (vi x11.kind)), (59, c1 (vB true)), (60, c1 (vB true)), (61, c1 (vB true)), (62, c1 (.ptr 1 0 3)), (63, c1 (vL flV y2.1.items)), (64, c1 (.pv (.pp (flV.c x13 ++ flV.f (List.drop ((0 : Int).toNat + 1) y2.1.items))))), (65, c1 (.pv (.pp (List.drop 1 (flV.c x13 ++ flV.f (List.drop ((0 : Int).toNat + 1) y2.1.items)))))), (66, c1 (vi x13.num)), (67, c1 (vB true)), (68, c1 (vB true)), (69, c1 (vB true)), (70, c1 (vi y4.2)), (71, c1 (vB true)), (72, c1 (vB true)), (73, c1 (vB true)), (74, c1 (vi y5.2)), (75, c1 (vB true)), (76, c1 (vB true)), (77, c1 (vB true)), (78, c1 (.ptr 3 0 2)), (79, c1 (vS y5.1.str)), (80, c1 (vB zz)), (81, c1 (vB zz)), (82, c1 (vB zz))]) (by kernel_rfl) (fun hc17 => ?_) (fun hc17 => ?_)
              · replace hq := cond_t hc17 hq
                refine runF 4 (T' := sl 90 [(2, c1 (.ptr 1 0 0)), (3, c1 (vi y2.2)), (5, c1 (vi y4.2)), (6, c1 (.ptr 3 0 0)), (7, c1 (vi y5.2)), (9, c1 (vi y7.2)), (11, c1 (vi y8.2)), (45, c1 (vi y2.2)), (46, c1 (vB true)), (47, c1 (vB true)), (48, c1 (.ptr 1 0 3)), (49, c1 (vL flV y2.1.items)), (50, c1 (vi (y2.1.items.length : Int))), (51, c1 (vB true)), (52, c1 (vB true)), (53, c1 (vB true)), (54, c1 (.ptr 1 0 3)), (55, c1 (vL flV y2.1.items)), (56, c1 (.pv (.pp (flV.c x11 ++ flV.f (List.drop ((0 : Int).toNat + 1) y2.1.items))))), (57, c1 (.pv (.pp (List.drop 0 (flV.c x11 ++ flV.f (List.drop ((0 : Int).toNat + 1) y2.1.items)))))), (58, c1 (vi x11.kind)), (59, c1 (vB true)), (60, c1 (vB true)), (61, c1 (vB true)), (62, c1 (.ptr 1 0 3)), (63, c1 (vL flV y2.1.items)), (64, c1 (.pv (.pp (flV.c x13 ++ flV.f (List.drop ((0 : Int).toNat + 1) y2.1.items))))), (65, c1 (.pv (.pp (List.drop 1 (flV.c x13 ++ flV.f (List.drop ((0 : Int).toNat + 1) y2.1.items)))))), (66, c1 (vi x13.num)), (67, c1 (vB true)), (68, c1 (vB true)), (69, c1 (vB true)), (70, c1 (vi y4.2)), (71, c1 (vB true)), (72, c1 (vB true)), (73, c1 (vB true)), (74, c1 (vi y5.2)), (75, c1 (vB true)), (76, c1 (vB true)), (77, c1 (vB true)), (78, c1 (.ptr 3 0 2)), (79, c1 (vS y5.1.str)), (80, c1 (vB true)), (81, c1 (vB true)), (82, c1 (vB true)), (83, c1 (vi y7.2)), (84, c1 (vB (decide (y7.2 = 6)))), (85, c1 (vB (decide (y7.2 = 6)))), (86, c1 (vB (decide (y7.2 = 6))))]) (σ' := [some (.box [vi 4, .pv (.sl true 1 [pI .i64 2, pL flT [], pL flS []]), vN]), some (.box (aV y2.1)), some (.box (aV y4.1)), some (.box (aV y5.1)), some (.box (aV y7.1)), some (.box (aV y8.1))]) (by kernel_rfl) ?_
                refine partsF ((decide (y7.2 = 6))) (fun zz => sl 90 [(2, c1 (.ptr 1 0 0)), (3, c1 (vi y2.2)), (5, c1 (vi y4.2)), (6, c1 (.ptr 3 0 0)), (7, c1 (vi y5.2)), (9, c1 (vi y7.2)), (11, c1 (vi y8.2)), (45, c1 (vi y2.2)), (46, c1 (vB true)), (47, c1 (vB true)), (48, c1 (.ptr 1 0 3)), (49, c1 (vL flV y2.1.items)), (50, c1 (vi (y2.1.items.length : Int))), (51, c1 (vB true)), (52, c1 (vB true)), (53, c1 (vB true)), (54, c1 (.ptr 1 0 3)), (55, c1 (vL flV y2.1.items)), (56, c1 (.pv (.pp (flV.c x11 ++ flV.f (List.drop ((0 : Int).toNat + 1) y2.1.items))))), (57, c1 (.pv (.pp (List.drop 0 (flV.c x11 ++ flV.f (List.drop ((0 : Int).toNat + 1) y2.1.items)))))), (58, c1 (vi x11.kind)), (59, c1 (vB true)), (60, c1 (vB true)), (61, c1 (vB true)), (62, c1 (.ptr 1 0 3)), (63, c1 (vL flV y2.1.items)), (64, c1 (.pv (.pp (flV.c x13 ++ flV.f (List.drop ((0 : Int).toNat + 1) y2.1.items))))), (65, c1 (.pv (.pp (List.drop 1 (flV.c x13 ++ flV.f (List.drop ((0 : Int).toNat + 1) y2.1.items)))))), (66, c1 (vi x13.num)), (67, c1 (vB true)), (68, c1 (vB true)), (69, c1 (vB true)), (70, c1 (vi y4.2)), (71, c1 (vB true)), (72, c1 (vB true)), (73, c1 (vB true)), (74, c1 (vi y5.2)), (75, c1 (vB true)), (76, c1 (vB true)), (77, c1 (vB true)), (78, c1 (.ptr 3 0 2)), (79, c1 (vS y5.1.str)), (80, c1 (vB true)), (81, c1 (vB true)), (82, c1 (vB true)), (83, c1 (vi y7.2)), (84, c1 (vB zz)), (85, c1 (vB zz)), (86, c1 (vB zz))]) (by kernel_rfl) (fun hc18 => ?_) (fun hc18 => ?_)
                · replace hq := cond_t hc18 hq
                  refine lastK (T' := sl 90 [(0, c1 (vB (decide (y8.2 = 6))))]) (σ' := [some (.box [vi 4, .pv (.sl true 1 [pI .i64 2, pL flT [], pL flS []]), vN]), some (.box (aV y2.1)), some (.box (aV y4.1)), some (.box (aV y5.1)), some (.box (aV y7.1)), some (.box (aV y8.1))]) (by kernel_rfl) hR ?_
                  refine L_ret ?_
                  have h0 := Option.some.inj hq
                  obtain rfl := h0
                  exact end_ret (by kernel_rfl)
                · replace hq := cond_f hc18 hq
                  refine lastK (T' := sl 90 [(0, c1 (vB false))]) (σ' := [some (.box [vi 4, .pv (.sl true 1 [pI .i64 2, pL flT [], pL flS []]), vN]), some (.box (aV y2.1)), some (.box (aV y4.1)), some (.box (aV y5.1)), some (.box (aV y7.1)), some (.box (aV y8.1))]) (by kernel_rfl) hR ?_
                  refine L_ret ?_
                  have h0 := Option.some.inj hq
                  obtain rfl := h0
                  exact end_ret (by kernel_rfl)
              · replace hq := cond_f hc17 hq
                refine lastK (T' := sl 90 [(0, c1 (vB false))]) (σ' := [some (.box [vi 4, .pv (.sl true 1 [pI .i64 2, pL flT [], pL flS []]), vN]), some (.box (aV y2.1)), some (.box (aV y4.1)), some (.box (aV y5.1)), some (.box (aV y7.1)), some (.box (aV y8.1))]) (by kernel_rfl) hR ?_
                refine L_ret ?_
                have h0 := Option.some.inj hq
                obtain rfl := h0
                exact end_ret (by kernel_rfl)
            · replace hq := cond_f hc16 hq
              refine lastK (T' := sl 90 [(0, c1 (vB false))]) (σ' := [some (.box [vi 4, .pv (.sl true 1 [pI .i64 2, pL flT [], pL flS []]), vN]), some (.box (aV y2.1)), some (.box (aV y4.1)), some (.box (aV y5.1)), some (.box (aV y7.1)), some (.box (aV y8.1))]) (by kernel_rfl) hR ?_
              refine L_ret ?_
              have h0 := Option.some.inj hq
              obtain rfl := h0
              exact end_ret (by kernel_rfl)
          · replace hq := cond_f hc15 hq
            refine lastK (T' := sl 90 [(0, c1 (vB false))]) (σ' := [some (.box [vi 4, .pv (.sl true 1 [pI .i64 2, pL flT [], pL flS []]), vN]), some (.box (aV y2.1)), some (.box (aV y4.1)), some (.box (aV y5.1)), some (.box (aV y7.1)), some (.box (aV y8.1))]) (by kernel_rfl) hR ?_
            refine L_ret ?_
            have h0 := Option.some.inj hq
            obtain rfl := h0
            exact end_ret (by kernel_rfl)
        · replace hq := cond_f hc14 hq
          refine lastK (T' := sl 90 [(0, c1 (vB false))]) (σ' := [some (.box [vi 4, .pv (.sl true 1 [pI .i64 2, pL flT [], pL flS []]), vN]), some (.box (aV y2.1)), some (.box (aV y4.1)), some (.box (aV y5.1)), some (.box (aV y7.1)), some (.box (aV y8.1))]) (by kernel_rfl) hR ?_
          refine L_ret ?_
          have h0 := Option.some.inj hq
          obtain rfl := h0
          exact end_ret (by kernel_rfl)
      · replace hq := cond_f hc12 hq
        refine lastK (T' := sl 90 [(0, c1 (vB false))]) (σ' := [some (.box [vi 4, .pv (.sl true 1 [pI .i64 2, pL flT [], pL flS []]), vN]), some (.box (aV y2.1)), some (.box (aV y4.1)), some (.box (aV y5.1)), some (.box (aV y7.1)), some (.box (aV y8.1))]) (by kernel_rfl) hR ?_
        refine L_ret ?_
        have h0 := Option.some.inj hq
        obtain rfl := h0
        exact end_ret (by kernel_rfl)
    · replace hq := cond_f hc10 hq
      refine lastK (T' := sl 90 [(0, c1 (vB false))]) (σ' := [some (.box [vi 4, .pv (.sl true 1 [pI .i64 2, pL flT [], pL flS []]), vN]), some (.box (aV y2.1)), some (.box (aV y4.1)), some (.box (aV y5.1)), some (.box (aV y7.1)), some (.box (aV y8.1))]) (by kernel_rfl) hR ?_
      refine L_ret ?_
      have h0 := Option.some.inj hq
      obtain rfl := h0
      exact end_ret (by kernel_rfl)
  · replace hq := cond_f hc9 hq
    refine lastK (T' := sl 90 [(0, c1 (vB false))]) (σ' := [some (.box [vi 4, .pv (.sl true 1 [pI .i64 2, pL flT [], pL flS []]), vN]), some (.box (aV y2.1)), some (.box (aV y4.1)), some (.box (aV y5.1)), some (.box (aV y7.1)), some (.box (aV y8.1))]) (by kernel_rfl) hR ?_
    refine L_ret ?_
    have h0 := Option.some.inj hq
    obtain rfl := h0
    exact end_ret (by kernel_rfl)
noncomputable def g_l11_fill_L1 (r_l11_fill : Val → Val → Int → Option (Val)) (v_ : Val) (x_ : Val) (depth_ : Int) (s1 : Int × List Val) : Option ((Int × List Val) ⊕ (Val)) :=
  bif (decide (s1.1 < (v_.items.length : Int))) then bif (decide (depth_ > 0)) then (idx v_.items s1.1).bind fun x4 => (r_l11_fill x4 x_ (IntKind.i64.wrap (depth_ - 1))).bind fun y5 => (app 80 s1.2 [y5]).bind fun l6 => some (.inl ((IntKind.i64.wrap (s1.1 + 1)), l6)) else some (.inr (Val.mk v_.kind v_.num v_.str s1.2 v_.keys)) else some (.inr (Val.mk v_.kind v_.num v_.str s1.2 v_.keys))
noncomputable def g_l11_fill (r_l11_fill : Val → Val → Int → Option (Val)) (v_ : Val) (x_ : Val) (depth_ : Int) : Option (Val) :=
  bif (decide (v_.kind = 6)) then some (x_) else loopO (g_l11_fill_L1 r_l11_fill v_ x_ depth_) (0, [])
theorem g_l11_fill_ok (hb : Base E E0 G) (he : ∀ w, E w → EnvV w) (r_l11_fill : Val → Val → Int → Option (Val)) (hr_l11_fill : ∀ (a0 : Val) (a1 : Val) (a2 : Int) (r : Val), r_l11_fill a0 a1 a2 = some r → Pure E E0 Tryd.prog 10 [.agg (aV a0), .agg (aV a1), .cell (vi a2)] (.one (.agg (aV r)))) (v_ : Val) (x_ : Val) (depth_ : Int) (r_ : Val) (hq : g_l11_fill r_l11_fill v_ x_ depth_ = some r_) :
    Pure E E0 Tryd.prog 10 [.agg (aV v_), .agg (aV x_), .cell (vi depth_)] (.one (.agg (aV r_))) := by
  refine pure_L Tryd.func10 rfl ?_
  refine L_keepF [0, 1, 2] (T' := sl 48 [(0, .one (.agg (aV v_))), (1, .one (.agg (aV x_))), (2, c1 (vi depth_))]) (by kernel_rfl) ?_
  refine L_seq ?_
  refine L_regF hb [2, 3, 4, 6] (T' := sl 48 [(2, c1 (vi depth_)), (3, c1 (.ptr 0 0 0)), (4, c1 (.ptr 1 0 0)), (6, c1 (.ptr 2 0 0))]) (σ' := [some (.box (aV v_)), some (.box (aV x_)), some (.box zV)]) (by kernel_rfl) ?_
  refine L_seq (L_seq ?_)
  refine L_regF hb [2, 3, 4, 6, 11] (T' := sl 48 [(2, c1 (vi depth_)), (3, c1 (.ptr 0 0 0)), (4, c1 (.ptr 1 0 0)), (6, c1 (.ptr 2 0 0)), (11, c1 (vB (decide (v_.kind = 6))))]) (σ' := [some (.box (aV v_)), some (.box (aV x_)), some (.box zV)]) (by kernel_rfl) ?_
  refine L_if hb (b := (decide (v_.kind = 6))) (by kernel_rfl) (fun hc1 => ?_) (fun hc1 => ?_)
  · replace hq := cond_t hc1 hq
    refine L_seq ?_
    refine L_regF hb [6] (T' := sl 48 [(6, c1 (.ptr 2 0 0))]) (σ' := [some (.box (aV v_)), some (.box (aV x_)), some (.box (aV x_))]) (by kernel_rfl) ?_
    refine L_ret ?_
    have h0 := Option.some.inj hq
    obtain rfl := h0
    exact end_ret (by kernel_rfl)
  · replace hq := cond_f hc1 hq
    refine L_skip (L_seq ?_)
    refine L_regF hb [2, 3, 4, 6, 7] (T' := sl 48 [(2, c1 (vi depth_)), (3, c1 (.ptr 0 0 0)), (4, c1 (.ptr 1 0 0)), (6, c1 (.ptr 2 0 0)), (7, c1 (.ptr 3 0 0))]) (σ' := [some (.box (aV v_)), some (.box (aV x_)), some (.box zV), some (.box [vi v_.kind, vi v_.num, vS v_.str, vN, vL flS v_.keys])]) (by kernel_rfl) ?_
    refine L_seq (L_seq ?_)
    refine L_regF hb [2, 3, 4, 6, 7, 8] (T' := sl 48 [(2, c1 (vi depth_)), (3, c1 (.ptr 0 0 0)), (4, c1 (.ptr 1 0 0)), (6, c1 (.ptr 2 0 0)), (7, c1 (.ptr 3 0 0)), (8, c1 (vi 0))]) (σ' := [some (.box (aV v_)), some (.box (aV x_)), some (.box zV), some (.box [vi v_.kind, vi v_.num, vS v_.str, vN, vL flS v_.keys])]) (by kernel_rfl) ?_
    refine L_block (fun K1 hA1 hB1 hC1 hD1 => ?_)
    refine L_ownσ 3 3 5 (cs := [vi v_.kind, vi v_.num, vS v_.str, vN, vL flS v_.keys]) (by kernel_rfl) (by kernel_rfl) rfl ?_
    refine L_backF [2, 3, 4, 6, 7, 8] [] 5 (T' := sl 48 [(2, c1 (vi depth_)), (3, c1 (.ptr 0 0 0)), (4, c1 (.ptr 1 0 0)), (6, c1 (.ptr 2 0 0)), (7, c1 (.ptr 3 0 0)), (8, c1 (vi 0))]) (σ' := [some (.box (aV v_)), some (.box (aV x_)), some (.box zV), some (.box [vi v_.kind, vi v_.num, vS v_.str, vO flV 4 [], vL flS v_.keys]), some (arO true flV.sz ((flV.f []).length) (flV.f []))]) (by kernel_rfl) (by kernel_rfl) (by simp) (by kernel_rfl) ⟨(by kernel_rfl), (by kernel_rfl), (by kernel_rfl), (by kernel_rfl), (under_arO _ _ _ _ _), trivial⟩ ?_
    refine L_as (by kernel_rfl) (by kernel_rfl) (L_loopO (body := (g_l11_fill_L1 r_l11_fill v_ x_ depth_)) (fun s1 => sl 48 [(2, c1 (vi depth_)), (3, c1 (.ptr 0 0 0)), (4, c1 (.ptr 1 0 0)), (6, c1 (.ptr 2 0 0)), (7, c1 (.ptr 3 0 0)), (8, c1 (vi s1.1))]) (fun s1 => [some (.box (aV v_)), some (.box (aV x_)), some (.box zV), some (.box [vi v_.kind, vi v_.num, vS v_.str, vO flV 4 s1.2, vL flS v_.keys]), some (arO true flV.sz ((flV.f s1.2).length) (flV.f s1.2))]) (s0 := (0, [])) (fun s1 x1 hq hn1 he1 => ?_) hq)
    refine L_seq (L_seq ?_)
    refine L_regK hb [2, 3, 4, 6, 7, 8, 30] (fun R hR => ?_)
    refine runF 6 (T' := sl 48 [(2, c1 (vi depth_)), (3, c1 (.ptr 0 0 0)), (4, c1 (.ptr 1 0 0)), (6, c1 (.ptr 2 0 0)), (7, c1 (.ptr 3 0 0)), (8, c1 (vi s1.1)), (22, c1 (vi s1.1)), (23, c1 (.ptr 0 0 3)), (24, c1 (vL flV v_.items)), (25, c1 (vi (v_.items.length : Int))), (26, c1 (vB (decide (s1.1 < (v_.items.length : Int))))), (27, c1 (vB (decide (s1.1 < (v_.items.length : Int)))))]) (σ' := [some (.box (aV v_)), some (.box (aV x_)), some (.box zV), some (.box [vi v_.kind, vi v_.num, vS v_.str, vO flV 4 s1.2, vL flS v_.keys]), some (arO true flV.sz ((flV.f s1.2).length) (flV.f s1.2))]) (by kernel_rfl) ?_
    refine partsF ((decide (s1.1 < (v_.items.length : Int)))) (fun zz => sl 48 [(2, c1 (vi depth_)), (3, c1 (.ptr 0 0 0)), (4, c1 (.ptr 1 0 0)), (6, c1 (.ptr 2 0 0)), (7, c1 (.ptr 3 0 0)), (8, c1 (vi s1.1)), (22, c1 (vi s1.1)), (23, c1 (.ptr 0 0 3)), (24, c1 (vL flV v_.items)), (25, c1 (vi (v_.items.length : Int))), (26, c1 (vB zz)), (27, c1 (vB zz))]) (by kernel_rfl) (fun hc2 => ?_) (fun hc2 => ?_)
    · replace hq := cond_t hc2 hq
      refine lastK (T' := sl 48 [(2, c1 (vi depth_)), (3, c1 (.ptr 0 0 0)), (4, c1 (.ptr 1 0 0)), (6, c1 (.ptr 2 0 0)), (7, c1 (.ptr 3 0 0)), (8, c1 (vi s1.1)), (30, c1 (vB (decide (depth_ > 0))))]) (σ' := [some (.box (aV v_)), some (.box (aV x_)), some (.box zV), some (.box [vi v_.kind, vi v_.num, vS v_.str, vO flV 4 s1.2, vL flS v_.keys]), some (arO true flV.sz ((flV.f s1.2).length) (flV.f s1.2))]) (by kernel_rfl) hR ?_
      refine L_if hb (b := (decide (depth_ > 0))) (by kernel_rfl) (fun hc3 => ?_) (fun hc3 => ?_)
      · replace hq := cond_t hc3 hq
        refine L_skip (L_seq (L_block (fun K2 hA2 hB2 hC2 hD2 => ?_)))
        refine L_drwN hb mixed 12 (by kernel_rfl) (by kernel_rfl) (fun R hR => ?_)
        refine runF 5 (T' := sl 48 [(2, c1 (vi depth_)), (3, c1 (.ptr 0 0 0)), (4, c1 (.ptr 1 0 0)), (6, c1 (.ptr 2 0 0)), (7, c1 (.ptr 3 0 0)), (8, c1 (vi s1.1)), (30, c1 (vB (decide (depth_ > 0)))), (33, c1 (.ptr 3 0 3)), (34, c1 (vO flV 4 s1.2)), (35, c1 (.ptr 0 0 3)), (36, c1 (vL flV v_.items)), (37, c1 (vi s1.1))]) (σ' := [some (.box (aV v_)), some (.box (aV x_)), some (.box zV), some (.box [vi v_.kind, vi v_.num, vS v_.str, vO flV 4 s1.2, vL flS v_.keys]), some (arO true flV.sz ((flV.f s1.2).length) (flV.f s1.2))]) (by kernel_rfl) ?_
        obtain ⟨x4, hx4, hq⟩ := bind_inv hq
        refine idxF flV (d := some 38) hx4 (by kernel_rfl) ?_
        refine runF 4 (T' := sl 48 [(2, c1 (vi depth_)), (3, c1 (.ptr 0 0 0)), (4, c1 (.ptr 1 0 0)), (6, c1 (.ptr 2 0 0)), (7, c1 (.ptr 3 0 0)), (8, c1 (vi s1.1)), (30, c1 (vB (decide (depth_ > 0)))), (33, c1 (.ptr 3 0 3)), (34, c1 (vO flV 4 s1.2)), (35, c1 (.ptr 0 0 3)), (36, c1 (vL flV v_.items)), (37, c1 (vi s1.1)), (38, c1 (.pv (.pp (flV.c x4 ++ flV.f (List.drop (s1.1.toNat + 1) v_.items))))), (39, .one (.agg (aV x4))), (40, .one (.agg (aV x_))), (41, c1 (vi depth_)), (42, c1 (vi (IntKind.i64.wrap (depth_ - 1))))]) (σ' := [some (.box (aV v_)), some (.box (aV x_)), some (.box zV), some (.box [vi v_.kind, vi v_.num, vS v_.str, vO flV 4 s1.2, vL flS v_.keys]), some (arO true flV.sz ((flV.f s1.2).length) (flV.f s1.2))]) (by kernel_rfl) ?_
        obtain ⟨y5, hy5, hq⟩ := bind_inv hq
        refine callF (d := some 43) (by kernel_rfl) (hr_l11_fill x4 x_ (IntKind.i64.wrap (depth_ - 1)) y5 hy5) ?_
        refine lastF (T' := sl 48 [(2, c1 (vi depth_)), (3, c1 (.ptr 0 0 0)), (4, c1 (.ptr 1 0 0)), (6, c1 (.ptr 2 0 0)), (7, c1 (.ptr 3 0 0)), (8, c1 (vi s1.1)), (30, c1 (vB (decide (depth_ > 0)))), (33, c1 (.ptr 3 0 3)), (34, c1 (vO flV 4 s1.2)), (35, c1 (.ptr 0 0 3)), (36, c1 (vL flV v_.items)), (37, c1 (vi s1.1)), (38, c1 (.pv (.pp (flV.c x4 ++ flV.f (List.drop (s1.1.toNat + 1) v_.items))))), (39, .one (.agg (aV x4))), (40, .one (.agg (aV x_))), (41, c1 (vi depth_)), (42, c1 (vi (IntKind.i64.wrap (depth_ - 1)))), (43, .one (.agg (aV y5))), (44, c1 (.pv (.sl true 1 [pI .i64 y5.kind, pI .i64 y5.num, pS y5.str, pL flV y5.items, pL flS y5.keys])))]) (σ' := [some (.box (aV v_)), some (.box (aV x_)), some (.box zV), some (.box [vi v_.kind, vi v_.num, vS v_.str, vO flV 4 s1.2, vL flS v_.keys]), some (arO true flV.sz ((flV.f s1.2).length) (flV.f s1.2))]) (by kernel_rfl) ?_
        obtain ⟨l6, hl6, hq⟩ := bind_inv hq
        refine appOwnF flV (d := some 45) (id := 4) (s := .pv (.sl true 1 [pI .i64 y5.kind, pI .i64 y5.num, pS y5.str, pL flV y5.items, pL flS y5.keys])) (nb := true) (fr := (flV.f s1.2).length) hl6 (by kernel_rfl) (src_lit flV (flV.one y5) rfl) (by kernel_rfl) (Nat.le_refl _) ?_
        refine lastF (T' := sl 48 [(2, c1 (vi depth_)), (3, c1 (.ptr 0 0 0)), (4, c1 (.ptr 1 0 0)), (6, c1 (.ptr 2 0 0)), (7, c1 (.ptr 3 0 0)), (8, c1 (vi s1.1)), (30, c1 (vB (decide (depth_ > 0)))), (33, c1 (.ptr 3 0 3)), (34, c1 (vO flV 4 s1.2)), (35, c1 (.ptr 0 0 3)), (36, c1 (vL flV v_.items)), (37, c1 (vi s1.1)), (38, c1 (.pv (.pp (flV.c x4 ++ flV.f (List.drop (s1.1.toNat + 1) v_.items))))), (39, .one (.agg (aV x4))), (40, .one (.agg (aV x_))), (41, c1 (vi depth_)), (42, c1 (vi (IntKind.i64.wrap (depth_ - 1)))), (43, .one (.agg (aV y5))), (44, c1 (.pv (.sl true 1 [pI .i64 y5.kind, pI .i64 y5.num, pS y5.str, pL flV y5.items, pL flS y5.keys]))), (45, c1 (vO flV 4 l6)), (46, c1 (.ptr 3 0 3))]) (σ' := [some (.box (aV v_)), some (.box (aV x_)), some (.box zV), some (.box [vi v_.kind, vi v_.num, vS v_.str, vO flV 4 l6, vL flS v_.keys]), some (arO true flV.sz ((flV.f s1.2).length) (flV.f l6))]) (by kernel_rfl) (hR _ _ ?_)
        refine L_nil (hA2 _ _ ?_)
        refine L_regF hb [2, 3, 4, 6, 7, 8] (T' := sl 48 [(2, c1 (vi depth_)), (3, c1 (.ptr 0 0 0)), (4, c1 (.ptr 1 0 0)), (6, c1 (.ptr 2 0 0)), (7, c1 (.ptr 3 0 0)), (8, c1 (vi (IntKind.i64.wrap (s1.1 + 1))))]) (σ' := [some (.box (aV v_)), some (.box (aV x_)), some (.box zV), some (.box [vi v_.kind, vi v_.num, vS v_.str, vO flV 4 l6, vL flS v_.keys]), some (arO true flV.sz ((flV.f s1.2).length) (flV.f l6))]) (by kernel_rfl) ?_
        refine L_mark 4 (nb := true) (cs := flV.f l6) rfl (app_le flV hl6) ?_
        refine L_backF [2, 3, 4, 6, 7, 8] [] 5 (T' := sl 48 [(2, c1 (vi depth_)), (3, c1 (.ptr 0 0 0)), (4, c1 (.ptr 1 0 0)), (6, c1 (.ptr 2 0 0)), (7, c1 (.ptr 3 0 0)), (8, c1 (vi (IntKind.i64.wrap (s1.1 + 1))))]) (σ' := [some (.box (aV v_)), some (.box (aV x_)), some (.box zV), some (.box [vi v_.kind, vi v_.num, vS v_.str, vO flV 4 l6, vL flS v_.keys]), some (arO true flV.sz ((flV.f l6).length) (flV.f l6))]) (by kernel_rfl) (by kernel_rfl) (by simp) (by kernel_rfl) ⟨(by kernel_rfl), (by kernel_rfl), (by kernel_rfl), (by kernel_rfl), (under_arO _ _ _ _ _), trivial⟩ ?_
        have h0 := (Option.some.inj hq).symm
        exact L_as (by kernel_rfl) (by kernel_rfl) (hn1 _ h0)
      · replace hq := cond_f hc3 hq
        refine L_exit (hB1 _ _ (L_seq ?_))
        refine L_regF hb [6] (T' := sl 48 [(6, c1 (.ptr 2 0 0))]) (σ' := [some (.box (aV v_)), some (.box (aV x_)), some (.box [vi v_.kind, vi v_.num, vS v_.str, vO flV 4 s1.2, vL flS v_.keys]), some (.box [vi v_.kind, vi v_.num, vS v_.str, vO flV 4 s1.2, vL flS v_.keys]), some (arO true flV.sz ((flV.f s1.2).length) (flV.f s1.2))]) (by kernel_rfl) ?_
        refine L_cellσ 2 3 (cs := [vi v_.kind, vi v_.num, vS v_.str, vO flV 4 s1.2, vL flS v_.keys]) (c := vO flV 4 s1.2) (by kernel_rfl) (by kernel_rfl) (conv_own flV (nb := true) (id := 4) (xs := s1.2) (by kernel_rfl)) ?_
        refine L_ret ?_
        have h0 := (Option.some.inj hq).symm
        replace h0 := he1 _ h0
        obtain rfl := h0
        exact end_ret (by kernel_rfl)
    · replace hq := cond_f hc2 hq
      refine lastK (T' := sl 48 [(2, c1 (vi depth_)), (3, c1 (.ptr 0 0 0)), (4, c1 (.ptr 1 0 0)), (6, c1 (.ptr 2 0 0)), (7, c1 (.ptr 3 0 0)), (8, c1 (vi s1.1)), (30, c1 (vB false))]) (σ' := [some (.box (aV v_)), some (.box (aV x_)), some (.box zV), some (.box [vi v_.kind, vi v_.num, vS v_.str, vO flV 4 s1.2, vL flS v_.keys]), some (arO true flV.sz ((flV.f s1.2).length) (flV.f s1.2))]) (by kernel_rfl) hR ?_
      refine L_false hb (by kernel_rfl) (L_exit (hB1 _ _ (L_seq ?_)))
      refine L_regF hb [6] (T' := sl 48 [(6, c1 (.ptr 2 0 0))]) (σ' := [some (.box (aV v_)), some (.box (aV x_)), some (.box [vi v_.kind, vi v_.num, vS v_.str, vO flV 4 s1.2, vL flS v_.keys]), some (.box [vi v_.kind, vi v_.num, vS v_.str, vO flV 4 s1.2, vL flS v_.keys]), some (arO true flV.sz ((flV.f s1.2).length) (flV.f s1.2))]) (by kernel_rfl) ?_
      refine L_cellσ 2 3 (cs := [vi v_.kind, vi v_.num, vS v_.str, vO flV 4 s1.2, vL flS v_.keys]) (c := vO flV 4 s1.2) (by kernel_rfl) (by kernel_rfl) (conv_own flV (nb := true) (id := 4) (xs := s1.2) (by kernel_rfl)) ?_
      refine L_ret ?_
      have h0 := (Option.some.inj hq).symm
      replace h0 := he1 _ h0
      obtain rfl := h0
      exact end_ret (by kernel_rfl)
noncomputable def t_l11_fill_step (rec : Val → Val × Int → Option (Val)) (a : Val) (b : Val × Int) : Option (Val) :=
  g_l11_fill (fun a0 a1 a2 => rec a0 (a1, a2)) a b.1 b.2
noncomputable def t_l11_fill (a0 : Val) (a1 : Val) (a2 : Int) : Option (Val) := tieF relV wfV t_l11_fill_step a0 (a1, a2)
theorem t_l11_fill_ok (hb : Base E E0 G) (he : ∀ w, E w → EnvV w) (a0 : Val) (a1 : Val) (a2 : Int) (r : Val) (hq : t_l11_fill a0 a1 a2 = some r) : Pure E E0 Tryd.prog 10 [.agg (aV a0), .agg (aV a1), .cell (vi a2)] (.one (.agg (aV r))) :=
  tieF_ok (C := fun a b r => Pure E E0 Tryd.prog 10 [.agg (aV a), .agg (aV b.1), .cell (vi b.2)] (.one (.agg (aV r)))) (fun rec hr a b r hq => g_l11_fill_ok hb he (fun a0 a1 a2 => rec a0 (a1, a2)) (fun a0 a1 a2 r e => hr a0 (a1, a2) r e) a b.1 b.2 r hq) a0 (a1, a2) r hq
noncomputable def g_slices_Equal_L1 (s1_ : List ByteArray) (s2_ : List ByteArray) (s1 : Int) : Option ((Int) ⊕ (Bool)) :=
  bif (decide (s1 < (s1_.length : Int))) then (idx s1_ s1).bind fun x3 => (idx s2_ s1).bind fun x4 => bif (!decide (x3 = x4)) then some (.inr (false)) else some (.inl (IntKind.i64.wrap (s1 + 1))) else some (.inr (true))
noncomputable def g_slices_Equal  (s1_ : List ByteArray) (s2_ : List ByteArray) : Option (Bool) :=
  bif (!decide ((s1_.length : Int) = (s2_.length : Int))) then some (false) else loopO (g_slices_Equal_L1 s1_ s2_) 0
theorem g_slices_Equal_ok (hb : Base E E0 G) (he : ∀ w, E w → EnvV w)   (s1_ : List ByteArray) (s2_ : List ByteArray) (r_ : Bool) (hq : g_slices_Equal s1_ s2_ = some r_) :
    Pure E E0 Tryd.prog 23 [.cell (vL flS s1_), .cell (vL flS s2_)] (c1 (vB r_)) := by
  refine pure_L Tryd.func23 rfl ?_
  refine L_keepF [0, 1] (T' := sl 26 [(0, c1 (vL flS s1_)), (1, c1 (vL flS s2_))]) (by kernel_rfl) ?_
  refine L_seq ?_
  refine L_regF hb [0, 1] (T' := sl 26 [(0, c1 (vL flS s1_)), (1, c1 (vL flS s2_))]) (σ' := []) (by kernel_rfl) ?_
  refine L_seq (L_seq ?_)
  refine L_regF hb [0, 1, 10] (T' := sl 26 [(0, c1 (vL flS s1_)), (1, c1 (vL flS s2_)), (10, c1 (vB (!decide ((s1_.length : Int) = (s2_.length : Int)))))]) (σ' := []) (by kernel_rfl) ?_
  refine L_if hb (b := (!decide ((s1_.length : Int) = (s2_.length : Int)))) (by kernel_rfl) (fun hc1 => ?_) (fun hc1 => ?_)
  · replace hq := cond_t hc1 hq
    refine L_seq ?_
    refine L_regF hb [4] (T' := sl 26 [(4, c1 (vB false))]) (σ' := []) (by kernel_rfl) ?_
    refine L_ret ?_
    have h0 := Option.some.inj hq
    obtain rfl := h0
    exact end_ret (by kernel_rfl)
  · replace hq := cond_f hc1 hq
    refine L_skip (L_seq (L_seq ?_))
    refine L_regF hb [0, 1, 12, 13] (T' := sl 26 [(0, c1 (vL flS s1_)), (1, c1 (vL flS s2_)), (12, c1 (vi (s1_.length : Int))), (13, c1 (vi 0))]) (σ' := []) (by kernel_rfl) ?_
    refine L_block (fun K1 hA1 hB1 hC1 hD1 => ?_)
    refine L_backF [0, 1, 12, 13] [] 0 (T' := sl 26 [(0, c1 (vL flS s1_)), (1, c1 (vL flS s2_)), (12, c1 (vi (s1_.length : Int))), (13, c1 (vi 0))]) (σ' := []) (by kernel_rfl) (by kernel_rfl) (by simp) (by kernel_rfl) trivial ?_
    refine L_as (by kernel_rfl) (by kernel_rfl) (L_loopO (body := (g_slices_Equal_L1 s1_ s2_)) (fun s1 => sl 26 [(0, c1 (vL flS s1_)), (1, c1 (vL flS s2_)), (12, c1 (vi (s1_.length : Int))), (13, c1 (vi s1))]) (fun s1 => []) (s0 := 0) (fun s1 x1 hq hn1 he1 => ?_) hq)
    refine L_seq ?_
    refine L_regF hb [0, 1, 12, 13, 14] (T' := sl 26 [(0, c1 (vL flS s1_)), (1, c1 (vL flS s2_)), (12, c1 (vi (s1_.length : Int))), (13, c1 (vi s1)), (14, c1 (vB (decide (s1 < (s1_.length : Int)))))]) (σ' := []) (by kernel_rfl) ?_
    refine L_seq ?_
    refine L_if hb (b := (decide (s1 < (s1_.length : Int)))) (by kernel_rfl) (fun hc2 => ?_) (fun hc2 => ?_)
    · replace hq := cond_t hc2 hq
      refine L_skip (L_seq (L_block (fun K2 hA2 hB2 hC2 hD2 => (L_seq ?_))))
      refine L_regF hb [0, 1, 5, 12, 13] (T' := sl 26 [(0, c1 (vL flS s1_)), (1, c1 (vL flS s2_)), (5, c1 (vi s1)), (12, c1 (vi (s1_.length : Int))), (13, c1 (vi s1))]) (σ' := []) (by kernel_rfl) ?_
      refine L_seq ?_
      refine L_drwK hb mixed [0, 1, 12, 13, 24] 8 (by kernel_rfl) (by kernel_rfl) (fun R hR => ?_)
      refine runF 2 (T' := sl 26 [(0, c1 (vL flS s1_)), (1, c1 (vL flS s2_)), (5, c1 (vi s1)), (12, c1 (vi (s1_.length : Int))), (13, c1 (vi s1)), (16, c1 (vL flS s1_)), (17, c1 (vi s1))]) (σ' := []) (by kernel_rfl) ?_
      obtain ⟨x3, hx3, hq⟩ := bind_inv hq
      refine idxF flS (d := some 18) hx3 (by kernel_rfl) ?_
      refine runF 3 (T' := sl 26 [(0, c1 (vL flS s1_)), (1, c1 (vL flS s2_)), (5, c1 (vi s1)), (12, c1 (vi (s1_.length : Int))), (13, c1 (vi s1)), (16, c1 (vL flS s1_)), (17, c1 (vi s1)), (18, c1 (.pv (.pp (flS.c x3 ++ flS.f (List.drop (s1.toNat + 1) s1_))))), (19, c1 (vS x3)), (20, c1 (vL flS s2_)), (21, c1 (vi s1))]) (σ' := []) (by kernel_rfl) ?_
      obtain ⟨x4, hx4, hq⟩ := bind_inv hq
      refine idxF flS (d := some 22) hx4 (by kernel_rfl) ?_
      refine lastF (T' := sl 26 [(0, c1 (vL flS s1_)), (1, c1 (vL flS s2_)), (5, c1 (vi s1)), (12, c1 (vi (s1_.length : Int))), (13, c1 (vi s1)), (16, c1 (vL flS s1_)), (17, c1 (vi s1)), (18, c1 (.pv (.pp (flS.c x3 ++ flS.f (List.drop (s1.toNat + 1) s1_))))), (19, c1 (vS x3)), (20, c1 (vL flS s2_)), (21, c1 (vi s1)), (22, c1 (.pv (.pp (flS.c x4 ++ flS.f (List.drop (s1.toNat + 1) s2_))))), (23, c1 (vS x4))]) (σ' := []) (by kernel_rfl) ?_
      refine lastK (T' := sl 26 [(0, c1 (vL flS s1_)), (1, c1 (vL flS s2_)), (12, c1 (vi (s1_.length : Int))), (13, c1 (vi s1)), (24, c1 (vB (!decide (x3 = x4))))]) (σ' := []) (by kernel_rfl) hR ?_
      refine L_if hb (b := (!decide (x3 = x4))) (by kernel_rfl) (fun hc5 => ?_) (fun hc5 => ?_)
      · replace hq := cond_t hc5 hq
        refine L_seq ?_
        refine L_regF hb [4] (T' := sl 26 [(4, c1 (vB false))]) (σ' := []) (by kernel_rfl) ?_
        refine L_ret (hD2 _ _ (hD1 _ _ ?_))
        have h0 := (Option.some.inj hq).symm
        replace h0 := he1 _ h0
        obtain rfl := h0
        exact end_ret (by kernel_rfl)
      · replace hq := cond_f hc5 hq
        refine L_skip (L_nil (hA2 _ _ ?_))
        refine L_regF hb [0, 1, 12, 13] (T' := sl 26 [(0, c1 (vL flS s1_)), (1, c1 (vL flS s2_)), (12, c1 (vi (s1_.length : Int))), (13, c1 (vi (IntKind.i64.wrap (s1 + 1))))]) (σ' := []) (by kernel_rfl) ?_
        refine L_backF [0, 1, 12, 13] [] 0 (T' := sl 26 [(0, c1 (vL flS s1_)), (1, c1 (vL flS s2_)), (12, c1 (vi (s1_.length : Int))), (13, c1 (vi (IntKind.i64.wrap (s1 + 1))))]) (σ' := []) (by kernel_rfl) (by kernel_rfl) (by simp) (by kernel_rfl) trivial ?_
        have h0 := (Option.some.inj hq).symm
        exact L_as (by kernel_rfl) (by kernel_rfl) (hn1 _ h0)
    · replace hq := cond_f hc2 hq
      refine L_exit (hB1 _ _ (L_seq ?_))
      refine L_regF hb [4] (T' := sl 26 [(4, c1 (vB true))]) (σ' := []) (by kernel_rfl) ?_
      refine L_ret ?_
      have h0 := (Option.some.inj hq).symm
      replace h0 := he1 _ h0
      obtain rfl := h0
      exact end_ret (by kernel_rfl)
noncomputable def g_value_Refines_slices_EqualFunc_value_Refines_L1 (r_value_Refines : Val → Val → Option (Bool)) (s1_ : List Val) (s2_ : List Val) (s1 : Int) : Option ((Int) ⊕ (Bool)) :=
  bif (decide (s1 < (s1_.length : Int))) then (idx s1_ s1).bind fun x3 => (idx s2_ s1).bind fun x4 => (r_value_Refines x3 x4).bind fun y5 => bif (!y5) then some (.inr (false)) else some (.inl (IntKind.i64.wrap (s1 + 1))) else some (.inr (true))
noncomputable def g_value_Refines_slices_EqualFunc_value_Refines (r_value_Refines : Val → Val → Option (Bool)) (s1_ : List Val) (s2_ : List Val) : Option (Bool) :=
  bif (!decide ((s1_.length : Int) = (s2_.length : Int))) then some (false) else loopO (g_value_Refines_slices_EqualFunc_value_Refines_L1 r_value_Refines s1_ s2_) 0
theorem g_value_Refines_slices_EqualFunc_value_Refines_ok (hb : Base E E0 G) (he : ∀ w, E w → EnvV w) (r_value_Refines : Val → Val → Option (Bool)) (hr_value_Refines : ∀ (a0 : Val) (a1 : Val) (r : Bool), r_value_Refines a0 a1 = some r → Pure E E0 Tryd.prog 11 [.agg (aV a0), .agg (aV a1)] (c1 (vB r))) (s1_ : List Val) (s2_ : List Val) (r_ : Bool) (hq : g_value_Refines_slices_EqualFunc_value_Refines r_value_Refines s1_ s2_ = some r_) :
    Pure E E0 Tryd.prog 24 [.cell (vL flV s1_), .cell (vL flV s2_), .cell (.pv (.sc (.func (.func 11) #[] #[])))] (c1 (vB r_)) := by
  refine pure_L Tryd.func24 rfl ?_
  refine L_keepF [0, 1, 2] (T' := sl 32 [(0, c1 (vL flV s1_)), (1, c1 (vL flV s2_)), (2, c1 (.pv (.sc (.func (.func 11) #[] #[]))))]) (by kernel_rfl) ?_
  refine L_seq ?_
  refine L_regF hb [0, 1, 2] (T' := sl 32 [(0, c1 (vL flV s1_)), (1, c1 (vL flV s2_)), (2, c1 (.pv (.sc (.func (.func 11) #[] #[]))))]) (σ' := []) (by kernel_rfl) ?_
  refine L_seq (L_seq ?_)
  refine L_regF hb [0, 1, 2, 14] (T' := sl 32 [(0, c1 (vL flV s1_)), (1, c1 (vL flV s2_)), (2, c1 (.pv (.sc (.func (.func 11) #[] #[])))), (14, c1 (vB (!decide ((s1_.length : Int) = (s2_.length : Int)))))]) (σ' := []) (by kernel_rfl) ?_
  refine L_if hb (b := (!decide ((s1_.length : Int) = (s2_.length : Int)))) (by kernel_rfl) (fun hc1 => ?_) (fun hc1 => ?_)
  · replace hq := cond_t hc1 hq
    refine L_seq ?_
    refine L_regF hb [6] (T' := sl 32 [(6, c1 (vB false))]) (σ' := []) (by kernel_rfl) ?_
    refine L_ret ?_
    have h0 := Option.some.inj hq
    obtain rfl := h0
    exact end_ret (by kernel_rfl)
  · replace hq := cond_f hc1 hq
    refine L_skip (L_seq (L_seq ?_))
    refine L_regF hb [1, 2, 15, 16, 17] (T' := sl 32 [(1, c1 (vL flV s2_)), (2, c1 (.pv (.sc (.func (.func 11) #[] #[])))), (15, c1 (vL flV s1_)), (16, c1 (vi (s1_.length : Int))), (17, c1 (vi 0))]) (σ' := []) (by kernel_rfl) ?_
    refine L_block (fun K1 hA1 hB1 hC1 hD1 => ?_)
    refine L_backF [1, 2, 15, 16, 17] [] 0 (T' := sl 32 [(1, c1 (vL flV s2_)), (2, c1 (.pv (.sc (.func (.func 11) #[] #[])))), (15, c1 (vL flV s1_)), (16, c1 (vi (s1_.length : Int))), (17, c1 (vi 0))]) (σ' := []) (by kernel_rfl) (by kernel_rfl) (by simp) (by kernel_rfl) trivial ?_
    refine L_as (by kernel_rfl) (by kernel_rfl) (L_loopO (body := (g_value_Refines_slices_EqualFunc_value_Refines_L1 r_value_Refines s1_ s2_)) (fun s1 => sl 32 [(1, c1 (vL flV s2_)), (2, c1 (.pv (.sc (.func (.func 11) #[] #[])))), (15, c1 (vL flV s1_)), (16, c1 (vi (s1_.length : Int))), (17, c1 (vi s1))]) (fun s1 => []) (s0 := 0) (fun s1 x1 hq hn1 he1 => ?_) hq)
    refine L_seq ?_
    refine L_regF hb [1, 2, 15, 16, 17, 18] (T' := sl 32 [(1, c1 (vL flV s2_)), (2, c1 (.pv (.sc (.func (.func 11) #[] #[])))), (15, c1 (vL flV s1_)), (16, c1 (vi (s1_.length : Int))), (17, c1 (vi s1)), (18, c1 (vB (decide (s1 < (s1_.length : Int)))))]) (σ' := []) (by kernel_rfl) ?_
    refine L_seq ?_
    refine L_if hb (b := (decide (s1 < (s1_.length : Int)))) (by kernel_rfl) (fun hc2 => ?_) (fun hc2 => ?_)
    · replace hq := cond_t hc2 hq
      refine L_skip (L_seq (L_block (fun K2 hA2 hB2 hC2 hD2 => (L_seq ?_))))
      refine L_regK hb [1, 2, 7, 8, 15, 16, 17] (fun R hR => ?_)
      refine runF 1 (T' := sl 32 [(1, c1 (vL flV s2_)), (2, c1 (.pv (.sc (.func (.func 11) #[] #[])))), (15, c1 (vL flV s1_)), (16, c1 (vi (s1_.length : Int))), (17, c1 (vi s1)), (18, c1 (vB (decide (s1 < (s1_.length : Int))))), (19, c1 (vi s1))]) (σ' := []) (by kernel_rfl) ?_
      obtain ⟨x3, hx3, hq⟩ := bind_inv hq
      refine idxF flV (d := some 20) hx3 (by kernel_rfl) ?_
      refine lastK (T' := sl 32 [(1, c1 (vL flV s2_)), (2, c1 (.pv (.sc (.func (.func 11) #[] #[])))), (7, c1 (vi s1)), (8, c1 (.ptr 0 0 0)), (15, c1 (vL flV s1_)), (16, c1 (vi (s1_.length : Int))), (17, c1 (vi s1))]) (σ' := [some (.box (aV x3))]) (by kernel_rfl) hR ?_
      refine L_seq ?_
      refine L_regK hb [1, 2, 8, 9, 15, 16, 17] (fun R hR => ?_)
      refine runF 2 (T' := sl 32 [(1, c1 (vL flV s2_)), (2, c1 (.pv (.sc (.func (.func 11) #[] #[])))), (7, c1 (vi s1)), (8, c1 (.ptr 0 0 0)), (15, c1 (vL flV s1_)), (16, c1 (vi (s1_.length : Int))), (17, c1 (vi s1)), (22, c1 (vL flV s2_)), (23, c1 (vi s1))]) (σ' := [some (.box (aV x3))]) (by kernel_rfl) ?_
      obtain ⟨x4, hx4, hq⟩ := bind_inv hq
      refine idxF flV (d := some 24) hx4 (by kernel_rfl) ?_
      refine lastK (T' := sl 32 [(1, c1 (vL flV s2_)), (2, c1 (.pv (.sc (.func (.func 11) #[] #[])))), (8, c1 (.ptr 0 0 0)), (9, c1 (.ptr 1 0 0)), (15, c1 (vL flV s1_)), (16, c1 (vi (s1_.length : Int))), (17, c1 (vi s1))]) (σ' := [some (.box (aV x3)), some (.box (aV x4))]) (by kernel_rfl) hR ?_
      refine L_seq ?_
      refine L_regK hb [1, 2, 15, 16, 17, 30] (fun R hR => ?_)
      refine runF 3 (T' := sl 32 [(1, c1 (vL flV s2_)), (2, c1 (.pv (.sc (.func (.func 11) #[] #[])))), (8, c1 (.ptr 0 0 0)), (9, c1 (.ptr 1 0 0)), (15, c1 (vL flV s1_)), (16, c1 (vi (s1_.length : Int))), (17, c1 (vi s1)), (26, c1 (.pv (.sc (.func (.func 11) #[] #[])))), (27, .one (.agg (aV x3))), (28, .one (.agg (aV x4)))]) (σ' := [some (.box (aV x3)), some (.box (aV x4))]) (by kernel_rfl) ?_
      obtain ⟨y5, hy5, hq⟩ := bind_inv hq
      refine callF (d := some 29) (by kernel_rfl) (hr_value_Refines x3 x4 y5 hy5) ?_
      refine lastK (T' := sl 32 [(1, c1 (vL flV s2_)), (2, c1 (.pv (.sc (.func (.func 11) #[] #[])))), (15, c1 (vL flV s1_)), (16, c1 (vi (s1_.length : Int))), (17, c1 (vi s1)), (30, c1 (vB (!y5)))]) (σ' := [some (.box (aV x3)), some (.box (aV x4))]) (by kernel_rfl) hR ?_
      refine L_if hb (b := (!y5)) (by kernel_rfl) (fun hc6 => ?_) (fun hc6 => ?_)
      · replace hq := cond_t hc6 hq
        refine L_seq ?_
        refine L_regF hb [6] (T' := sl 32 [(6, c1 (vB false))]) (σ' := [some (.box (aV x3)), some (.box (aV x4))]) (by kernel_rfl) ?_
        refine L_ret (hD2 _ _ (hD1 _ _ ?_))
        have h0 := (Option.some.inj hq).symm
        replace h0 := he1 _ h0
        obtain rfl := h0
        exact end_ret (by kernel_rfl)
      · replace hq := cond_f hc6 hq
        refine L_skip (L_nil (hA2 _ _ ?_))
        refine L_regF hb [1, 2, 15, 16, 17] (T' := sl 32 [(1, c1 (vL flV s2_)), (2, c1 (.pv (.sc (.func (.func 11) #[] #[])))), (15, c1 (vL flV s1_)), (16, c1 (vi (s1_.length : Int))), (17, c1 (vi (IntKind.i64.wrap (s1 + 1))))]) (σ' := [some (.box (aV x3)), some (.box (aV x4))]) (by kernel_rfl) ?_
        refine L_backF [1, 2, 15, 16, 17] [] 0 (T' := sl 32 [(1, c1 (vL flV s2_)), (2, c1 (.pv (.sc (.func (.func 11) #[] #[])))), (15, c1 (vL flV s1_)), (16, c1 (vi (s1_.length : Int))), (17, c1 (vi (IntKind.i64.wrap (s1 + 1))))]) (σ' := []) (by kernel_rfl) (by kernel_rfl) (by simp) (by kernel_rfl) trivial ?_
        have h0 := (Option.some.inj hq).symm
        exact L_as (by kernel_rfl) (by kernel_rfl) (hn1 _ h0)
    · replace hq := cond_f hc2 hq
      refine L_exit (hB1 _ _ (L_seq ?_))
      refine L_regF hb [6] (T' := sl 32 [(6, c1 (vB true))]) (σ' := []) (by kernel_rfl) ?_
      refine L_ret ?_
      have h0 := (Option.some.inj hq).symm
      replace h0 := he1 _ h0
      obtain rfl := h0
      exact end_ret (by kernel_rfl)
noncomputable def g_value_Refines (r_value_Refines : Val → Val → Option (Bool)) (a_ : Val) (b_ : Val) : Option (Bool) :=
  bif (decide (b_.kind = 6)) then some (true) else bif (decide (a_.kind = b_.kind)) then bif (decide (a_.num = b_.num)) then bif (decide (a_.str = b_.str)) then (g_slices_Equal a_.keys b_.keys).bind fun y5 => bif y5 then (g_value_Refines_slices_EqualFunc_value_Refines r_value_Refines a_.items b_.items).bind fun y7 => some (y7) else some (false) else some (false) else some (false) else some (false)
theorem g_value_Refines_ok (hb : Base E E0 G) (he : ∀ w, E w → EnvV w) (r_value_Refines : Val → Val → Option (Bool)) (hr_value_Refines : ∀ (a0 : Val) (a1 : Val) (r : Bool), r_value_Refines a0 a1 = some r → Pure E E0 Tryd.prog 11 [.agg (aV a0), .agg (aV a1)] (c1 (vB r))) (a_ : Val) (b_ : Val) (r_ : Bool) (hq : g_value_Refines r_value_Refines a_ b_ = some r_) :
    Pure E E0 Tryd.prog 11 [.agg (aV a_), .agg (aV b_)] (c1 (vB r_)) := by
  refine pure_L Tryd.func11 rfl ?_
  refine L_keepF [0, 1] (T' := sl 41 [(0, .one (.agg (aV a_))), (1, .one (.agg (aV b_)))]) (by kernel_rfl) ?_
  refine L_seq ?_
  refine L_regF hb [2, 3] (T' := sl 41 [(2, c1 (.ptr 0 0 0)), (3, c1 (.ptr 1 0 0))]) (σ' := [some (.box (aV a_)), some (.box (aV b_))]) (by kernel_rfl) ?_
  refine L_seq (L_seq ?_)
  refine L_regF hb [2, 3, 7] (T' := sl 41 [(2, c1 (.ptr 0 0 0)), (3, c1 (.ptr 1 0 0)), (7, c1 (vB (decide (b_.kind = 6))))]) (σ' := [some (.box (aV a_)), some (.box (aV b_))]) (by kernel_rfl) ?_
  refine L_if hb (b := (decide (b_.kind = 6))) (by kernel_rfl) (fun hc1 => ?_) (fun hc1 => ?_)
  · replace hq := cond_t hc1 hq
    refine L_seq ?_
    refine L_regF hb [4] (T' := sl 41 [(4, c1 (vB true))]) (σ' := [some (.box (aV a_)), some (.box (aV b_))]) (by kernel_rfl) ?_
    refine L_ret ?_
    have h0 := Option.some.inj hq
    obtain rfl := h0
    exact end_ret (by kernel_rfl)
  · replace hq := cond_f hc1 hq
    refine L_skip (L_seq ?_)
    refine L_regK hb [4] (fun R hR => ?_)
    refine runF 6 (T' := sl 41 [(2, c1 (.ptr 0 0 0)), (3, c1 (.ptr 1 0 0)), (7, c1 (vB (decide (b_.kind = 6)))), (8, c1 (.ptr 0 0 0)), (9, c1 (vi a_.kind)), (10, c1 (.ptr 1 0 0)), (11, c1 (vi b_.kind)), (12, c1 (vB (decide (a_.kind = b_.kind)))), (13, c1 (vB (decide (a_.kind = b_.kind))))]) (σ' := [some (.box (aV a_)), some (.box (aV b_))]) (by kernel_rfl) ?_
    refine partsF ((decide (a_.kind = b_.kind))) (fun zz => sl 41 [(2, c1 (.ptr 0 0 0)), (3, c1 (.ptr 1 0 0)), (7, c1 (vB (decide (b_.kind = 6)))), (8, c1 (.ptr 0 0 0)), (9, c1 (vi a_.kind)), (10, c1 (.ptr 1 0 0)), (11, c1 (vi b_.kind)), (12, c1 (vB zz)), (13, c1 (vB zz))]) (by kernel_rfl) (fun hc2 => ?_) (fun hc2 => ?_)
    · replace hq := cond_t hc2 hq
      refine runF 7 (T' := sl 41 [(2, c1 (.ptr 0 0 0)), (3, c1 (.ptr 1 0 0)), (7, c1 (vB (decide (b_.kind = 6)))), (8, c1 (.ptr 0 0 0)), (9, c1 (vi a_.kind)), (10, c1 (.ptr 1 0 0)), (11, c1 (vi b_.kind)), (12, c1 (vB true)), (13, c1 (vB true)), (14, c1 (.ptr 0 0 1)), (15, c1 (vi a_.num)), (16, c1 (.ptr 1 0 1)), (17, c1 (vi b_.num)), (18, c1 (vB (decide (a_.num = b_.num)))), (19, c1 (vB (decide (a_.num = b_.num)))), (20, c1 (vB (decide (a_.num = b_.num))))]) (σ' := [some (.box (aV a_)), some (.box (aV b_))]) (by kernel_rfl) ?_
      refine partsF ((decide (a_.num = b_.num))) (fun zz => sl 41 [(2, c1 (.ptr 0 0 0)), (3, c1 (.ptr 1 0 0)), (7, c1 (vB (decide (b_.kind = 6)))), (8, c1 (.ptr 0 0 0)), (9, c1 (vi a_.kind)), (10, c1 (.ptr 1 0 0)), (11, c1 (vi b_.kind)), (12, c1 (vB true)), (13, c1 (vB true)), (14, c1 (.ptr 0 0 1)), (15, c1 (vi a_.num)), (16, c1 (.ptr 1 0 1)), (17, c1 (vi b_.num)), (18, c1 (vB zz)), (19, c1 (vB zz)), (20, c1 (vB zz))]) (by kernel_rfl) (fun hc3 => ?_) (fun hc3 => ?_)
      · replace hq := cond_t hc3 hq
        refine runF 7 (T' := sl 41 [(2, c1 (.ptr 0 0 0)), (3, c1 (.ptr 1 0 0)), (7, c1 (vB (decide (b_.kind = 6)))), (8, c1 (.ptr 0 0 0)), (9, c1 (vi a_.kind)), (10, c1 (.ptr 1 0 0)), (11, c1 (vi b_.kind)), (12, c1 (vB true)), (13, c1 (vB true)), (14, c1 (.ptr 0 0 1)), (15, c1 (vi a_.num)), (16, c1 (.ptr 1 0 1)), (17, c1 (vi b_.num)), (18, c1 (vB true)), (19, c1 (vB true)), (20, c1 (vB true)), (21, c1 (.ptr 0 0 2)), (22, c1 (vS a_.str)), (23, c1 (.ptr 1 0 2)), (24, c1 (vS b_.str)), (25, c1 (vB (decide (a_.str = b_.str)))), (26, c1 (vB (decide (a_.str = b_.str)))), (27, c1 (vB (decide (a_.str = b_.str))))]) (σ' := [some (.box (aV a_)), some (.box (aV b_))]) (by kernel_rfl) ?_
        refine partsF ((decide (a_.str = b_.str))) (fun zz => sl 41 [(2, c1 (.ptr 0 0 0)), (3, c1 (.ptr 1 0 0)), (7, c1 (vB (decide (b_.kind = 6)))), (8, c1 (.ptr 0 0 0)), (9, c1 (vi a_.kind)), (10, c1 (.ptr 1 0 0)), (11, c1 (vi b_.kind)), (12, c1 (vB true)), (13, c1 (vB true)), (14, c1 (.ptr 0 0 1)), (15, c1 (vi a_.num)), (16, c1 (.ptr 1 0 1)), (17, c1 (vi b_.num)), (18, c1 (vB true)), (19, c1 (vB true)), (20, c1 (vB true)), (21, c1 (.ptr 0 0 2)), (22, c1 (vS a_.str)), (23, c1 (.ptr 1 0 2)), (24, c1 (vS b_.str)), (25, c1 (vB zz)), (26, c1 (vB zz)), (27, c1 (vB zz))]) (by kernel_rfl) (fun hc4 => ?_) (fun hc4 => ?_)
        · replace hq := cond_t hc4 hq
          refine runF 4 (T' := sl 41 [(2, c1 (.ptr 0 0 0)), (3, c1 (.ptr 1 0 0)), (7, c1 (vB (decide (b_.kind = 6)))), (8, c1 (.ptr 0 0 0)), (9, c1 (vi a_.kind)), (10, c1 (.ptr 1 0 0)), (11, c1 (vi b_.kind)), (12, c1 (vB true)), (13, c1 (vB true)), (14, c1 (.ptr 0 0 1)), (15, c1 (vi a_.num)), (16, c1 (.ptr 1 0 1)), (17, c1 (vi b_.num)), (18, c1 (vB true)), (19, c1 (vB true)), (20, c1 (vB true)), (21, c1 (.ptr 0 0 2)), (22, c1 (vS a_.str)), (23, c1 (.ptr 1 0 2)), (24, c1 (vS b_.str)), (25, c1 (vB true)), (26, c1 (vB true)), (27, c1 (vB true)), (28, c1 (.ptr 0 0 4)), (29, c1 (vL flS a_.keys)), (30, c1 (.ptr 1 0 4)), (31, c1 (vL flS b_.keys))]) (σ' := [some (.box (aV a_)), some (.box (aV b_))]) (by kernel_rfl) ?_
          obtain ⟨y5, hy5, hq⟩ := bind_inv hq
          refine callF (d := some 32) (by kernel_rfl) (g_slices_Equal_ok hb he a_.keys b_.keys y5 hy5) ?_
          refine runF 2 (T' := sl 41 [(2, c1 (.ptr 0 0 0)), (3, c1 (.ptr 1 0 0)), (7, c1 (vB (decide (b_.kind = 6)))), (8, c1 (.ptr 0 0 0)), (9, c1 (vi a_.kind)), (10, c1 (.ptr 1 0 0)), (11, c1 (vi b_.kind)), (12, c1 (vB true)), (13, c1 (vB true)), (14, c1 (.ptr 0 0 1)), (15, c1 (vi a_.num)), (16, c1 (.ptr 1 0 1)), (17, c1 (vi b_.num)), (18, c1 (vB true)), (19, c1 (vB true)), (20, c1 (vB true)), (21, c1 (.ptr 0 0 2)), (22, c1 (vS a_.str)), (23, c1 (.ptr 1 0 2)), (24, c1 (vS b_.str)), (25, c1 (vB true)), (26, c1 (vB true)), (27, c1 (vB true)), (28, c1 (.ptr 0 0 4)), (29, c1 (vL flS a_.keys)), (30, c1 (.ptr 1 0 4)), (31, c1 (vL flS b_.keys)), (32, c1 (vB y5)), (33, c1 (vB y5)), (34, c1 (vB y5))]) (σ' := [some (.box (aV a_)), some (.box (aV b_))]) (by kernel_rfl) ?_
          refine partsF (y5) (fun zz => sl 41 [(2, c1 (.ptr 0 0 0)), (3, c1 (.ptr 1 0 0)), (7, c1 (vB (decide (b_.kind = 6)))), (8, c1 (.ptr 0 0 0)), (9, c1 (vi a_.kind)), (10, c1 (.ptr 1 0 0)), (11, c1 (vi b_.kind)), (12, c1 (vB true)), (13, c1 (vB true)), (14, c1 (.ptr 0 0 1)), (15, c1 (vi a_.num)), (16, c1 (.ptr 1 0 1)), (17, c1 (vi b_.num)), (18, c1 (vB true)), (19, c1 (vB true)), (20, c1 (vB true)), (21, c1 (.ptr 0 0 2)), (22, c1 (vS a_.str)), (23, c1 (.ptr 1 0 2)), (24, c1 (vS b_.str)), (25, c1 (vB true)), (26, c1 (vB true)), (27, c1 (vB true)), (28, c1 (.ptr 0 0 4)), (29, c1 (vL flS a_.keys)), (30, c1 (.ptr 1 0 4)), (31, c1 (vL flS b_.keys)), (32, c1 (vB zz)), (33, c1 (vB zz)), (34, c1 (vB zz))]) (by kernel_rfl) (fun hc6 => ?_) (fun hc6 => ?_)
          · replace hq := cond_t hc6 hq
            refine runF 4 (T' := sl 41 [(2, c1 (.ptr 0 0 0)), (3, c1 (.ptr 1 0 0)), (7, c1 (vB (decide (b_.kind = 6)))), (8, c1 (.ptr 0 0 0)), (9, c1 (vi a_.kind)), (10, c1 (.ptr 1 0 0)), (11, c1 (vi b_.kind)), (12, c1 (vB true)), (13, c1 (vB true)), (14, c1 (.ptr 0 0 1)), (15, c1 (vi a_.num)), (16, c1 (.ptr 1 0 1)), (17, c1 (vi b_.num)), (18, c1 (vB true)), (19, c1 (vB true)), (20, c1 (vB true)), (21, c1 (.ptr 0 0 2)), (22, c1 (vS a_.str)), (23, c1 (.ptr 1 0 2)), (24, c1 (vS b_.str)), (25, c1 (vB true)), (26, c1 (vB true)), (27, c1 (vB true)), (28, c1 (.ptr 0 0 4)), (29, c1 (vL flS a_.keys)), (30, c1 (.ptr 1 0 4)), (31, c1 (vL flS b_.keys)), (32, c1 (vB true)), (33, c1 (vB true)), (34, c1 (vB true)), (35, c1 (.ptr 0 0 3)), (36, c1 (vL flV a_.items)), (37, c1 (.ptr 1 0 3)), (38, c1 (vL flV b_.items))]) (σ' := [some (.box (aV a_)), some (.box (aV b_))]) (by kernel_rfl) ?_
            obtain ⟨y7, hy7, hq⟩ := bind_inv hq
            refine callF (d := some 39) (by kernel_rfl) (g_value_Refines_slices_EqualFunc_value_Refines_ok hb he r_value_Refines hr_value_Refines a_.items b_.items y7 hy7) ?_
            refine lastK (T' := sl 41 [(4, c1 (vB y7))]) (σ' := [some (.box (aV a_)), some (.box (aV b_))]) (by kernel_rfl) hR ?_
            refine L_ret ?_
            have h0 := Option.some.inj hq
            obtain rfl := h0
            exact end_ret (by kernel_rfl)
          · replace hq := cond_f hc6 hq
            refine lastK (T' := sl 41 [(4, c1 (vB false))]) (σ' := [some (.box (aV a_)), some (.box (aV b_))]) (by kernel_rfl) hR ?_
            refine L_ret ?_
            have h0 := Option.some.inj hq
            obtain rfl := h0
            exact end_ret (by kernel_rfl)
        · replace hq := cond_f hc4 hq
          refine lastK (T' := sl 41 [(4, c1 (vB false))]) (σ' := [some (.box (aV a_)), some (.box (aV b_))]) (by kernel_rfl) hR ?_
          refine L_ret ?_
          have h0 := Option.some.inj hq
          obtain rfl := h0
          exact end_ret (by kernel_rfl)
      · replace hq := cond_f hc3 hq
        refine lastK (T' := sl 41 [(4, c1 (vB false))]) (σ' := [some (.box (aV a_)), some (.box (aV b_))]) (by kernel_rfl) hR ?_
        refine L_ret ?_
        have h0 := Option.some.inj hq
        obtain rfl := h0
        exact end_ret (by kernel_rfl)
    · replace hq := cond_f hc2 hq
      refine lastK (T' := sl 41 [(4, c1 (vB false))]) (σ' := [some (.box (aV a_)), some (.box (aV b_))]) (by kernel_rfl) hR ?_
      refine L_ret ?_
      have h0 := Option.some.inj hq
      obtain rfl := h0
      exact end_ret (by kernel_rfl)
noncomputable def t_value_Refines_step (rec : Val → Val → Option (Bool)) (a : Val) (b : Val) : Option (Bool) :=
  g_value_Refines (fun a0 a1 => rec a0 a1) a b
noncomputable def t_value_Refines (a0 : Val) (a1 : Val) : Option (Bool) := tieF relV wfV t_value_Refines_step a0 a1
theorem t_value_Refines_ok (hb : Base E E0 G) (he : ∀ w, E w → EnvV w) (a0 : Val) (a1 : Val) (r : Bool) (hq : t_value_Refines a0 a1 = some r) : Pure E E0 Tryd.prog 11 [.agg (aV a0), .agg (aV a1)] (c1 (vB r)) :=
  tieF_ok (C := fun a b r => Pure E E0 Tryd.prog 11 [.agg (aV a), .agg (aV b)] (c1 (vB r))) (fun rec hr a b r hq => g_value_Refines_ok hb he (fun a0 a1 => rec a0 a1) (fun a0 a1 r e => hr a0 a1 r e) a b r hq) a0 a1 r hq
end Abs
end Go.Proofs.YtkmhhboihgckcaaDoor
