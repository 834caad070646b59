/-
  Convert: Go functions as functions over plain values, with the proof that the code computes them; printed by gen.py.
-/
import Derived.Test.YtkmhhboihgckcaaGreatDoorGzC
namespace Go.Proofs.YtkmhhboihgckcaaGreatDoor
set_option linter.unusedSimpArgs false
set_option linter.unusedVariables false
namespace Abs
open Go.RowKit
variable {E : World → Prop} {E0 : Nat} {G : Nat → Option (List PV)}
set_option maxRecDepth 100000
set_option linter.unusedVariables false
attribute [local irreducible] asqX awpL awp asq asqD Pure Ok asqF sl loopO
noncomputable def g_address_Identifier_L1 (s_ : ByteArray) (s1 : Int) : Option ((Int) ⊕ (Bool)) :=
  bif (decide (s1 < (s_.size : Int))) then (sidx s_ s1).bind fun c2 => (sidx s_ s1).bind fun c3 => bif (!decide (c3 = 95)) then bif (decide ((IntKind.u8.wrap ((BitVec.ofInt IntKind.u8.bits c2 ||| BitVec.ofInt IntKind.u8.bits 32).toNat : Int)) < 97)) then bif (decide (s1 = 0)) then some (.inr (false)) else (sidx s_ s1).bind fun c7 => bif (decide (c7 < 48)) then some (.inr (false)) else (sidx s_ s1).bind fun c9 => bif (decide (c9 > 57)) then some (.inr (false)) else some (.inl (IntKind.i64.wrap (s1 + 1))) else bif (decide ((IntKind.u8.wrap ((BitVec.ofInt IntKind.u8.bits c2 ||| BitVec.ofInt IntKind.u8.bits 32).toNat : Int)) > 122)) then bif (decide (s1 = 0)) then some (.inr (false)) else (sidx s_ s1).bind fun c13 => bif (decide (c13 < 48)) then some (.inr (false)) else (sidx s_ s1).bind fun c15 => bif (decide (c15 > 57)) then some (.inr (false)) else some (.inl (IntKind.i64.wrap (s1 + 1))) else some (.inl (IntKind.i64.wrap (s1 + 1))) else some (.inl (IntKind.i64.wrap (s1 + 1))) else bif (!decide (s_ = eS)) then some (.inr (decide ((s_.size : Int) ≤ 64))) else some (.inr (false))
noncomputable def g_address_Identifier  (s_ : ByteArray) : Option (Bool) :=
  loopO (g_address_Identifier_L1 s_) 0
theorem g_address_Identifier_ok (hb : Base E E0 G) (he : ∀ w, E w → EnvV w)   (s_ : ByteArray) (r_ : Bool) (hq : g_address_Identifier s_ = some r_) :
    Pure E E0 Tryz.prog 72 [.cell (vS s_)] (c1 (vB r_)) := by
  refine pure_L Tryz.func72 rfl ?_
  refine L_keepF [0] (T' := sl 50 [(0, c1 (vS s_))]) (by kernel_rfl) ?_
  refine L_seq ?_
  refine L_regF hb [0] (T' := sl 50 [(0, c1 (vS s_))]) (σ' := []) (by kernel_rfl) ?_
  refine L_seq (L_seq ?_)
  refine L_regF hb [0, 6, 7] (T' := sl 50 [(0, c1 (vS s_)), (6, c1 (vi (s_.size : Int))), (7, c1 (vi 0))]) (σ' := []) (by kernel_rfl) ?_
  refine L_block (fun K1 hA1 hB1 hC1 hD1 => ?_)
  refine L_backF [0, 6, 7] [] 0 (T' := sl 50 [(0, c1 (vS s_)), (6, c1 (vi (s_.size : Int))), (7, c1 (vi 0))]) (σ' := []) (by kernel_rfl) (by kernel_rfl) (by simp) (by kernel_rfl) trivial ?_
  refine L_as (by kernel_rfl) (by kernel_rfl) (L_loopO (body := (g_address_Identifier_L1 s_)) (fun s1 => sl 50 [(0, c1 (vS s_)), (6, c1 (vi (s_.size : Int))), (7, c1 (vi s1))]) (fun s1 => []) (s0 := 0) (fun s1 x1 hq hn1 he1 => ?_) hq)
  refine L_seq ?_
  refine L_regF hb [0, 6, 7, 8] (T' := sl 50 [(0, c1 (vS s_)), (6, c1 (vi (s_.size : Int))), (7, c1 (vi s1)), (8, c1 (vB (decide (s1 < (s_.size : Int)))))]) (σ' := []) (by kernel_rfl) ?_
  refine L_seq ?_
  refine L_if hb (b := (decide (s1 < (s_.size : Int)))) (by kernel_rfl) (fun hc1 => ?_) (fun hc1 => ?_)
  · replace hq := cond_t hc1 hq
    refine L_skip (L_seq (L_block (fun K2 hA2 hB2 hC2 hD2 => (L_seq ?_))))
    refine L_regF hb [0, 3, 6, 7] (T' := sl 50 [(0, c1 (vS s_)), (3, c1 (vi s1)), (6, c1 (vi (s_.size : Int))), (7, c1 (vi s1))]) (σ' := []) (by kernel_rfl) ?_
    refine L_seq ?_
    refine L_regK hb [0, 3, 4, 6, 7] (fun R hR => ?_)
    refine runF 2 (T' := sl 50 [(0, c1 (vS s_)), (3, c1 (vi s1)), (6, c1 (vi (s_.size : Int))), (7, c1 (vi s1)), (10, c1 (vS s_)), (11, c1 (vi s1))]) (σ' := []) (by kernel_rfl) ?_
    obtain ⟨c2, hc2, hq⟩ := bind_inv hq
    refine sidxF (d := some 12) hc2 (by kernel_rfl) ?_
    refine lastK (T' := sl 50 [(0, c1 (vS s_)), (3, c1 (vi s1)), (4, c1 (vI .u8 (IntKind.u8.wrap ((BitVec.ofInt IntKind.u8.bits c2 ||| BitVec.ofInt IntKind.u8.bits 32).toNat : Int)))), (6, c1 (vi (s_.size : Int))), (7, c1 (vi s1))]) (σ' := []) (by kernel_rfl) hR ?_
    refine L_seq ?_
    refine L_regK hb [0, 6, 7, 41] (fun R hR => ?_)
    refine runF 2 (T' := sl 50 [(0, c1 (vS s_)), (3, c1 (vi s1)), (4, c1 (vI .u8 (IntKind.u8.wrap ((BitVec.ofInt IntKind.u8.bits c2 ||| BitVec.ofInt IntKind.u8.bits 32).toNat : Int)))), (6, c1 (vi (s_.size : Int))), (7, c1 (vi s1)), (14, c1 (vS s_)), (15, c1 (vi s1))]) (σ' := []) (by kernel_rfl) ?_
    obtain ⟨c3, hc3, hq⟩ := bind_inv hq
    refine sidxF (d := some 16) hc3 (by kernel_rfl) ?_
    refine runF 2 (T' := sl 50 [(0, c1 (vS s_)), (3, c1 (vi s1)), (4, c1 (vI .u8 (IntKind.u8.wrap ((BitVec.ofInt IntKind.u8.bits c2 ||| BitVec.ofInt IntKind.u8.bits 32).toNat : Int)))), (6, c1 (vi (s_.size : Int))), (7, c1 (vi s1)), (14, c1 (vS s_)), (15, c1 (vi s1)), (16, c1 (vI .u8 c3)), (17, c1 (vB (!decide (c3 = 95)))), (18, c1 (vB (!decide (c3 = 95))))]) (σ' := []) (by kernel_rfl) ?_
    refine partsF ((!decide (c3 = 95))) (fun zz => sl 50 [(0, c1 (vS s_)), (3, c1 (vi s1)), (4, c1 (vI .u8 (IntKind.u8.wrap ((BitVec.ofInt IntKind.u8.bits c2 ||| BitVec.ofInt IntKind.u8.bits 32).toNat : Int)))), (6, c1 (vi (s_.size : Int))), (7, c1 (vi s1)), (14, c1 (vS s_)), (15, c1 (vi s1)), (16, c1 (vI .u8 c3)), (17, c1 (vB zz)), (18, c1 (vB zz))]) (by kernel_rfl) (fun hc4 => ?_) (fun hc4 => ?_)
    · replace hq := cond_t hc4 hq
      refine runF 3 (T' := sl 50 [(0, c1 (vS s_)), (3, c1 (vi s1)), (4, c1 (vI .u8 (IntKind.u8.wrap ((BitVec.ofInt IntKind.u8.bits c2 ||| BitVec.ofInt IntKind.u8.bits 32).toNat : Int)))), (6, c1 (vi (s_.size : Int))), (7, c1 (vi s1)), (14, c1 (vS s_)), (15, c1 (vi s1)), (16, c1 (vI .u8 c3)), (17, c1 (vB true)), (18, c1 (vB true)), (19, c1 (vI .u8 (IntKind.u8.wrap ((BitVec.ofInt IntKind.u8.bits c2 ||| BitVec.ofInt IntKind.u8.bits 32).toNat : Int)))), (20, c1 (vB (decide ((IntKind.u8.wrap ((BitVec.ofInt IntKind.u8.bits c2 ||| BitVec.ofInt IntKind.u8.bits 32).toNat : Int)) < 97)))), (21, c1 (vB (decide ((IntKind.u8.wrap ((BitVec.ofInt IntKind.u8.bits c2 ||| BitVec.ofInt IntKind.u8.bits 32).toNat : Int)) < 97))))]) (σ' := []) (by kernel_rfl) ?_
      refine partsF ((decide ((IntKind.u8.wrap ((BitVec.ofInt IntKind.u8.bits c2 ||| BitVec.ofInt IntKind.u8.bits 32).toNat : Int)) < 97))) (fun zz => sl 50 [(0, c1 (vS s_)), (3, c1 (vi s1)), (4, c1 (vI .u8 (IntKind.u8.wrap ((BitVec.ofInt IntKind.u8.bits c2 ||| BitVec.ofInt IntKind.u8.bits 32).toNat : Int)))), (6, c1 (vi (s_.size : Int))), (7, c1 (vi s1)), (14, c1 (vS s_)), (15, c1 (vi s1)), (16, c1 (vI .u8 c3)), (17, c1 (vB true)), (18, c1 (vB true)), (19, c1 (vI .u8 (IntKind.u8.wrap ((BitVec.ofInt IntKind.u8.bits c2 ||| BitVec.ofInt IntKind.u8.bits 32).toNat : Int)))), (20, c1 (vB zz)), (21, c1 (vB zz))]) (by kernel_rfl) (fun hc5 => ?_) (fun hc5 => ?_)
      · replace hq := cond_t hc5 hq
        refine runF 8 (T' := sl 50 [(0, c1 (vS s_)), (3, c1 (vi s1)), (4, c1 (vI .u8 (IntKind.u8.wrap ((BitVec.ofInt IntKind.u8.bits c2 ||| BitVec.ofInt IntKind.u8.bits 32).toNat : Int)))), (6, c1 (vi (s_.size : Int))), (7, c1 (vi s1)), (14, c1 (vS s_)), (15, c1 (vi s1)), (16, c1 (vI .u8 c3)), (17, c1 (vB true)), (18, c1 (vB true)), (19, c1 (vI .u8 (IntKind.u8.wrap ((BitVec.ofInt IntKind.u8.bits c2 ||| BitVec.ofInt IntKind.u8.bits 32).toNat : Int)))), (20, c1 (vB true)), (21, c1 (vB true)), (22, c1 (.undef)), (23, c1 (.undef)), (24, c1 (vB true)), (25, c1 (vB true)), (26, c1 (vB true)), (27, c1 (vi s1)), (28, c1 (vB (decide (s1 = 0)))), (29, c1 (vB (decide (s1 = 0))))]) (σ' := []) (by kernel_rfl) ?_
        refine partsF ((decide (s1 = 0))) (fun zz => sl 50 [(0, c1 (vS s_)), (3, c1 (vi s1)), (4, c1 (vI .u8 (IntKind.u8.wrap ((BitVec.ofInt IntKind.u8.bits c2 ||| BitVec.ofInt IntKind.u8.bits 32).toNat : Int)))), (6, c1 (vi (s_.size : Int))), (7, c1 (vi s1)), (14, c1 (vS s_)), (15, c1 (vi s1)), (16, c1 (vI .u8 c3)), (17, c1 (vB true)), (18, c1 (vB true)), (19, c1 (vI .u8 (IntKind.u8.wrap ((BitVec.ofInt IntKind.u8.bits c2 ||| BitVec.ofInt IntKind.u8.bits 32).toNat : Int)))), (20, c1 (vB true)), (21, c1 (vB true)), (22, c1 (.undef)), (23, c1 (.undef)), (24, c1 (vB true)), (25, c1 (vB true)), (26, c1 (vB true)), (27, c1 (vi s1)), (28, c1 (vB zz)), (29, c1 (vB zz))]) (by kernel_rfl) (fun hc6 => ?_) (fun hc6 => ?_)
        · replace hq := cond_t hc6 hq
          refine lastK (T' := sl 50 [(0, c1 (vS s_)), (6, c1 (vi (s_.size : Int))), (7, c1 (vi s1)), (41, c1 (vB true))]) (σ' := []) (by kernel_rfl) hR ?_
          refine L_true hb (by kernel_rfl) (L_seq ?_)
          refine L_regF hb [2] (T' := sl 50 [(2, c1 (vB false))]) (σ' := []) (by kernel_rfl) ?_
          refine L_ret (hD2 _ _ (hD1 _ _ ?_))
          have h0 := (Option.some.inj hq).symm
          replace h0 := he1 _ h0
          obtain rfl := h0
          exact end_ret (by kernel_rfl)
        · replace hq := cond_f hc6 hq
          refine runF 2 (T' := sl 50 [(0, c1 (vS s_)), (3, c1 (vi s1)), (4, c1 (vI .u8 (IntKind.u8.wrap ((BitVec.ofInt IntKind.u8.bits c2 ||| BitVec.ofInt IntKind.u8.bits 32).toNat : Int)))), (6, c1 (vi (s_.size : Int))), (7, c1 (vi s1)), (14, c1 (vS s_)), (15, c1 (vi s1)), (16, c1 (vI .u8 c3)), (17, c1 (vB true)), (18, c1 (vB true)), (19, c1 (vI .u8 (IntKind.u8.wrap ((BitVec.ofInt IntKind.u8.bits c2 ||| BitVec.ofInt IntKind.u8.bits 32).toNat : Int)))), (20, c1 (vB true)), (21, c1 (vB true)), (22, c1 (.undef)), (23, c1 (.undef)), (24, c1 (vB true)), (25, c1 (vB true)), (26, c1 (vB true)), (27, c1 (vi s1)), (28, c1 (vB false)), (29, c1 (vB false)), (30, c1 (vS s_)), (31, c1 (vi s1))]) (σ' := []) (by kernel_rfl) ?_
          obtain ⟨c7, hc7, hq⟩ := bind_inv hq
          refine sidxF (d := some 32) hc7 (by kernel_rfl) ?_
          refine runF 3 (T' := sl 50 [(0, c1 (vS s_)), (3, c1 (vi s1)), (4, c1 (vI .u8 (IntKind.u8.wrap ((BitVec.ofInt IntKind.u8.bits c2 ||| BitVec.ofInt IntKind.u8.bits 32).toNat : Int)))), (6, c1 (vi (s_.size : Int))), (7, c1 (vi s1)), (14, c1 (vS s_)), (15, c1 (vi s1)), (16, c1 (vI .u8 c3)), (17, c1 (vB true)), (18, c1 (vB true)), (19, c1 (vI .u8 (IntKind.u8.wrap ((BitVec.ofInt IntKind.u8.bits c2 ||| BitVec.ofInt IntKind.u8.bits 32).toNat : Int)))), (20, c1 (vB true)), (21, c1 (vB true)), (22, c1 (.undef)), (23, c1 (.undef)), (24, c1 (vB true)), (25, c1 (vB true)), (26, c1 (vB true)), (27, c1 (vi s1)), (28, c1 (vB false)), (29, c1 (vB false)), (30, c1 (vS s_)), (31, c1 (vi s1)), (32, c1 (vI .u8 c7)), (33, c1 (vB (decide (c7 < 48)))), (34, c1 (vB (decide (c7 < 48)))), (35, c1 (vB (decide (c7 < 48))))]) (σ' := []) (by kernel_rfl) ?_
          refine partsF ((decide (c7 < 48))) (fun zz => sl 50 [(0, c1 (vS s_)), (3, c1 (vi s1)), (4, c1 (vI .u8 (IntKind.u8.wrap ((BitVec.ofInt IntKind.u8.bits c2 ||| BitVec.ofInt IntKind.u8.bits 32).toNat : Int)))), (6, c1 (vi (s_.size : Int))), (7, c1 (vi s1)), (14, c1 (vS s_)), (15, c1 (vi s1)), (16, c1 (vI .u8 c3)), (17, c1 (vB true)), (18, c1 (vB true)), (19, c1 (vI .u8 (IntKind.u8.wrap ((BitVec.ofInt IntKind.u8.bits c2 ||| BitVec.ofInt IntKind.u8.bits 32).toNat : Int)))), (20, c1 (vB true)), (21, c1 (vB true)), (22, c1 (.undef)), (23, c1 (.undef)), (24, c1 (vB true)), (25, c1 (vB true)), (26, c1 (vB true)), (27, c1 (vi s1)), (28, c1 (vB false)), (29, c1 (vB false)), (30, c1 (vS s_)), (31, c1 (vi s1)), (32, c1 (vI .u8 c7)), (33, c1 (vB zz)), (34, c1 (vB zz)), (35, c1 (vB zz))]) (by kernel_rfl) (fun hc8 => ?_) (fun hc8 => ?_)
          · replace hq := cond_t hc8 hq
            refine lastK (T' := sl 50 [(0, c1 (vS s_)), (6, c1 (vi (s_.size : Int))), (7, c1 (vi s1)), (41, c1 (vB true))]) (σ' := []) (by kernel_rfl) hR ?_
            refine L_true hb (by kernel_rfl) (L_seq ?_)
            refine L_regF hb [2] (T' := sl 50 [(2, c1 (vB false))]) (σ' := []) (by kernel_rfl) ?_
            refine L_ret (hD2 _ _ (hD1 _ _ ?_))
            have h0 := (Option.some.inj hq).symm
            replace h0 := he1 _ h0
            obtain rfl := h0
            exact end_ret (by kernel_rfl)
          · replace hq := cond_f hc8 hq
            refine runF 2 (T' := sl 50 [(0, c1 (vS s_)), (3, c1 (vi s1)), (4, c1 (vI .u8 (IntKind.u8.wrap ((BitVec.ofInt IntKind.u8.bits c2 ||| BitVec.ofInt IntKind.u8.bits 32).toNat : Int)))), (6, c1 (vi (s_.size : Int))), (7, c1 (vi s1)), (14, c1 (vS s_)), (15, c1 (vi s1)), (16, c1 (vI .u8 c3)), (17, c1 (vB true)), (18, c1 (vB true)), (19, c1 (vI .u8 (IntKind.u8.wrap ((BitVec.ofInt IntKind.u8.bits c2 ||| BitVec.ofInt IntKind.u8.bits 32).toNat : Int)))), (20, c1 (vB true)), (21, c1 (vB true)), (22, c1 (.undef)), (23, c1 (.undef)), (24, c1 (vB true)), (25, c1 (vB true)), (26, c1 (vB true)), (27, c1 (vi s1)), (28, c1 (vB false)), (29, c1 (vB false)), (30, c1 (vS s_)), (31, c1 (vi s1)), (32, c1 (vI .u8 c7)), (33, c1 (vB false)), (34, c1 (vB false)), (35, c1 (vB false)), (36, c1 (vS s_)), (37, c1 (vi s1))]) (σ' := []) (by kernel_rfl) ?_
            obtain ⟨c9, hc9, hq⟩ := bind_inv hq
            refine sidxF (d := some 38) hc9 (by kernel_rfl) ?_
            refine lastK (T' := sl 50 [(0, c1 (vS s_)), (6, c1 (vi (s_.size : Int))), (7, c1 (vi s1)), (41, c1 (vB (decide (c9 > 57))))]) (σ' := []) (by kernel_rfl) hR ?_
            refine L_if hb (b := (decide (c9 > 57))) (by kernel_rfl) (fun hc10 => ?_) (fun hc10 => ?_)
            · replace hq := cond_t hc10 hq
              refine L_seq ?_
              refine L_regF hb [2] (T' := sl 50 [(2, c1 (vB false))]) (σ' := []) (by kernel_rfl) ?_
              refine L_ret (hD2 _ _ (hD1 _ _ ?_))
              have h0 := (Option.some.inj hq).symm
              replace h0 := he1 _ h0
              obtain rfl := h0
              exact end_ret (by kernel_rfl)
            · replace hq := cond_f hc10 hq
              refine L_skip (L_nil (hA2 _ _ ?_))
              refine L_regF hb [0, 6, 7] (T' := sl 50 [(0, c1 (vS s_)), (6, c1 (vi (s_.size : Int))), (7, c1 (vi (IntKind.i64.wrap (s1 + 1))))]) (σ' := []) (by kernel_rfl) ?_
              refine L_backF [0, 6, 7] [] 0 (T' := sl 50 [(0, c1 (vS s_)), (6, c1 (vi (s_.size : Int))), (7, c1 (vi (IntKind.i64.wrap (s1 + 1))))]) (σ' := []) (by kernel_rfl) (by kernel_rfl) (by simp) (by kernel_rfl) trivial ?_
              have h0 := (Option.some.inj hq).symm
              exact L_as (by kernel_rfl) (by kernel_rfl) (hn1 _ h0)
      · replace hq := cond_f hc5 hq
        refine runF 5 (T' := sl 50 [(0, c1 (vS s_)), (3, c1 (vi s1)), (4, c1 (vI .u8 (IntKind.u8.wrap ((BitVec.ofInt IntKind.u8.bits c2 ||| BitVec.ofInt IntKind.u8.bits 32).toNat : Int)))), (6, c1 (vi (s_.size : Int))), (7, c1 (vi s1)), (14, c1 (vS s_)), (15, c1 (vi s1)), (16, c1 (vI .u8 c3)), (17, c1 (vB true)), (18, c1 (vB true)), (19, c1 (vI .u8 (IntKind.u8.wrap ((BitVec.ofInt IntKind.u8.bits c2 ||| BitVec.ofInt IntKind.u8.bits 32).toNat : Int)))), (20, c1 (vB false)), (21, c1 (vB false)), (22, c1 (vI .u8 (IntKind.u8.wrap ((BitVec.ofInt IntKind.u8.bits c2 ||| BitVec.ofInt IntKind.u8.bits 32).toNat : Int)))), (23, c1 (vB (decide ((IntKind.u8.wrap ((BitVec.ofInt IntKind.u8.bits c2 ||| BitVec.ofInt IntKind.u8.bits 32).toNat : Int)) > 122)))), (24, c1 (vB (decide ((IntKind.u8.wrap ((BitVec.ofInt IntKind.u8.bits c2 ||| BitVec.ofInt IntKind.u8.bits 32).toNat : Int)) > 122)))), (25, c1 (vB (decide ((IntKind.u8.wrap ((BitVec.ofInt IntKind.u8.bits c2 ||| BitVec.ofInt IntKind.u8.bits 32).toNat : Int)) > 122)))), (26, c1 (vB (decide ((IntKind.u8.wrap ((BitVec.ofInt IntKind.u8.bits c2 ||| BitVec.ofInt IntKind.u8.bits 32).toNat : Int)) > 122))))]) (σ' := []) (by kernel_rfl) ?_
        refine partsF ((decide ((IntKind.u8.wrap ((BitVec.ofInt IntKind.u8.bits c2 ||| BitVec.ofInt IntKind.u8.bits 32).toNat : Int)) > 122))) (fun zz => sl 50 [(0, c1 (vS s_)), (3, c1 (vi s1)), (4, c1 (vI .u8 (IntKind.u8.wrap ((BitVec.ofInt IntKind.u8.bits c2 ||| BitVec.ofInt IntKind.u8.bits 32).toNat : Int)))), (6, c1 (vi (s_.size : Int))), (7, c1 (vi s1)), (14, c1 (vS s_)), (15, c1 (vi s1)), (16, c1 (vI .u8 c3)), (17, c1 (vB true)), (18, c1 (vB true)), (19, c1 (vI .u8 (IntKind.u8.wrap ((BitVec.ofInt IntKind.u8.bits c2 ||| BitVec.ofInt IntKind.u8.bits 32).toNat : Int)))), (20, c1 (vB false)), (21, c1 (vB false)), (22, c1 (vI .u8 (IntKind.u8.wrap ((BitVec.ofInt IntKind.u8.bits c2 ||| BitVec.ofInt IntKind.u8.bits 32).toNat : Int)))), (23, c1 (vB zz)), (24, c1 (vB zz)), (25, c1 (vB zz)), (26, c1 (vB zz))]) (by kernel_rfl) (fun hc11 => ?_) (fun hc11 => ?_)
        · replace hq := cond_t hc11 hq
          refine runF 3 (T' := sl 50 [(0, c1 (vS s_)), (3, c1 (vi s1)), (4, c1 (vI .u8 (IntKind.u8.wrap ((BitVec.ofInt IntKind.u8.bits c2 ||| BitVec.ofInt IntKind.u8.bits 32).toNat : Int)))), (6, c1 (vi (s_.size : Int))), (7, c1 (vi s1)), (14, c1 (vS s_)), (15, c1 (vi s1)), (16, c1 (vI .u8 c3)), (17, c1 (vB true)), (18, c1 (vB true)), (19, c1 (vI .u8 (IntKind.u8.wrap ((BitVec.ofInt IntKind.u8.bits c2 ||| BitVec.ofInt IntKind.u8.bits 32).toNat : Int)))), (20, c1 (vB false)), (21, c1 (vB false)), (22, c1 (vI .u8 (IntKind.u8.wrap ((BitVec.ofInt IntKind.u8.bits c2 ||| BitVec.ofInt IntKind.u8.bits 32).toNat : Int)))), (23, c1 (vB true)), (24, c1 (vB true)), (25, c1 (vB true)), (26, c1 (vB true)), (27, c1 (vi s1)), (28, c1 (vB (decide (s1 = 0)))), (29, c1 (vB (decide (s1 = 0))))]) (σ' := []) (by kernel_rfl) ?_
          refine partsF ((decide (s1 = 0))) (fun zz => sl 50 [(0, c1 (vS s_)), (3, c1 (vi s1)), (4, c1 (vI .u8 (IntKind.u8.wrap ((BitVec.ofInt IntKind.u8.bits c2 ||| BitVec.ofInt IntKind.u8.bits 32).toNat : Int)))), (6, c1 (vi (s_.size : Int))), (7, c1 (vi s1)), (14, c1 (vS s_)), (15, c1 (vi s1)), (16, c1 (vI .u8 c3)), (17, c1 (vB true)), (18, c1 (vB true)), (19, c1 (vI .u8 (IntKind.u8.wrap ((BitVec.ofInt IntKind.u8.bits c2 ||| BitVec.ofInt IntKind.u8.bits 32).toNat : Int)))), (20, c1 (vB false)), (21, c1 (vB false)), (22, c1 (vI .u8 (IntKind.u8.wrap ((BitVec.ofInt IntKind.u8.bits c2 ||| BitVec.ofInt IntKind.u8.bits 32).toNat : Int)))), (23, c1 (vB true)), (24, c1 (vB true)), (25, c1 (vB true)), (26, c1 (vB true)), (27, c1 (vi s1)), (28, c1 (vB zz)), (29, c1 (vB zz))]) (by kernel_rfl) (fun hc12 => ?_) (fun hc12 => ?_)
          · replace hq := cond_t hc12 hq
            refine lastK (T' := sl 50 [(0, c1 (vS s_)), (6, c1 (vi (s_.size : Int))), (7, c1 (vi s1)), (41, c1 (vB true))]) (σ' := []) (by kernel_rfl) hR ?_
            refine L_true hb (by kernel_rfl) (L_seq ?_)
            refine L_regF hb [2] (T' := sl 50 [(2, c1 (vB false))]) (σ' := []) (by kernel_rfl) ?_
            refine L_ret (hD2 _ _ (hD1 _ _ ?_))
            have h0 := (Option.some.inj hq).symm
            replace h0 := he1 _ h0
            obtain rfl := h0
            exact end_ret (by kernel_rfl)
          · replace hq := cond_f hc12 hq
            refine runF 2 (T' := sl 50 [(0, c1 (vS s_)), (3, c1 (vi s1)), (4, c1 (vI .u8 (IntKind.u8.wrap ((BitVec.ofInt IntKind.u8.bits c2 ||| BitVec.ofInt IntKind.u8.bits 32).toNat : Int)))), (6, c1 (vi (s_.size : Int))), (7, c1 (vi s1)), (14, c1 (vS s_)), (15, c1 (vi s1)), (16, c1 (vI .u8 c3)), (17, c1 (vB true)), (18, c1 (vB true)), (19, c1 (vI .u8 (IntKind.u8.wrap ((BitVec.ofInt IntKind.u8.bits c2 ||| BitVec.ofInt IntKind.u8.bits 32).toNat : Int)))), (20, c1 (vB false)), (21, c1 (vB false)), (22, c1 (vI .u8 (IntKind.u8.wrap ((BitVec.ofInt IntKind.u8.bits c2 ||| BitVec.ofInt IntKind.u8.bits 32).toNat : Int)))), (23, c1 (vB true)), (24, c1 (vB true)), (25, c1 (vB true)), (26, c1 (vB true)), (27, c1 (vi s1)), (28, c1 (vB false)), (29, c1 (vB false)), (30, c1 (vS s_)), (31, c1 (vi s1))]) (σ' := []) (by kernel_rfl) ?_
            obtain ⟨c13, hc13, hq⟩ := bind_inv hq
            refine sidxF (d := some 32) hc13 (by kernel_rfl) ?_
            refine runF 3 (T' := sl 50 [(0, c1 (vS s_)), (3, c1 (vi s1)), (4, c1 (vI .u8 (IntKind.u8.wrap ((BitVec.ofInt IntKind.u8.bits c2 ||| BitVec.ofInt IntKind.u8.bits 32).toNat : Int)))), (6, c1 (vi (s_.size : Int))), (7, c1 (vi s1)), (14, c1 (vS s_)), (15, c1 (vi s1)), (16, c1 (vI .u8 c3)), (17, c1 (vB true)), (18, c1 (vB true)), (19, c1 (vI .u8 (IntKind.u8.wrap ((BitVec.ofInt IntKind.u8.bits c2 ||| BitVec.ofInt IntKind.u8.bits 32).toNat : Int)))), (20, c1 (vB false)), (21, c1 (vB false)), (22, c1 (vI .u8 (IntKind.u8.wrap ((BitVec.ofInt IntKind.u8.bits c2 ||| BitVec.ofInt IntKind.u8.bits 32).toNat : Int)))), (23, c1 (vB true)), (24, c1 (vB true)), (25, c1 (vB true)), (26, c1 (vB true)), (27, c1 (vi s1)), (28, c1 (vB false)), (29, c1 (vB false)), (30, c1 (vS s_)), (31, c1 (vi s1)), (32, c1 (vI .u8 c13)), (33, c1 (vB (decide (c13 < 48)))), (34, c1 (vB (decide (c13 < 48)))), (35, c1 (vB (decide (c13 < 48))))]) (σ' := []) (by kernel_rfl) ?_
            refine partsF ((decide (c13 < 48))) (fun zz => sl 50 [(0, c1 (vS s_)), (3, c1 (vi s1)), (4, c1 (vI .u8 (IntKind.u8.wrap ((BitVec.ofInt IntKind.u8.bits c2 ||| BitVec.ofInt IntKind.u8.bits 32).toNat : Int)))), (6, c1 (vi (s_.size : Int))), (7, c1 (vi s1)), (14, c1 (vS s_)), (15, c1 (vi s1)), (16, c1 (vI .u8 c3)), (17, c1 (vB true)), (18, c1 (vB true)), (19, c1 (vI .u8 (IntKind.u8.wrap ((BitVec.ofInt IntKind.u8.bits c2 ||| BitVec.ofInt IntKind.u8.bits 32).toNat : Int)))), (20, c1 (vB false)), (21, c1 (vB false)), (22, c1 (vI .u8 (IntKind.u8.wrap ((BitVec.ofInt IntKind.u8.bits c2 ||| BitVec.ofInt IntKind.u8.bits 32).toNat : Int)))), (23, c1 (vB true)), (24, c1 (vB true)), (25, c1 (vB true)), (26, c1 (vB true)), (27, c1 (vi s1)), (28, c1 (vB false)), (29, c1 (vB false)), (30, c1 (vS s_)), (31, c1 (vi s1)), (32, c1 (vI .u8 c13)), (33, c1 (vB zz)), (34, c1 (vB zz)), (35, c1 (vB zz))]) (by kernel_rfl) (fun hc14 => ?_) (fun hc14 => ?_)
            · replace hq := cond_t hc14 hq
              refine lastK (T' := sl 50 [(0, c1 (vS s_)), (6, c1 (vi (s_.size : Int))), (7, c1 (vi s1)), (41, c1 (vB true))]) (σ' := []) (by kernel_rfl) hR ?_
              refine L_true hb (by kernel_rfl) (L_seq ?_)
              refine L_regF hb [2] (T' := sl 50 [(2, c1 (vB false))]) (σ' := []) (by kernel_rfl) ?_
              refine L_ret (hD2 _ _ (hD1 _ _ ?_))
              have h0 := (Option.some.inj hq).symm
              replace h0 := he1 _ h0
              obtain rfl := h0
              exact end_ret (by kernel_rfl)
            · replace hq := cond_f hc14 hq
              refine runF 2 (T' := sl 50 [(0, c1 (vS s_)), (3, c1 (vi s1)), (4, c1 (vI .u8 (IntKind.u8.wrap ((BitVec.ofInt IntKind.u8.bits c2 ||| BitVec.ofInt IntKind.u8.bits 32).toNat : Int)))), (6, c1 (vi (s_.size : Int))), (7, c1 (vi s1)), (14, c1 (vS s_)), (15, c1 (vi s1)), (16, c1 (vI .u8 c3)), (17, c1 (vB true)), (18, c1 (vB true)), (19, c1 (vI .u8 (IntKind.u8.wrap ((BitVec.ofInt IntKind.u8.bits c2 ||| BitVec.ofInt IntKind.u8.bits 32).toNat : Int)))), (20, c1 (vB false)), (21, c1 (vB false)), (22, c1 (vI .u8 (IntKind.u8.wrap ((BitVec.ofInt IntKind.u8.bits c2 ||| BitVec.ofInt IntKind.u8.bits 32).toNat : Int)))), (23, c1 (vB true)), (24, c1 (vB true)), (25, c1 (vB true)), (26, c1 (vB true)), (27, c1 (vi s1)), (28, c1 (vB false)), (29, c1 (vB false)), (30, c1 (vS s_)), (31, c1 (vi s1)), (32, c1 (vI .u8 c13)), (33, c1 (vB false)), (34, c1 (vB false)), (35, c1 (vB false)), (36, c1 (vS s_)), (37, c1 (vi s1))]) (σ' := []) (by kernel_rfl) ?_
              obtain ⟨c15, hc15, hq⟩ := bind_inv hq
              refine sidxF (d := some 38) hc15 (by kernel_rfl) ?_
              refine lastK (T' := sl 50 [(0, c1 (vS s_)), (6, c1 (vi (s_.size : Int))), (7, c1 (vi s1)), (41, c1 (vB (decide (c15 > 57))))]) (σ' := []) (by kernel_rfl) hR ?_
              refine L_if hb (b := (decide (c15 > 57))) (by kernel_rfl) (fun hc16 => ?_) (fun hc16 => ?_)
              · replace hq := cond_t hc16 hq
                refine L_seq ?_
                refine L_regF hb [2] (T' := sl 50 [(2, c1 (vB false))]) (σ' := []) (by kernel_rfl) ?_
                refine L_ret (hD2 _ _ (hD1 _ _ ?_))
                have h0 := (Option.some.inj hq).symm
                replace h0 := he1 _ h0
                obtain rfl := h0
                exact end_ret (by kernel_rfl)
              · replace hq := cond_f hc16 hq
                refine L_skip (L_nil (hA2 _ _ ?_))
                refine L_regF hb [0, 6, 7] (T' := sl 50 [(0, c1 (vS s_)), (6, c1 (vi (s_.size : Int))), (7, c1 (vi (IntKind.i64.wrap (s1 + 1))))]) (σ' := []) (by kernel_rfl) ?_
                refine L_backF [0, 6, 7] [] 0 (T' := sl 50 [(0, c1 (vS s_)), (6, c1 (vi (s_.size : Int))), (7, c1 (vi (IntKind.i64.wrap (s1 + 1))))]) (σ' := []) (by kernel_rfl) (by kernel_rfl) (by simp) (by kernel_rfl) trivial ?_
                have h0 := (Option.some.inj hq).symm
                exact L_as (by kernel_rfl) (by kernel_rfl) (hn1 _ h0)
        · replace hq := cond_f hc11 hq
          refine lastK (T' := sl 50 [(0, c1 (vS s_)), (6, c1 (vi (s_.size : Int))), (7, c1 (vi s1)), (41, c1 (vB false))]) (σ' := []) (by kernel_rfl) hR ?_
          refine L_false hb (by kernel_rfl) (L_skip (L_nil (hA2 _ _ ?_)))
          refine L_regF hb [0, 6, 7] (T' := sl 50 [(0, c1 (vS s_)), (6, c1 (vi (s_.size : Int))), (7, c1 (vi (IntKind.i64.wrap (s1 + 1))))]) (σ' := []) (by kernel_rfl) ?_
          refine L_backF [0, 6, 7] [] 0 (T' := sl 50 [(0, c1 (vS s_)), (6, c1 (vi (s_.size : Int))), (7, c1 (vi (IntKind.i64.wrap (s1 + 1))))]) (σ' := []) (by kernel_rfl) (by kernel_rfl) (by simp) (by kernel_rfl) trivial ?_
          have h0 := (Option.some.inj hq).symm
          exact L_as (by kernel_rfl) (by kernel_rfl) (hn1 _ h0)
    · replace hq := cond_f hc4 hq
      refine lastK (T' := sl 50 [(0, c1 (vS s_)), (6, c1 (vi (s_.size : Int))), (7, c1 (vi s1)), (41, c1 (vB false))]) (σ' := []) (by kernel_rfl) hR ?_
      refine L_false hb (by kernel_rfl) (L_skip (L_nil (hA2 _ _ ?_)))
      refine L_regF hb [0, 6, 7] (T' := sl 50 [(0, c1 (vS s_)), (6, c1 (vi (s_.size : Int))), (7, c1 (vi (IntKind.i64.wrap (s1 + 1))))]) (σ' := []) (by kernel_rfl) ?_
      refine L_backF [0, 6, 7] [] 0 (T' := sl 50 [(0, c1 (vS s_)), (6, c1 (vi (s_.size : Int))), (7, c1 (vi (IntKind.i64.wrap (s1 + 1))))]) (σ' := []) (by kernel_rfl) (by kernel_rfl) (by simp) (by kernel_rfl) trivial ?_
      have h0 := (Option.some.inj hq).symm
      exact L_as (by kernel_rfl) (by kernel_rfl) (hn1 _ h0)
  · replace hq := cond_f hc1 hq
    refine L_exit (hB1 _ _ (L_seq ?_))
    refine L_regK hb [2] (fun R hR => ?_)
    refine runF 3 (T' := sl 50 [(0, c1 (vS s_)), (6, c1 (vi (s_.size : Int))), (7, c1 (vi s1)), (8, c1 (vB (decide (s1 < (s_.size : Int))))), (43, c1 (vS s_)), (44, c1 (vB (!decide (s_ = eS)))), (45, c1 (vB (!decide (s_ = eS))))]) (σ' := []) (by kernel_rfl) ?_
    refine partsF ((!decide (s_ = eS))) (fun zz => sl 50 [(0, c1 (vS s_)), (6, c1 (vi (s_.size : Int))), (7, c1 (vi s1)), (8, c1 (vB (decide (s1 < (s_.size : Int))))), (43, c1 (vS s_)), (44, c1 (vB zz)), (45, c1 (vB zz))]) (by kernel_rfl) (fun hc17 => ?_) (fun hc17 => ?_)
    · replace hq := cond_t hc17 hq
      refine lastK (T' := sl 50 [(2, c1 (vB (decide ((s_.size : Int) ≤ 64))))]) (σ' := []) (by kernel_rfl) hR ?_
      refine L_ret ?_
      have h0 := (Option.some.inj hq).symm
      replace h0 := he1 _ h0
      obtain rfl := h0
      exact end_ret (by kernel_rfl)
    · replace hq := cond_f hc17 hq
      refine lastK (T' := sl 50 [(2, c1 (vB false))]) (σ' := []) (by kernel_rfl) hR ?_
      refine L_ret ?_
      have h0 := (Option.some.inj hq).symm
      replace h0 := he1 _ h0
      obtain rfl := h0
      exact end_ret (by kernel_rfl)
noncomputable def g_types_of_1  (k_ : ByteArray) : Option (Bool) :=
  (g_address_Identifier k_).bind fun y1 => some (!y1)
theorem g_types_of_1_ok (hb : Base E E0 G) (he : ∀ w, E w → EnvV w)   (k_ : ByteArray) (r_ : Bool) (hq : g_types_of_1 k_ = some r_) :
    Pure E E0 Tryz.prog 71 [.cell (vS k_)] (c1 (vB r_)) := by
  refine pure_L Tryz.func71 rfl ?_
  refine L_keepF [0] (T' := sl 6 [(0, c1 (vS k_))]) (by kernel_rfl) ?_
  refine L_seq ?_
  refine L_regF hb [0] (T' := sl 6 [(0, c1 (vS k_))]) (σ' := []) (by kernel_rfl) ?_
  refine L_seq ?_
  refine L_regK hb [2] (fun R hR => ?_)
  refine runF 1 (T' := sl 6 [(0, c1 (vS k_)), (3, c1 (vS k_))]) (σ' := []) (by kernel_rfl) ?_
  obtain ⟨y1, hy1, hq⟩ := bind_inv hq
  refine callF (d := some 4) (by kernel_rfl) (g_address_Identifier_ok hb he k_ y1 hy1) ?_
  refine lastK (T' := sl 6 [(2, c1 (vB (!y1)))]) (σ' := []) (by kernel_rfl) hR ?_
  refine L_ret ?_
  have h0 := Option.some.inj hq
  obtain rfl := h0
  exact end_ret (by kernel_rfl)
noncomputable def g_types_common_L1 (r_types_of : Val → Int → Option (Ty)) (l_ : List Val) (level_ : Int) (s1 : Int × List Ty × List ByteArray × Int × Bool) : Option ((Int × List Ty × List ByteArray × Int × Bool) ⊕ (Ty)) :=
  bif (decide (s1.2.2.2.1 < (l_.length : Int))) then (idx l_ s1.2.2.2.1).bind fun x2 => bif (decide (x2.kind = 0)) then some (.inl (s1.1, s1.2.1, s1.2.2.1, (IntKind.i64.wrap (s1.2.2.2.1 + 1)), s1.2.2.2.2)) else bif (decide (x2.kind = 6)) then some (.inl (s1.1, s1.2.1, s1.2.2.1, (IntKind.i64.wrap (s1.2.2.2.1 + 1)), s1.2.2.2.2)) else (r_types_of x2 level_).bind fun y5 => bif (!s1.2.2.2.2) then (t_types_Unify (Ty.mk s1.1 s1.2.1 s1.2.2.1) y5).bind fun y7 => some (.inl (y7.kind, y7.elems, y7.names, (IntKind.i64.wrap (s1.2.2.2.1 + 1)), false)) else some (.inl (y5.kind, y5.elems, y5.names, (IntKind.i64.wrap (s1.2.2.2.1 + 1)), false)) else some (.inr (Ty.mk s1.1 s1.2.1 s1.2.2.1))
noncomputable def g_types_common (r_types_of : Val → Int → Option (Ty)) (l_ : List Val) (level_ : Int) : Option (Ty) :=
  loopO (g_types_common_L1 r_types_of l_ level_) (0, [], [], 0, true)
theorem g_types_common_ok (hb : Base E E0 G) (he : ∀ w, E w → EnvV w) (r_types_of : Val → Int → Option (Ty)) (hr_types_of : ∀ (a0 : Val) (a1 : Int) (r : Ty), r_types_of a0 a1 = some r → Pure E E0 Tryz.prog 45 [.agg (aV a0), .cell (vi a1)] (.one (.agg (aT r)))) (l_ : List Val) (level_ : Int) (r_ : Ty) (hq : g_types_common r_types_of l_ level_ = some r_) :
    Pure E E0 Tryz.prog 69 [.cell (vL flV l_), .cell (vi level_)] (.one (.agg (aT r_))) := by
  refine pure_L Tryz.func69 rfl ?_
  refine L_keepF [0, 1] (T' := sl 35 [(0, c1 (vL flV l_)), (1, c1 (vi level_))]) (by kernel_rfl) ?_
  refine L_seq ?_
  refine L_regF hb [0, 1, 4] (T' := sl 35 [(0, c1 (vL flV l_)), (1, c1 (vi level_)), (4, c1 (.ptr 0 0 0))]) (σ' := [some (.box [vi 0, vN, vN])]) (by kernel_rfl) ?_
  refine L_seq ?_
  refine L_regF hb [0, 1, 4, 5] (T' := sl 35 [(0, c1 (vL flV l_)), (1, c1 (vi level_)), (4, c1 (.ptr 0 0 0)), (5, c1 (.ptr 1 0 0))]) (σ' := [some (.box [vi 0, vN, vN]), some (.box [vi 0, vN, vN])]) (by kernel_rfl) ?_
  refine L_seq ?_
  refine L_regF hb [0, 1, 4, 5, 6] (T' := sl 35 [(0, c1 (vL flV l_)), (1, c1 (vi level_)), (4, c1 (.ptr 0 0 0)), (5, c1 (.ptr 1 0 0)), (6, c1 (vB true))]) (σ' := [some (.box [vi 0, vN, vN]), some (.box [vi 0, vN, vN])]) (by kernel_rfl) ?_
  refine L_seq (L_seq ?_)
  refine L_regF hb [1, 4, 5, 6, 10, 11, 12] (T' := sl 35 [(1, c1 (vi level_)), (4, c1 (.ptr 0 0 0)), (5, c1 (.ptr 1 0 0)), (6, c1 (vB true)), (10, c1 (vL flV l_)), (11, c1 (vi (l_.length : Int))), (12, c1 (vi 0))]) (σ' := [some (.box [vi 0, vN, vN]), some (.box [vi 0, vN, vN])]) (by kernel_rfl) ?_
  refine L_block (fun K1 hA1 hB1 hC1 hD1 => ?_)
  refine L_cellσ 1 1 (cs := [vi 0, vN, vN]) (c := vN) (by kernel_rfl) (by kernel_rfl) (conv_nil flT) ?_
  refine L_cellσ 1 2 (cs := [vi 0, vL flT [], vN]) (c := vN) (by kernel_rfl) (by kernel_rfl) (conv_nil flS) ?_
  refine L_backF [1, 4, 5, 6, 10, 11, 12] [] 2 (T' := sl 35 [(1, c1 (vi level_)), (4, c1 (.ptr 0 0 0)), (5, c1 (.ptr 1 0 0)), (6, c1 (vB true)), (10, c1 (vL flV l_)), (11, c1 (vi (l_.length : Int))), (12, c1 (vi 0))]) (σ' := [some (.box [vi 0, vN, vN]), some (.box [vi 0, vL flT [], vL flS []])]) (by kernel_rfl) (by kernel_rfl) (by simp) (by kernel_rfl) ⟨(by kernel_rfl), (by kernel_rfl), trivial⟩ ?_
  refine L_as (by kernel_rfl) (by kernel_rfl) (L_loopO (body := (g_types_common_L1 r_types_of l_ level_)) (fun s1 => sl 35 [(1, c1 (vi level_)), (4, c1 (.ptr 0 0 0)), (5, c1 (.ptr 1 0 0)), (6, c1 (vB s1.2.2.2.2)), (10, c1 (vL flV l_)), (11, c1 (vi (l_.length : Int))), (12, c1 (vi s1.2.2.2.1))]) (fun s1 => [some (.box [vi 0, vN, vN]), some (.box [vi s1.1, vL flT s1.2.1, vL flS s1.2.2.1])]) (s0 := (0, [], [], 0, true)) (fun s1 x1 hq hn1 he1 => ?_) hq)
  refine L_seq ?_
  refine L_regF hb [1, 4, 5, 6, 10, 11, 12, 13] (T' := sl 35 [(1, c1 (vi level_)), (4, c1 (.ptr 0 0 0)), (5, c1 (.ptr 1 0 0)), (6, c1 (vB s1.2.2.2.2)), (10, c1 (vL flV l_)), (11, c1 (vi (l_.length : Int))), (12, c1 (vi s1.2.2.2.1)), (13, c1 (vB (decide (s1.2.2.2.1 < (l_.length : Int)))))]) (σ' := [some (.box [vi 0, vN, vN]), some (.box [vi s1.1, vL flT s1.2.1, vL flS s1.2.2.1])]) (by kernel_rfl) ?_
  refine L_seq ?_
  refine L_if hb (b := (decide (s1.2.2.2.1 < (l_.length : Int)))) (by kernel_rfl) (fun hc1 => ?_) (fun hc1 => ?_)
  · replace hq := cond_t hc1 hq
    refine L_skip (L_seq (L_block (fun K2 hA2 hB2 hC2 hD2 => (L_seq ?_))))
    refine L_regK hb [1, 4, 5, 6, 8, 10, 11, 12] (fun R hR => ?_)
    obtain ⟨x2, hx2, hq⟩ := bind_inv hq
    refine idxF flV (d := some 14) hx2 (by kernel_rfl) ?_
    refine lastK (T' := sl 35 [(1, c1 (vi level_)), (4, c1 (.ptr 0 0 0)), (5, c1 (.ptr 1 0 0)), (6, c1 (vB s1.2.2.2.2)), (8, c1 (.ptr 2 0 0)), (10, c1 (vL flV l_)), (11, c1 (vi (l_.length : Int))), (12, c1 (vi s1.2.2.2.1))]) (σ' := [some (.box [vi 0, vN, vN]), some (.box [vi s1.1, vL flT s1.2.1, vL flS s1.2.2.1]), some (.box (aV x2))]) (by kernel_rfl) hR ?_
    refine L_seq (L_seq ?_)
    refine L_regK hb [1, 4, 5, 6, 8, 10, 11, 12, 23] (fun R hR => ?_)
    refine runF 4 (T' := sl 35 [(1, c1 (vi level_)), (4, c1 (.ptr 0 0 0)), (5, c1 (.ptr 1 0 0)), (6, c1 (vB s1.2.2.2.2)), (8, c1 (.ptr 2 0 0)), (10, c1 (vL flV l_)), (11, c1 (vi (l_.length : Int))), (12, c1 (vi s1.2.2.2.1)), (16, c1 (.ptr 2 0 0)), (17, c1 (vi x2.kind)), (18, c1 (vB (decide (x2.kind = 0)))), (19, c1 (vB (decide (x2.kind = 0))))]) (σ' := [some (.box [vi 0, vN, vN]), some (.box [vi s1.1, vL flT s1.2.1, vL flS s1.2.2.1]), some (.box (aV x2))]) (by kernel_rfl) ?_
    refine partsF ((decide (x2.kind = 0))) (fun zz => sl 35 [(1, c1 (vi level_)), (4, c1 (.ptr 0 0 0)), (5, c1 (.ptr 1 0 0)), (6, c1 (vB s1.2.2.2.2)), (8, c1 (.ptr 2 0 0)), (10, c1 (vL flV l_)), (11, c1 (vi (l_.length : Int))), (12, c1 (vi s1.2.2.2.1)), (16, c1 (.ptr 2 0 0)), (17, c1 (vi x2.kind)), (18, c1 (vB zz)), (19, c1 (vB zz))]) (by kernel_rfl) (fun hc3 => ?_) (fun hc3 => ?_)
    · replace hq := cond_t hc3 hq
      refine lastK (T' := sl 35 [(1, c1 (vi level_)), (4, c1 (.ptr 0 0 0)), (5, c1 (.ptr 1 0 0)), (6, c1 (vB s1.2.2.2.2)), (8, c1 (.ptr 2 0 0)), (10, c1 (vL flV l_)), (11, c1 (vi (l_.length : Int))), (12, c1 (vi s1.2.2.2.1)), (23, c1 (vB true))]) (σ' := [some (.box [vi 0, vN, vN]), some (.box [vi s1.1, vL flT s1.2.1, vL flS s1.2.2.1]), some (.box (aV x2))]) (by kernel_rfl) hR ?_
      refine L_true hb (by kernel_rfl) (L_exit (hB2 _ _ ?_))
      refine L_regF hb [1, 4, 5, 6, 10, 11, 12] (T' := sl 35 [(1, c1 (vi level_)), (4, c1 (.ptr 0 0 0)), (5, c1 (.ptr 1 0 0)), (6, c1 (vB s1.2.2.2.2)), (10, c1 (vL flV l_)), (11, c1 (vi (l_.length : Int))), (12, c1 (vi (IntKind.i64.wrap (s1.2.2.2.1 + 1))))]) (σ' := [some (.box [vi 0, vN, vN]), some (.box [vi s1.1, vL flT s1.2.1, vL flS s1.2.2.1]), some (.box (aV x2))]) (by kernel_rfl) ?_
      refine L_backF [1, 4, 5, 6, 10, 11, 12] [] 2 (T' := sl 35 [(1, c1 (vi level_)), (4, c1 (.ptr 0 0 0)), (5, c1 (.ptr 1 0 0)), (6, c1 (vB s1.2.2.2.2)), (10, c1 (vL flV l_)), (11, c1 (vi (l_.length : Int))), (12, c1 (vi (IntKind.i64.wrap (s1.2.2.2.1 + 1))))]) (σ' := [some (.box [vi 0, vN, vN]), some (.box [vi s1.1, vL flT s1.2.1, vL flS s1.2.2.1])]) (by kernel_rfl) (by kernel_rfl) (by simp) (by kernel_rfl) ⟨(by kernel_rfl), (by kernel_rfl), trivial⟩ ?_
      have h0 := (Option.some.inj hq).symm
      exact L_as (by kernel_rfl) (by kernel_rfl) (hn1 _ h0)
    · replace hq := cond_f hc3 hq
      refine lastK (T' := sl 35 [(1, c1 (vi level_)), (4, c1 (.ptr 0 0 0)), (5, c1 (.ptr 1 0 0)), (6, c1 (vB s1.2.2.2.2)), (8, c1 (.ptr 2 0 0)), (10, c1 (vL flV l_)), (11, c1 (vi (l_.length : Int))), (12, c1 (vi s1.2.2.2.1)), (23, c1 (vB (decide (x2.kind = 6))))]) (σ' := [some (.box [vi 0, vN, vN]), some (.box [vi s1.1, vL flT s1.2.1, vL flS s1.2.2.1]), some (.box (aV x2))]) (by kernel_rfl) hR ?_
      refine L_if hb (b := (decide (x2.kind = 6))) (by kernel_rfl) (fun hc4 => ?_) (fun hc4 => ?_)
      · replace hq := cond_t hc4 hq
        refine L_exit (hB2 _ _ ?_)
        refine L_regF hb [1, 4, 5, 6, 10, 11, 12] (T' := sl 35 [(1, c1 (vi level_)), (4, c1 (.ptr 0 0 0)), (5, c1 (.ptr 1 0 0)), (6, c1 (vB s1.2.2.2.2)), (10, c1 (vL flV l_)), (11, c1 (vi (l_.length : Int))), (12, c1 (vi (IntKind.i64.wrap (s1.2.2.2.1 + 1))))]) (σ' := [some (.box [vi 0, vN, vN]), some (.box [vi s1.1, vL flT s1.2.1, vL flS s1.2.2.1]), some (.box (aV x2))]) (by kernel_rfl) ?_
        refine L_backF [1, 4, 5, 6, 10, 11, 12] [] 2 (T' := sl 35 [(1, c1 (vi level_)), (4, c1 (.ptr 0 0 0)), (5, c1 (.ptr 1 0 0)), (6, c1 (vB s1.2.2.2.2)), (10, c1 (vL flV l_)), (11, c1 (vi (l_.length : Int))), (12, c1 (vi (IntKind.i64.wrap (s1.2.2.2.1 + 1))))]) (σ' := [some (.box [vi 0, vN, vN]), some (.box [vi s1.1, vL flT s1.2.1, vL flS s1.2.2.1])]) (by kernel_rfl) (by kernel_rfl) (by simp) (by kernel_rfl) ⟨(by kernel_rfl), (by kernel_rfl), trivial⟩ ?_
        have h0 := (Option.some.inj hq).symm
        exact L_as (by kernel_rfl) (by kernel_rfl) (hn1 _ h0)
      · replace hq := cond_f hc4 hq
        refine L_skip (L_seq ?_)
        refine L_regK hb [1, 4, 5, 6, 9, 10, 11, 12] (fun R hR => ?_)
        refine runF 2 (T' := sl 35 [(1, c1 (vi level_)), (4, c1 (.ptr 0 0 0)), (5, c1 (.ptr 1 0 0)), (6, c1 (vB s1.2.2.2.2)), (8, c1 (.ptr 2 0 0)), (10, c1 (vL flV l_)), (11, c1 (vi (l_.length : Int))), (12, c1 (vi s1.2.2.2.1)), (23, c1 (vB (decide (x2.kind = 6)))), (24, .one (.agg (aV x2))), (25, c1 (vi level_))]) (σ' := [some (.box [vi 0, vN, vN]), some (.box [vi s1.1, vL flT s1.2.1, vL flS s1.2.2.1]), some (.box (aV x2))]) (by kernel_rfl) ?_
        obtain ⟨y5, hy5, hq⟩ := bind_inv hq
        refine callF (d := some 26) (by kernel_rfl) (hr_types_of x2 level_ y5 hy5) ?_
        refine lastK (T' := sl 35 [(1, c1 (vi level_)), (4, c1 (.ptr 0 0 0)), (5, c1 (.ptr 1 0 0)), (6, c1 (vB s1.2.2.2.2)), (9, c1 (.ptr 3 0 0)), (10, c1 (vL flV l_)), (11, c1 (vi (l_.length : Int))), (12, c1 (vi s1.2.2.2.1))]) (σ' := [some (.box [vi 0, vN, vN]), some (.box [vi s1.1, vL flT s1.2.1, vL flS s1.2.2.1]), some (.box (aV x2)), some (.box (aT y5))]) (by kernel_rfl) hR ?_
        refine L_seq (L_seq ?_)
        refine L_regF hb [1, 4, 5, 9, 10, 11, 12, 28] (T' := sl 35 [(1, c1 (vi level_)), (4, c1 (.ptr 0 0 0)), (5, c1 (.ptr 1 0 0)), (9, c1 (.ptr 3 0 0)), (10, c1 (vL flV l_)), (11, c1 (vi (l_.length : Int))), (12, c1 (vi s1.2.2.2.1)), (28, c1 (vB (!s1.2.2.2.2)))]) (σ' := [some (.box [vi 0, vN, vN]), some (.box [vi s1.1, vL flT s1.2.1, vL flS s1.2.2.1]), some (.box (aV x2)), some (.box (aT y5))]) (by kernel_rfl) ?_
        refine L_if hb (b := (!s1.2.2.2.2)) (by kernel_rfl) (fun hc6 => ?_) (fun hc6 => ?_)
        · replace hq := cond_t hc6 hq
          refine L_regK hb [1, 4, 5, 9, 10, 11, 12] (fun R hR => ?_)
          refine runF 2 (T' := sl 35 [(1, c1 (vi level_)), (4, c1 (.ptr 0 0 0)), (5, c1 (.ptr 1 0 0)), (9, c1 (.ptr 3 0 0)), (10, c1 (vL flV l_)), (11, c1 (vi (l_.length : Int))), (12, c1 (vi s1.2.2.2.1)), (28, c1 (vB (!s1.2.2.2.2))), (29, .one (.agg [vi s1.1, vL flT s1.2.1, vL flS s1.2.2.1])), (30, .one (.agg (aT y5)))]) (σ' := [some (.box [vi 0, vN, vN]), some (.box [vi s1.1, vL flT s1.2.1, vL flS s1.2.2.1]), some (.box (aV x2)), some (.box (aT y5))]) (by kernel_rfl) ?_
          obtain ⟨y7, hy7, hq⟩ := bind_inv hq
          refine callF (d := some 31) (by kernel_rfl) (t_types_Unify_ok hb he (Ty.mk s1.1 s1.2.1 s1.2.2.1) y5 y7 hy7) ?_
          refine lastK (T' := sl 35 [(1, c1 (vi level_)), (4, c1 (.ptr 0 0 0)), (5, c1 (.ptr 1 0 0)), (9, c1 (.ptr 3 0 0)), (10, c1 (vL flV l_)), (11, c1 (vi (l_.length : Int))), (12, c1 (vi s1.2.2.2.1))]) (σ' := [some (.box [vi 0, vN, vN]), some (.box [vi s1.1, vL flT s1.2.1, vL flS s1.2.2.1]), some (.box (aV x2)), some (.box (aT y7))]) (by kernel_rfl) hR ?_
          refine L_regN hb (fun R hR => ?_)
          refine lastF (T' := sl 35 [(1, c1 (vi level_)), (4, c1 (.ptr 0 0 0)), (5, c1 (.ptr 1 0 0)), (6, c1 (vB false)), (9, c1 (.ptr 3 0 0)), (10, c1 (vL flV l_)), (11, c1 (vi (l_.length : Int))), (12, c1 (vi s1.2.2.2.1)), (32, .one (.agg (aT y7)))]) (σ' := [some (.box [vi 0, vN, vN]), some (.box (aT y7)), some (.box (aV x2)), some (.box (aT y7))]) (by kernel_rfl) (hR _ _ ?_)
          refine L_nil (hA2 _ _ ?_)
          refine L_regF hb [1, 4, 5, 6, 10, 11, 12] (T' := sl 35 [(1, c1 (vi level_)), (4, c1 (.ptr 0 0 0)), (5, c1 (.ptr 1 0 0)), (6, c1 (vB false)), (10, c1 (vL flV l_)), (11, c1 (vi (l_.length : Int))), (12, c1 (vi (IntKind.i64.wrap (s1.2.2.2.1 + 1))))]) (σ' := [some (.box [vi 0, vN, vN]), some (.box (aT y7)), some (.box (aV x2)), some (.box (aT y7))]) (by kernel_rfl) ?_
          refine L_backF [1, 4, 5, 6, 10, 11, 12] [] 2 (T' := sl 35 [(1, c1 (vi level_)), (4, c1 (.ptr 0 0 0)), (5, c1 (.ptr 1 0 0)), (6, c1 (vB false)), (10, c1 (vL flV l_)), (11, c1 (vi (l_.length : Int))), (12, c1 (vi (IntKind.i64.wrap (s1.2.2.2.1 + 1))))]) (σ' := [some (.box [vi 0, vN, vN]), some (.box (aT y7))]) (by kernel_rfl) (by kernel_rfl) (by simp) (by kernel_rfl) ⟨(by kernel_rfl), (by kernel_rfl), trivial⟩ ?_
          have h0 := (Option.some.inj hq).symm
          exact L_as (by kernel_rfl) (by kernel_rfl) (hn1 _ h0)
        · replace hq := cond_f hc6 hq
          refine L_skip ?_
          refine L_regN hb (fun R hR => ?_)
          refine lastF (T' := sl 35 [(1, c1 (vi level_)), (4, c1 (.ptr 0 0 0)), (5, c1 (.ptr 1 0 0)), (6, c1 (vB false)), (9, c1 (.ptr 3 0 0)), (10, c1 (vL flV l_)), (11, c1 (vi (l_.length : Int))), (12, c1 (vi s1.2.2.2.1)), (28, c1 (vB (!s1.2.2.2.2))), (32, .one (.agg (aT y5)))]) (σ' := [some (.box [vi 0, vN, vN]), some (.box (aT y5)), some (.box (aV x2)), some (.box (aT y5))]) (by kernel_rfl) (hR _ _ ?_)
          refine L_nil (hA2 _ _ ?_)
          refine L_regF hb [1, 4, 5, 6, 10, 11, 12] (T' := sl 35 [(1, c1 (vi level_)), (4, c1 (.ptr 0 0 0)), (5, c1 (.ptr 1 0 0)), (6, c1 (vB false)), (10, c1 (vL flV l_)), (11, c1 (vi (l_.length : Int))), (12, c1 (vi (IntKind.i64.wrap (s1.2.2.2.1 + 1))))]) (σ' := [some (.box [vi 0, vN, vN]), some (.box (aT y5)), some (.box (aV x2)), some (.box (aT y5))]) (by kernel_rfl) ?_
          refine L_backF [1, 4, 5, 6, 10, 11, 12] [] 2 (T' := sl 35 [(1, c1 (vi level_)), (4, c1 (.ptr 0 0 0)), (5, c1 (.ptr 1 0 0)), (6, c1 (vB false)), (10, c1 (vL flV l_)), (11, c1 (vi (l_.length : Int))), (12, c1 (vi (IntKind.i64.wrap (s1.2.2.2.1 + 1))))]) (σ' := [some (.box [vi 0, vN, vN]), some (.box (aT y5))]) (by kernel_rfl) (by kernel_rfl) (by simp) (by kernel_rfl) ⟨(by kernel_rfl), (by kernel_rfl), trivial⟩ ?_
          have h0 := (Option.some.inj hq).symm
          exact L_as (by kernel_rfl) (by kernel_rfl) (hn1 _ h0)
  · replace hq := cond_f hc1 hq
    refine L_exit (hB1 _ _ (L_seq ?_))
    refine L_regF hb [4] (T' := sl 35 [(4, c1 (.ptr 0 0 0))]) (σ' := [some (.box [vi s1.1, vL flT s1.2.1, vL flS s1.2.2.1]), some (.box [vi s1.1, vL flT s1.2.1, vL flS s1.2.2.1])]) (by kernel_rfl) ?_
    refine L_ret ?_
    have h0 := (Option.some.inj hq).symm
    replace h0 := he1 _ h0
    obtain rfl := h0
    exact end_ret (by kernel_rfl)
noncomputable def g_types_of_slices_ContainsFunc_types_of_1_slices_IndexFunc_types_of_1_L1 (s_ : List ByteArray) (s1 : Int) : Option ((Int) ⊕ (Int)) :=
  bif (decide (s1 < (s_.length : Int))) then (idx s_ s1).bind fun x2 => (g_types_of_1 x2).bind fun y3 => bif y3 then some (.inr (s1)) else some (.inl (IntKind.i64.wrap (s1 + 1))) else some (.inr (-1))
noncomputable def g_types_of_slices_ContainsFunc_types_of_1_slices_IndexFunc_types_of_1 (r_types_common : List Val → Int → Option (Ty)) (r_types_of : Val → Int → Option (Ty)) (s_ : List ByteArray) : Option (Int) :=
  loopO (g_types_of_slices_ContainsFunc_types_of_1_slices_IndexFunc_types_of_1_L1 s_) 0
theorem g_types_of_slices_ContainsFunc_types_of_1_slices_IndexFunc_types_of_1_ok (hb : Base E E0 G) (he : ∀ w, E w → EnvV w) (r_types_common : List Val → Int → Option (Ty)) (r_types_of : Val → Int → Option (Ty)) (hr_types_common : ∀ (a0 : List Val) (a1 : Int) (r : Ty), r_types_common a0 a1 = some r → Pure E E0 Tryz.prog 69 [.cell (vL flV a0), .cell (vi a1)] (.one (.agg (aT r)))) (hr_types_of : ∀ (a0 : Val) (a1 : Int) (r : Ty), r_types_of a0 a1 = some r → Pure E E0 Tryz.prog 45 [.agg (aV a0), .cell (vi a1)] (.one (.agg (aT r)))) (s_ : List ByteArray) (r_ : Int) (hq : g_types_of_slices_ContainsFunc_types_of_1_slices_IndexFunc_types_of_1 r_types_common r_types_of s_ = some r_) :
    Pure E E0 Tryz.prog 89 [.cell (vL flS s_), .cell (.pv (.sc (.func (.func 71) #[] #[])))] (c1 (vi r_)) := by
  refine pure_L Tryz.func89 rfl ?_
  refine L_keepF [0, 1] (T' := sl 19 [(0, c1 (vL flS s_)), (1, c1 (.pv (.sc (.func (.func 71) #[] #[]))))]) (by kernel_rfl) ?_
  refine L_seq ?_
  refine L_regF hb [0, 1] (T' := sl 19 [(0, c1 (vL flS s_)), (1, c1 (.pv (.sc (.func (.func 71) #[] #[]))))]) (σ' := []) (by kernel_rfl) ?_
  refine L_seq (L_seq ?_)
  refine L_regF hb [0, 1, 7, 8] (T' := sl 19 [(0, c1 (vL flS s_)), (1, c1 (.pv (.sc (.func (.func 71) #[] #[])))), (7, c1 (vi (s_.length : Int))), (8, c1 (vi 0))]) (σ' := []) (by kernel_rfl) ?_
  refine L_block (fun K1 hA1 hB1 hC1 hD1 => ?_)
  refine L_backF [0, 1, 7, 8] [] 0 (T' := sl 19 [(0, c1 (vL flS s_)), (1, c1 (.pv (.sc (.func (.func 71) #[] #[])))), (7, c1 (vi (s_.length : Int))), (8, c1 (vi 0))]) (σ' := []) (by kernel_rfl) (by kernel_rfl) (by simp) (by kernel_rfl) trivial ?_
  refine L_as (by kernel_rfl) (by kernel_rfl) (L_loopO (body := (g_types_of_slices_ContainsFunc_types_of_1_slices_IndexFunc_types_of_1_L1 s_)) (fun s1 => sl 19 [(0, c1 (vL flS s_)), (1, c1 (.pv (.sc (.func (.func 71) #[] #[])))), (7, c1 (vi (s_.length : Int))), (8, c1 (vi s1))]) (fun s1 => []) (s0 := 0) (fun s1 x1 hq hn1 he1 => ?_) hq)
  refine L_seq ?_
  refine L_regF hb [0, 1, 7, 8, 9] (T' := sl 19 [(0, c1 (vL flS s_)), (1, c1 (.pv (.sc (.func (.func 71) #[] #[])))), (7, c1 (vi (s_.length : Int))), (8, c1 (vi s1)), (9, c1 (vB (decide (s1 < (s_.length : Int)))))]) (σ' := []) (by kernel_rfl) ?_
  refine L_seq ?_
  refine L_if hb (b := (decide (s1 < (s_.length : Int)))) (by kernel_rfl) (fun hc1 => ?_) (fun hc1 => ?_)
  · replace hq := cond_t hc1 hq
    refine L_skip (L_seq (L_block (fun K2 hA2 hB2 hC2 hD2 => (L_seq ?_))))
    refine L_regF hb [0, 1, 5, 7, 8] (T' := sl 19 [(0, c1 (vL flS s_)), (1, c1 (.pv (.sc (.func (.func 71) #[] #[])))), (5, c1 (vi s1)), (7, c1 (vi (s_.length : Int))), (8, c1 (vi s1))]) (σ' := []) (by kernel_rfl) ?_
    refine L_seq ?_
    refine L_regK hb [0, 1, 5, 7, 8, 16] (fun R hR => ?_)
    refine runF 3 (T' := sl 19 [(0, c1 (vL flS s_)), (1, c1 (.pv (.sc (.func (.func 71) #[] #[])))), (5, c1 (vi s1)), (7, c1 (vi (s_.length : Int))), (8, c1 (vi s1)), (11, c1 (.pv (.sc (.func (.func 71) #[] #[])))), (12, c1 (vL flS s_)), (13, c1 (vi s1))]) (σ' := []) (by kernel_rfl) ?_
    obtain ⟨x2, hx2, hq⟩ := bind_inv hq
    refine idxF flS (d := some 14) hx2 (by kernel_rfl) ?_
    refine runF 1 (T' := sl 19 [(0, c1 (vL flS s_)), (1, c1 (.pv (.sc (.func (.func 71) #[] #[])))), (5, c1 (vi s1)), (7, c1 (vi (s_.length : Int))), (8, c1 (vi s1)), (11, c1 (.pv (.sc (.func (.func 71) #[] #[])))), (12, c1 (vL flS s_)), (13, c1 (vi s1)), (14, c1 (.pv (.pp (flS.c x2 ++ flS.f (List.drop (s1.toNat + 1) s_))))), (15, c1 (vS x2))]) (σ' := []) (by kernel_rfl) ?_
    obtain ⟨y3, hy3, hq⟩ := bind_inv hq
    refine callF (d := some 16) (by kernel_rfl) (g_types_of_1_ok hb he x2 y3 hy3) ?_
    refine lastK (T' := sl 19 [(0, c1 (vL flS s_)), (1, c1 (.pv (.sc (.func (.func 71) #[] #[])))), (5, c1 (vi s1)), (7, c1 (vi (s_.length : Int))), (8, c1 (vi s1)), (16, c1 (vB y3))]) (σ' := []) (by kernel_rfl) hR ?_
    refine L_if hb (b := y3) (by kernel_rfl) (fun hc4 => ?_) (fun hc4 => ?_)
    · replace hq := cond_t hc4 hq
      refine L_seq ?_
      refine L_regF hb [4] (T' := sl 19 [(4, c1 (vi s1))]) (σ' := []) (by kernel_rfl) ?_
      refine L_ret (hD2 _ _ (hD1 _ _ ?_))
      have h0 := (Option.some.inj hq).symm
      replace h0 := he1 _ h0
      obtain rfl := h0
      exact end_ret (by kernel_rfl)
    · replace hq := cond_f hc4 hq
      refine L_skip (L_nil (hA2 _ _ ?_))
      refine L_regF hb [0, 1, 7, 8] (T' := sl 19 [(0, c1 (vL flS s_)), (1, c1 (.pv (.sc (.func (.func 71) #[] #[])))), (7, c1 (vi (s_.length : Int))), (8, c1 (vi (IntKind.i64.wrap (s1 + 1))))]) (σ' := []) (by kernel_rfl) ?_
      refine L_backF [0, 1, 7, 8] [] 0 (T' := sl 19 [(0, c1 (vL flS s_)), (1, c1 (.pv (.sc (.func (.func 71) #[] #[])))), (7, c1 (vi (s_.length : Int))), (8, c1 (vi (IntKind.i64.wrap (s1 + 1))))]) (σ' := []) (by kernel_rfl) (by kernel_rfl) (by simp) (by kernel_rfl) trivial ?_
      have h0 := (Option.some.inj hq).symm
      exact L_as (by kernel_rfl) (by kernel_rfl) (hn1 _ h0)
  · replace hq := cond_f hc1 hq
    refine L_exit (hB1 _ _ (L_seq ?_))
    refine L_regF hb [4] (T' := sl 19 [(4, c1 (vi (-1)))]) (σ' := []) (by kernel_rfl) ?_
    refine L_ret ?_
    have h0 := (Option.some.inj hq).symm
    replace h0 := he1 _ h0
    obtain rfl := h0
    exact end_ret (by kernel_rfl)
noncomputable def g_types_of_slices_ContainsFunc_types_of_1 (r_types_common : List Val → Int → Option (Ty)) (r_types_of : Val → Int → Option (Ty)) (s_ : List ByteArray) : Option (Bool) :=
  (g_types_of_slices_ContainsFunc_types_of_1_slices_IndexFunc_types_of_1 r_types_common r_types_of s_).bind fun y1 => some (decide (y1 ≥ 0))
theorem g_types_of_slices_ContainsFunc_types_of_1_ok (hb : Base E E0 G) (he : ∀ w, E w → EnvV w) (r_types_common : List Val → Int → Option (Ty)) (r_types_of : Val → Int → Option (Ty)) (hr_types_common : ∀ (a0 : List Val) (a1 : Int) (r : Ty), r_types_common a0 a1 = some r → Pure E E0 Tryz.prog 69 [.cell (vL flV a0), .cell (vi a1)] (.one (.agg (aT r)))) (hr_types_of : ∀ (a0 : Val) (a1 : Int) (r : Ty), r_types_of a0 a1 = some r → Pure E E0 Tryz.prog 45 [.agg (aV a0), .cell (vi a1)] (.one (.agg (aT r)))) (s_ : List ByteArray) (r_ : Bool) (hq : g_types_of_slices_ContainsFunc_types_of_1 r_types_common r_types_of s_ = some r_) :
    Pure E E0 Tryz.prog 70 [.cell (vL flS s_), .cell (.pv (.sc (.func (.func 71) #[] #[])))] (c1 (vB r_)) := by
  refine pure_L Tryz.func70 rfl ?_
  refine L_keepF [0, 1] (T' := sl 9 [(0, c1 (vL flS s_)), (1, c1 (.pv (.sc (.func (.func 71) #[] #[]))))]) (by kernel_rfl) ?_
  refine L_seq ?_
  refine L_regF hb [0, 1] (T' := sl 9 [(0, c1 (vL flS s_)), (1, c1 (.pv (.sc (.func (.func 71) #[] #[]))))]) (σ' := []) (by kernel_rfl) ?_
  refine L_seq ?_
  refine L_regK hb [4] (fun R hR => ?_)
  refine runF 2 (T' := sl 9 [(0, c1 (vL flS s_)), (1, c1 (.pv (.sc (.func (.func 71) #[] #[])))), (5, c1 (vL flS s_)), (6, c1 (.pv (.sc (.func (.func 71) #[] #[]))))]) (σ' := []) (by kernel_rfl) ?_
  obtain ⟨y1, hy1, hq⟩ := bind_inv hq
  refine callF (d := some 7) (by kernel_rfl) (g_types_of_slices_ContainsFunc_types_of_1_slices_IndexFunc_types_of_1_ok hb he r_types_common r_types_of hr_types_common hr_types_of s_ y1 hy1) ?_
  refine lastK (T' := sl 9 [(4, c1 (vB (decide (y1 ≥ 0))))]) (σ' := []) (by kernel_rfl) hR ?_
  refine L_ret ?_
  have h0 := Option.some.inj hq
  obtain rfl := h0
  exact end_ret (by kernel_rfl)
noncomputable def g_types_of_L1 (r_types_of : Val → Int → Option (Ty)) (v_ : Val) (level_ : Int) (y11 : List ByteArray) (s1 : Int × List Ty) : Option ((Int × List Ty) ⊕ (Ty)) :=
  bif (decide (s1.1 < (v_.items.length : Int))) then (idx v_.items s1.1).bind fun x13 => (r_types_of x13 (IntKind.i64.wrap (level_ + 1))).bind fun y14 => (app 56 s1.2 [y14]).bind fun l15 => some (.inl ((IntKind.i64.wrap (s1.1 + 1)), l15)) else some (.inr (Ty.mk 6 s1.2 y11))
noncomputable def g_types_of (r_types_common : List Val → Int → Option (Ty)) (r_types_of : Val → Int → Option (Ty)) (v_ : Val) (level_ : Int) : Option (Ty) :=
  bif (decide (v_.kind = 1)) then some (Ty.mk 1 [] []) else bif (decide (v_.kind = 2)) then some (Ty.mk 2 [] []) else bif (decide (v_.kind = 3)) then some (Ty.mk 3 [] []) else bif (!decide (v_.kind = 4)) then bif (!decide (v_.kind = 5)) then some (Ty.mk 0 [] []) else bif (decide (level_ ≥ 32)) then some (Ty.mk 0 [] []) else (g_types_of_slices_ContainsFunc_types_of_1 r_types_common r_types_of v_.keys).bind fun y7 => bif y7 then (r_types_common v_.items (IntKind.i64.wrap (level_ + 1))).bind fun y9 => (g_types_one 5 y9).bind fun y10 => some (y10) else (clone 16 v_.keys).bind fun y11 => loopO (g_types_of_L1 r_types_of v_ level_ y11) (0, []) else bif (decide (level_ ≥ 32)) then some (Ty.mk 0 [] []) else (r_types_common v_.items (IntKind.i64.wrap (level_ + 1))).bind fun y17 => (g_types_one 4 y17).bind fun y18 => some (y18)
theorem g_types_of_ok (hb : Base E E0 G) (he : ∀ w, E w → EnvV w) (r_types_common : List Val → Int → Option (Ty)) (r_types_of : Val → Int → Option (Ty)) (hr_types_common : ∀ (a0 : List Val) (a1 : Int) (r : Ty), r_types_common a0 a1 = some r → Pure E E0 Tryz.prog 69 [.cell (vL flV a0), .cell (vi a1)] (.one (.agg (aT r)))) (hr_types_of : ∀ (a0 : Val) (a1 : Int) (r : Ty), r_types_of a0 a1 = some r → Pure E E0 Tryz.prog 45 [.agg (aV a0), .cell (vi a1)] (.one (.agg (aT r)))) (v_ : Val) (level_ : Int) (r_ : Ty) (hq : g_types_of r_types_common r_types_of v_ level_ = some r_) :
    Pure E E0 Tryz.prog 45 [.agg (aV v_), .cell (vi level_)] (.one (.agg (aT r_))) := by
  refine pure_L Tryz.func45 rfl ?_
  refine L_keepF [0, 1] (T' := sl 72 [(0, .one (.agg (aV v_))), (1, c1 (vi level_))]) (by kernel_rfl) ?_
  refine L_seq ?_
  refine L_regF hb [1, 2, 4] (T' := sl 72 [(1, c1 (vi level_)), (2, c1 (.ptr 0 0 0)), (4, c1 (.ptr 1 0 0))]) (σ' := [some (.box (aV v_)), some (.box [vi 0, vN, vN])]) (by kernel_rfl) ?_
  refine L_seq (L_seq ?_)
  refine L_regF hb [1, 2, 4, 9] (T' := sl 72 [(1, c1 (vi level_)), (2, c1 (.ptr 0 0 0)), (4, c1 (.ptr 1 0 0)), (9, c1 (vi v_.kind))]) (σ' := [some (.box (aV v_)), some (.box [vi 0, vN, vN])]) (by kernel_rfl) ?_
  refine L_block (fun K1 hA1 hB1 hC1 hD1 => (L_seq ?_))
  refine L_regF hb [1, 2, 4, 9, 10] (T' := sl 72 [(1, c1 (vi level_)), (2, c1 (.ptr 0 0 0)), (4, c1 (.ptr 1 0 0)), (9, c1 (vi v_.kind)), (10, c1 (vB (decide (v_.kind = 1))))]) (σ' := [some (.box (aV v_)), some (.box [vi 0, vN, vN])]) (by kernel_rfl) ?_
  refine L_if hb (b := (decide (v_.kind = 1))) (by kernel_rfl) (fun hc1 => ?_) (fun hc1 => ?_)
  · replace hq := cond_t hc1 hq
    refine L_seq ?_
    refine L_regF hb [4] (T' := sl 72 [(4, c1 (.ptr 1 0 0))]) (σ' := [some (.box (aV v_)), some (.box [vi 1, vN, vN])]) (by kernel_rfl) ?_
    refine L_ret (hD1 _ _ ?_)
    have h0 := Option.some.inj hq
    obtain rfl := h0
    exact end_ret (by kernel_rfl)
  · replace hq := cond_f hc1 hq
    refine L_seq ?_
    refine L_regF hb [1, 2, 4, 9, 13] (T' := sl 72 [(1, c1 (vi level_)), (2, c1 (.ptr 0 0 0)), (4, c1 (.ptr 1 0 0)), (9, c1 (vi v_.kind)), (13, c1 (vB (decide (v_.kind = 2))))]) (σ' := [some (.box (aV v_)), some (.box [vi 0, vN, vN])]) (by kernel_rfl) ?_
    refine L_if hb (b := (decide (v_.kind = 2))) (by kernel_rfl) (fun hc2 => ?_) (fun hc2 => ?_)
    · replace hq := cond_t hc2 hq
      refine L_seq ?_
      refine L_regF hb [4] (T' := sl 72 [(4, c1 (.ptr 1 0 0))]) (σ' := [some (.box (aV v_)), some (.box [vi 2, vN, vN])]) (by kernel_rfl) ?_
      refine L_ret (hD1 _ _ ?_)
      have h0 := Option.some.inj hq
      obtain rfl := h0
      exact end_ret (by kernel_rfl)
    · replace hq := cond_f hc2 hq
      refine L_seq ?_
      refine L_regF hb [1, 2, 4, 16] (T' := sl 72 [(1, c1 (vi level_)), (2, c1 (.ptr 0 0 0)), (4, c1 (.ptr 1 0 0)), (16, c1 (vB (decide (v_.kind = 3))))]) (σ' := [some (.box (aV v_)), some (.box [vi 0, vN, vN])]) (by kernel_rfl) ?_
      refine L_if hb (b := (decide (v_.kind = 3))) (by kernel_rfl) (fun hc3 => ?_) (fun hc3 => ?_)
      · replace hq := cond_t hc3 hq
        refine L_seq ?_
        refine L_regF hb [4] (T' := sl 72 [(4, c1 (.ptr 1 0 0))]) (σ' := [some (.box (aV v_)), some (.box [vi 3, vN, vN])]) (by kernel_rfl) ?_
        refine L_ret (hD1 _ _ ?_)
        have h0 := Option.some.inj hq
        obtain rfl := h0
        exact end_ret (by kernel_rfl)
      · replace hq := cond_f hc3 hq
        refine L_skip (L_nil (hA1 _ _ (L_seq (L_seq ?_))))
        refine L_regK hb [1, 2, 4, 30] (fun R hR => ?_)
        refine runF 4 (T' := sl 72 [(1, c1 (vi level_)), (2, c1 (.ptr 0 0 0)), (4, c1 (.ptr 1 0 0)), (16, c1 (vB (decide (v_.kind = 3)))), (19, c1 (.ptr 0 0 0)), (20, c1 (vi v_.kind)), (21, c1 (vB (!decide (v_.kind = 4)))), (22, c1 (vB (!decide (v_.kind = 4))))]) (σ' := [some (.box (aV v_)), some (.box [vi 0, vN, vN])]) (by kernel_rfl) ?_
        refine partsF ((!decide (v_.kind = 4))) (fun zz => sl 72 [(1, c1 (vi level_)), (2, c1 (.ptr 0 0 0)), (4, c1 (.ptr 1 0 0)), (16, c1 (vB (decide (v_.kind = 3)))), (19, c1 (.ptr 0 0 0)), (20, c1 (vi v_.kind)), (21, c1 (vB zz)), (22, c1 (vB zz))]) (by kernel_rfl) (fun hc4 => ?_) (fun hc4 => ?_)
        · replace hq := cond_t hc4 hq
          refine runF 5 (T' := sl 72 [(1, c1 (vi level_)), (2, c1 (.ptr 0 0 0)), (4, c1 (.ptr 1 0 0)), (16, c1 (vB (decide (v_.kind = 3)))), (19, c1 (.ptr 0 0 0)), (20, c1 (vi v_.kind)), (21, c1 (vB true)), (22, c1 (vB true)), (23, c1 (.ptr 0 0 0)), (24, c1 (vi v_.kind)), (25, c1 (vB (!decide (v_.kind = 5)))), (26, c1 (vB (!decide (v_.kind = 5)))), (27, c1 (vB (!decide (v_.kind = 5))))]) (σ' := [some (.box (aV v_)), some (.box [vi 0, vN, vN])]) (by kernel_rfl) ?_
          refine partsF ((!decide (v_.kind = 5))) (fun zz => sl 72 [(1, c1 (vi level_)), (2, c1 (.ptr 0 0 0)), (4, c1 (.ptr 1 0 0)), (16, c1 (vB (decide (v_.kind = 3)))), (19, c1 (.ptr 0 0 0)), (20, c1 (vi v_.kind)), (21, c1 (vB true)), (22, c1 (vB true)), (23, c1 (.ptr 0 0 0)), (24, c1 (vi v_.kind)), (25, c1 (vB zz)), (26, c1 (vB zz)), (27, c1 (vB zz))]) (by kernel_rfl) (fun hc5 => ?_) (fun hc5 => ?_)
          · replace hq := cond_t hc5 hq
            refine lastK (T' := sl 72 [(1, c1 (vi level_)), (2, c1 (.ptr 0 0 0)), (4, c1 (.ptr 1 0 0)), (30, c1 (vB true))]) (σ' := [some (.box (aV v_)), some (.box [vi 0, vN, vN])]) (by kernel_rfl) hR ?_
            refine L_true hb (by kernel_rfl) (L_seq ?_)
            refine L_regF hb [4] (T' := sl 72 [(4, c1 (.ptr 1 0 0))]) (σ' := [some (.box (aV v_)), some (.box [vi 0, vN, vN])]) (by kernel_rfl) ?_
            refine L_ret ?_
            have h0 := Option.some.inj hq
            obtain rfl := h0
            exact end_ret (by kernel_rfl)
          · replace hq := cond_f hc5 hq
            refine lastK (T' := sl 72 [(1, c1 (vi level_)), (2, c1 (.ptr 0 0 0)), (4, c1 (.ptr 1 0 0)), (30, c1 (vB (decide (level_ ≥ 32))))]) (σ' := [some (.box (aV v_)), some (.box [vi 0, vN, vN])]) (by kernel_rfl) hR ?_
            refine L_if hb (b := (decide (level_ ≥ 32))) (by kernel_rfl) (fun hc6 => ?_) (fun hc6 => ?_)
            · replace hq := cond_t hc6 hq
              refine L_seq ?_
              refine L_regF hb [4] (T' := sl 72 [(4, c1 (.ptr 1 0 0))]) (σ' := [some (.box (aV v_)), some (.box [vi 0, vN, vN])]) (by kernel_rfl) ?_
              refine L_ret ?_
              have h0 := Option.some.inj hq
              obtain rfl := h0
              exact end_ret (by kernel_rfl)
            · replace hq := cond_f hc6 hq
              refine L_skip (L_seq (L_seq ?_))
              refine L_regF hb [1, 2, 4, 34] (T' := sl 72 [(1, c1 (vi level_)), (2, c1 (.ptr 0 0 0)), (4, c1 (.ptr 1 0 0)), (34, c1 (vB (decide (v_.kind = 4))))]) (σ' := [some (.box (aV v_)), some (.box [vi 0, vN, vN])]) (by kernel_rfl) ?_
              refine L_ifF hb (b := (decide (v_.kind = 4))) (by kernel_rfl) (not_t hc4) ?_
              refine L_skip (L_seq (L_seq ?_))
              refine L_regK hb [1, 2, 4, 43] (fun R hR => ?_)
              refine runF 2 (T' := sl 72 [(1, c1 (vi level_)), (2, c1 (.ptr 0 0 0)), (4, c1 (.ptr 1 0 0)), (34, c1 (vB (decide (v_.kind = 4)))), (41, c1 (.ptr 0 0 4)), (42, c1 (vL flS v_.keys))]) (σ' := [some (.box (aV v_)), some (.box [vi 0, vN, vN])]) (by kernel_rfl) ?_
              obtain ⟨y7, hy7, hq⟩ := bind_inv hq
              refine callF (d := some 43) (by kernel_rfl) (g_types_of_slices_ContainsFunc_types_of_1_ok hb he r_types_common r_types_of hr_types_common hr_types_of v_.keys y7 hy7) ?_
              refine lastK (T' := sl 72 [(1, c1 (vi level_)), (2, c1 (.ptr 0 0 0)), (4, c1 (.ptr 1 0 0)), (43, c1 (vB y7))]) (σ' := [some (.box (aV v_)), some (.box [vi 0, vN, vN])]) (by kernel_rfl) hR ?_
              refine L_if hb (b := y7) (by kernel_rfl) (fun hc8 => ?_) (fun hc8 => ?_)
              · replace hq := cond_t hc8 hq
                refine L_seq ?_
                refine L_regK hb [4] (fun R hR => ?_)
                refine runF 4 (T' := sl 72 [(1, c1 (vi level_)), (2, c1 (.ptr 0 0 0)), (4, c1 (.ptr 1 0 0)), (43, c1 (vB y7)), (44, c1 (.ptr 0 0 3)), (45, c1 (vL flV v_.items)), (46, c1 (vi level_)), (47, c1 (vi (IntKind.i64.wrap (level_ + 1))))]) (σ' := [some (.box (aV v_)), some (.box [vi 0, vN, vN])]) (by kernel_rfl) ?_
                obtain ⟨y9, hy9, hq⟩ := bind_inv hq
                refine callF (d := some 48) (by kernel_rfl) (hr_types_common v_.items (IntKind.i64.wrap (level_ + 1)) y9 hy9) ?_
                obtain ⟨y10, hy10, hq⟩ := bind_inv hq
                refine callF (d := some 49) (by kernel_rfl) (g_types_one_ok hb he 5 y9 y10 hy10) ?_
                refine lastK (T' := sl 72 [(4, c1 (.ptr 1 0 0))]) (σ' := [some (.box (aV v_)), some (.box (aT y10))]) (by kernel_rfl) hR ?_
                refine L_ret ?_
                have h0 := Option.some.inj hq
                obtain rfl := h0
                exact end_ret (by kernel_rfl)
              · replace hq := cond_f hc8 hq
                refine L_skip (L_seq ?_)
                refine L_regK hb [1, 2, 4, 5] (fun R hR => ?_)
                refine runF 2 (T' := sl 72 [(1, c1 (vi level_)), (2, c1 (.ptr 0 0 0)), (4, c1 (.ptr 1 0 0)), (43, c1 (vB y7)), (50, c1 (.ptr 0 0 4)), (51, c1 (vL flS v_.keys))]) (σ' := [some (.box (aV v_)), some (.box [vi 0, vN, vN])]) (by kernel_rfl) ?_
                obtain ⟨y11, hy11, hq⟩ := bind_inv hq
                refine callF (d := some 52) (by kernel_rfl) (cloneK_g hb he v_.keys y11 hy11) ?_
                refine lastK (T' := sl 72 [(1, c1 (vi level_)), (2, c1 (.ptr 0 0 0)), (4, c1 (.ptr 1 0 0)), (5, c1 (.ptr 2 0 0))]) (σ' := [some (.box (aV v_)), some (.box [vi 0, vN, vN]), some (.box [vi 6, vN, vL flS y11])]) (by kernel_rfl) hR ?_
                refine L_seq (L_seq ?_)
                refine L_regF hb [1, 4, 5, 55, 56, 57] (T' := sl 72 [(1, c1 (vi level_)), (4, c1 (.ptr 1 0 0)), (5, c1 (.ptr 2 0 0)), (55, c1 (vL flV v_.items)), (56, c1 (vi (v_.items.length : Int))), (57, c1 (vi 0))]) (σ' := [some (.box (aV v_)), some (.box [vi 0, vN, vN]), some (.box [vi 6, vN, vL flS y11])]) (by kernel_rfl) ?_
                refine L_block (fun K1 hA1 hB1 hC1 hD1 => ?_)
                refine L_ownσ 2 1 3 (cs := [vi 6, vN, vL flS y11]) (by kernel_rfl) (by kernel_rfl) rfl ?_
                refine L_backF [1, 4, 5, 55, 56, 57] [0] 4 (T' := sl 72 [(1, c1 (vi level_)), (4, c1 (.ptr 1 0 0)), (5, c1 (.ptr 2 0 0)), (55, c1 (vL flV v_.items)), (56, c1 (vi (v_.items.length : Int))), (57, c1 (vi 0))]) (σ' := [none, some (.box [vi 0, vN, vN]), some (.box [vi 6, vO flT 3 [], vL flS y11]), some (arO true flT.sz ((flT.f []).length) (flT.f []))]) (by kernel_rfl) (by kernel_rfl) (by simp) (by kernel_rfl) ⟨rfl, (by kernel_rfl), (by kernel_rfl), (under_arO _ _ _ _ _), trivial⟩ ?_
                refine L_as (by kernel_rfl) (by kernel_rfl) (L_loopO (body := (g_types_of_L1 r_types_of v_ level_ y11)) (fun s1 => sl 72 [(1, c1 (vi level_)), (4, c1 (.ptr 1 0 0)), (5, c1 (.ptr 2 0 0)), (55, c1 (vL flV v_.items)), (56, c1 (vi (v_.items.length : Int))), (57, c1 (vi s1.1))]) (fun s1 => [none, some (.box [vi 0, vN, vN]), some (.box [vi 6, vO flT 3 s1.2, vL flS y11]), some (arO true flT.sz ((flT.f s1.2).length) (flT.f s1.2))]) (s0 := (0, [])) (fun s1 x1 hq hn1 he1 => ?_) hq)
                refine L_seq ?_
                refine L_regF hb [1, 4, 5, 55, 56, 57, 58] (T' := sl 72 [(1, c1 (vi level_)), (4, c1 (.ptr 1 0 0)), (5, c1 (.ptr 2 0 0)), (55, c1 (vL flV v_.items)), (56, c1 (vi (v_.items.length : Int))), (57, c1 (vi s1.1)), (58, c1 (vB (decide (s1.1 < (v_.items.length : Int)))))]) (σ' := [none, some (.box [vi 0, vN, vN]), some (.box [vi 6, vO flT 3 s1.2, vL flS y11]), some (arO true flT.sz ((flT.f s1.2).length) (flT.f s1.2))]) (by kernel_rfl) ?_
                refine L_seq ?_
                refine L_if hb (b := (decide (s1.1 < (v_.items.length : Int)))) (by kernel_rfl) (fun hc12 => ?_) (fun hc12 => ?_)
                · replace hq := cond_t hc12 hq
                  refine L_skip (L_seq (L_block (fun K2 hA2 hB2 hC2 hD2 => (L_seq ?_))))
                  refine L_regK hb [1, 4, 5, 7, 55, 56, 57] (fun R hR => ?_)
                  obtain ⟨x13, hx13, hq⟩ := bind_inv hq
                  refine idxF flV (d := some 59) hx13 (by kernel_rfl) ?_
                  refine lastK (T' := sl 72 [(1, c1 (vi level_)), (4, c1 (.ptr 1 0 0)), (5, c1 (.ptr 2 0 0)), (7, c1 (.ptr 4 0 0)), (55, c1 (vL flV v_.items)), (56, c1 (vi (v_.items.length : Int))), (57, c1 (vi s1.1))]) (σ' := [none, some (.box [vi 0, vN, vN]), some (.box [vi 6, vO flT 3 s1.2, vL flS y11]), some (arO true flT.sz ((flT.f s1.2).length) (flT.f s1.2)), some (.box (aV x13))]) (by kernel_rfl) hR ?_
                  refine L_drwN hb mixed 7 (by kernel_rfl) (by kernel_rfl) (fun R hR => ?_)
                  refine runF 5 (T' := sl 72 [(1, c1 (vi level_)), (4, c1 (.ptr 1 0 0)), (5, c1 (.ptr 2 0 0)), (7, c1 (.ptr 4 0 0)), (55, c1 (vL flV v_.items)), (56, c1 (vi (v_.items.length : Int))), (57, c1 (vi s1.1)), (61, c1 (.ptr 2 0 1)), (62, c1 (vO flT 3 s1.2)), (63, .one (.agg (aV x13))), (64, c1 (vi level_)), (65, c1 (vi (IntKind.i64.wrap (level_ + 1))))]) (σ' := [none, some (.box [vi 0, vN, vN]), some (.box [vi 6, vO flT 3 s1.2, vL flS y11]), some (arO true flT.sz ((flT.f s1.2).length) (flT.f s1.2)), some (.box (aV x13))]) (by kernel_rfl) ?_
                  obtain ⟨y14, hy14, hq⟩ := bind_inv hq
                  refine callF (d := some 66) (by kernel_rfl) (hr_types_of x13 (IntKind.i64.wrap (level_ + 1)) y14 hy14) ?_
                  refine lastF (T' := sl 72 [(1, c1 (vi level_)), (4, c1 (.ptr 1 0 0)), (5, c1 (.ptr 2 0 0)), (7, c1 (.ptr 4 0 0)), (55, c1 (vL flV v_.items)), (56, c1 (vi (v_.items.length : Int))), (57, c1 (vi s1.1)), (61, c1 (.ptr 2 0 1)), (62, c1 (vO flT 3 s1.2)), (63, .one (.agg (aV x13))), (64, c1 (vi level_)), (65, c1 (vi (IntKind.i64.wrap (level_ + 1)))), (66, .one (.agg (aT y14))), (67, c1 (.pv (.sl true 1 [pI .i64 y14.kind, pL flT y14.elems, pL flS y14.names])))]) (σ' := [none, some (.box [vi 0, vN, vN]), some (.box [vi 6, vO flT 3 s1.2, vL flS y11]), some (arO true flT.sz ((flT.f s1.2).length) (flT.f s1.2)), some (.box (aV x13))]) (by kernel_rfl) ?_
                  obtain ⟨l15, hl15, hq⟩ := bind_inv hq
                  refine appOwnF flT (d := some 68) (id := 3) (s := .pv (.sl true 1 [pI .i64 y14.kind, pL flT y14.elems, pL flS y14.names])) (nb := true) (fr := (flT.f s1.2).length) hl15 (by kernel_rfl) (src_lit flT (flT.one y14) rfl) (by kernel_rfl) (Nat.le_refl _) ?_
                  refine lastF (T' := sl 72 [(1, c1 (vi level_)), (4, c1 (.ptr 1 0 0)), (5, c1 (.ptr 2 0 0)), (7, c1 (.ptr 4 0 0)), (55, c1 (vL flV v_.items)), (56, c1 (vi (v_.items.length : Int))), (57, c1 (vi s1.1)), (61, c1 (.ptr 2 0 1)), (62, c1 (vO flT 3 s1.2)), (63, .one (.agg (aV x13))), (64, c1 (vi level_)), (65, c1 (vi (IntKind.i64.wrap (level_ + 1)))), (66, .one (.agg (aT y14))), (67, c1 (.pv (.sl true 1 [pI .i64 y14.kind, pL flT y14.elems, pL flS y14.names]))), (68, c1 (vO flT 3 l15)), (69, c1 (.ptr 2 0 1))]) (σ' := [none, some (.box [vi 0, vN, vN]), some (.box [vi 6, vO flT 3 l15, vL flS y11]), some (arO true flT.sz ((flT.f s1.2).length) (flT.f l15)), some (.box (aV x13))]) (by kernel_rfl) (hR _ _ ?_)
                  refine L_nil (hA2 _ _ ?_)
                  refine L_regF hb [1, 4, 5, 55, 56, 57] (T' := sl 72 [(1, c1 (vi level_)), (4, c1 (.ptr 1 0 0)), (5, c1 (.ptr 2 0 0)), (55, c1 (vL flV v_.items)), (56, c1 (vi (v_.items.length : Int))), (57, c1 (vi (IntKind.i64.wrap (s1.1 + 1))))]) (σ' := [none, some (.box [vi 0, vN, vN]), some (.box [vi 6, vO flT 3 l15, vL flS y11]), some (arO true flT.sz ((flT.f s1.2).length) (flT.f l15)), some (.box (aV x13))]) (by kernel_rfl) ?_
                  refine L_mark 3 (nb := true) (cs := flT.f l15) rfl (app_le flT hl15) ?_
                  refine L_backF [1, 4, 5, 55, 56, 57] [] 4 (T' := sl 72 [(1, c1 (vi level_)), (4, c1 (.ptr 1 0 0)), (5, c1 (.ptr 2 0 0)), (55, c1 (vL flV v_.items)), (56, c1 (vi (v_.items.length : Int))), (57, c1 (vi (IntKind.i64.wrap (s1.1 + 1))))]) (σ' := [none, some (.box [vi 0, vN, vN]), some (.box [vi 6, vO flT 3 l15, vL flS y11]), some (arO true flT.sz ((flT.f l15).length) (flT.f l15))]) (by kernel_rfl) (by kernel_rfl) (by simp) (by kernel_rfl) ⟨rfl, (by kernel_rfl), (by kernel_rfl), (under_arO _ _ _ _ _), trivial⟩ ?_
                  have h0 := (Option.some.inj hq).symm
                  exact L_as (by kernel_rfl) (by kernel_rfl) (hn1 _ h0)
                · replace hq := cond_f hc12 hq
                  refine L_exit (hB1 _ _ (L_seq ?_))
                  refine L_regF hb [4] (T' := sl 72 [(4, c1 (.ptr 1 0 0))]) (σ' := [none, some (.box [vi 6, vO flT 3 s1.2, vL flS y11]), some (.box [vi 6, vO flT 3 s1.2, vL flS y11]), some (arO true flT.sz ((flT.f s1.2).length) (flT.f s1.2))]) (by kernel_rfl) ?_
                  refine L_cellσ 1 1 (cs := [vi 6, vO flT 3 s1.2, vL flS y11]) (c := vO flT 3 s1.2) (by kernel_rfl) (by kernel_rfl) (conv_own flT (nb := true) (id := 3) (xs := s1.2) (by kernel_rfl)) ?_
                  refine L_ret ?_
                  have h0 := (Option.some.inj hq).symm
                  replace h0 := he1 _ h0
                  obtain rfl := h0
                  exact end_ret (by kernel_rfl)
        · replace hq := cond_f hc4 hq
          refine lastK (T' := sl 72 [(1, c1 (vi level_)), (2, c1 (.ptr 0 0 0)), (4, c1 (.ptr 1 0 0)), (30, c1 (vB (decide (level_ ≥ 32))))]) (σ' := [some (.box (aV v_)), some (.box [vi 0, vN, vN])]) (by kernel_rfl) hR ?_
          refine L_if hb (b := (decide (level_ ≥ 32))) (by kernel_rfl) (fun hc16 => ?_) (fun hc16 => ?_)
          · replace hq := cond_t hc16 hq
            refine L_seq ?_
            refine L_regF hb [4] (T' := sl 72 [(4, c1 (.ptr 1 0 0))]) (σ' := [some (.box (aV v_)), some (.box [vi 0, vN, vN])]) (by kernel_rfl) ?_
            refine L_ret ?_
            have h0 := Option.some.inj hq
            obtain rfl := h0
            exact end_ret (by kernel_rfl)
          · replace hq := cond_f hc16 hq
            refine L_skip (L_seq (L_seq ?_))
            refine L_regF hb [1, 2, 4, 34] (T' := sl 72 [(1, c1 (vi level_)), (2, c1 (.ptr 0 0 0)), (4, c1 (.ptr 1 0 0)), (34, c1 (vB (decide (v_.kind = 4))))]) (σ' := [some (.box (aV v_)), some (.box [vi 0, vN, vN])]) (by kernel_rfl) ?_
            refine L_ifT hb (b := (decide (v_.kind = 4))) (by kernel_rfl) (not_f hc4) ?_
            refine L_seq ?_
            refine L_regK hb [4] (fun R hR => ?_)
            refine runF 4 (T' := sl 72 [(1, c1 (vi level_)), (2, c1 (.ptr 0 0 0)), (4, c1 (.ptr 1 0 0)), (34, c1 (vB (decide (v_.kind = 4)))), (35, c1 (.ptr 0 0 3)), (36, c1 (vL flV v_.items)), (37, c1 (vi level_)), (38, c1 (vi (IntKind.i64.wrap (level_ + 1))))]) (σ' := [some (.box (aV v_)), some (.box [vi 0, vN, vN])]) (by kernel_rfl) ?_
            obtain ⟨y17, hy17, hq⟩ := bind_inv hq
            refine callF (d := some 39) (by kernel_rfl) (hr_types_common v_.items (IntKind.i64.wrap (level_ + 1)) y17 hy17) ?_
            obtain ⟨y18, hy18, hq⟩ := bind_inv hq
            refine callF (d := some 40) (by kernel_rfl) (g_types_one_ok hb he 4 y17 y18 hy18) ?_
            refine lastK (T' := sl 72 [(4, c1 (.ptr 1 0 0))]) (σ' := [some (.box (aV v_)), some (.box (aT y18))]) (by kernel_rfl) hR ?_
            refine L_ret ?_
            have h0 := Option.some.inj hq
            obtain rfl := h0
            exact end_ret (by kernel_rfl)
noncomputable def t_types_of_step (rec : Val → Int → Option (Ty)) (a : Val) (b : Int) : Option (Ty) :=
  g_types_of (g_types_common (fun a0 a1 => rec a0 a1)) (fun a0 a1 => rec a0 a1) a b
noncomputable def t_types_of (a0 : Val) (a1 : Int) : Option (Ty) := tieF relV wfV t_types_of_step a0 a1
theorem t_types_of_ok (hb : Base E E0 G) (he : ∀ w, E w → EnvV w) (a0 : Val) (a1 : Int) (r : Ty) (hq : t_types_of a0 a1 = some r) : Pure E E0 Tryz.prog 45 [.agg (aV a0), .cell (vi a1)] (.one (.agg (aT r))) :=
  tieF_ok (C := fun a b r => Pure E E0 Tryz.prog 45 [.agg (aV a), .cell (vi b)] (.one (.agg (aT r)))) (fun rec hr a b r hq => g_types_of_ok hb he (g_types_common (fun a0 a1 => rec a0 a1)) (fun a0 a1 => rec a0 a1) (g_types_common_ok hb he (fun a0 a1 => rec a0 a1) (fun a0 a1 r e => hr a0 a1 r e)) (fun a0 a1 r e => hr a0 a1 r e) a b r hq) a0 a1 r hq
noncomputable def t_types_common (a0 : List Val) (a1 : Int) : Option (Ty) := (g_types_common t_types_of) a0 a1
theorem t_types_common_ok (hb : Base E E0 G) (he : ∀ w, E w → EnvV w) (a0 : List Val) (a1 : Int) (r : Ty) (hq : t_types_common a0 a1 = some r) : Pure E E0 Tryz.prog 69 [.cell (vL flV a0), .cell (vi a1)] (.one (.agg (aT r))) :=
  g_types_common_ok hb he t_types_of (t_types_of_ok hb he) a0 a1 r hq
noncomputable def g_types_Of  (v_ : Val) : Option (Ty) :=
  (t_types_of v_ 1).bind fun y1 => some (y1)
theorem g_types_Of_ok (hb : Base E E0 G) (he : ∀ w, E w → EnvV w)   (v_ : Val) (r_ : Ty) (hq : g_types_Of v_ = some r_) :
    Pure E E0 Tryz.prog 26 [.agg (aV v_)] (.one (.agg (aT r_))) := by
  refine pure_L Tryz.func26 rfl ?_
  refine L_keepF [0] (T' := sl 5 [(0, .one (.agg (aV v_)))]) (by kernel_rfl) ?_
  refine L_seq ?_
  refine L_regF hb [1, 2] (T' := sl 5 [(1, c1 (.ptr 0 0 0)), (2, c1 (.ptr 1 0 0))]) (σ' := [some (.box (aV v_)), some (.box [vi 0, vN, vN])]) (by kernel_rfl) ?_
  refine L_seq ?_
  refine L_regK hb [2] (fun R hR => ?_)
  refine runF 1 (T' := sl 5 [(1, c1 (.ptr 0 0 0)), (2, c1 (.ptr 1 0 0)), (3, .one (.agg (aV v_)))]) (σ' := [some (.box (aV v_)), some (.box [vi 0, vN, vN])]) (by kernel_rfl) ?_
  obtain ⟨y1, hy1, hq⟩ := bind_inv hq
  refine callF (d := some 4) (by kernel_rfl) (t_types_of_ok hb he v_ 1 y1 hy1) ?_
  refine lastK (T' := sl 5 [(2, c1 (.ptr 1 0 0))]) (σ' := [some (.box (aV v_)), some (.box (aT y1))]) (by kernel_rfl) hR ?_
  refine L_ret ?_
  have h0 := Option.some.inj hq
  obtain rfl := h0
  exact end_ret (by kernel_rfl)
noncomputable def g_value_Equal_slices_EqualFunc_value_Equal_L1 (r_value_Equal : Val → Val → Option (Bool)) (s1_ : List Val) (s2_ : List Val) (s1 : Int) : Option ((Int) ⊕ (Bool)) :=
  bif (decide (s1 < (s1_.length : Int))) then (idx s1_ s1).bind fun x3 => (idx s2_ s1).bind fun x4 => (r_value_Equal x3 x4).bind fun y5 => bif (!y5) then some (.inr (false)) else some (.inl (IntKind.i64.wrap (s1 + 1))) else some (.inr (true))
noncomputable def g_value_Equal_slices_EqualFunc_value_Equal (r_value_Equal : Val → Val → Option (Bool)) (s1_ : List Val) (s2_ : List Val) : Option (Bool) :=
  bif (!decide ((s1_.length : Int) = (s2_.length : Int))) then some (false) else loopO (g_value_Equal_slices_EqualFunc_value_Equal_L1 r_value_Equal s1_ s2_) 0
theorem g_value_Equal_slices_EqualFunc_value_Equal_ok (hb : Base E E0 G) (he : ∀ w, E w → EnvV w) (r_value_Equal : Val → Val → Option (Bool)) (hr_value_Equal : ∀ (a0 : Val) (a1 : Val) (r : Bool), r_value_Equal a0 a1 = some r → Pure E E0 Tryz.prog 27 [.agg (aV a0), .agg (aV a1)] (c1 (vB r))) (s1_ : List Val) (s2_ : List Val) (r_ : Bool) (hq : g_value_Equal_slices_EqualFunc_value_Equal r_value_Equal s1_ s2_ = some r_) :
    Pure E E0 Tryz.prog 47 [.cell (vL flV s1_), .cell (vL flV s2_), .cell (.pv (.sc (.func (.func 27) #[] #[])))] (c1 (vB r_)) := by
  refine pure_L Tryz.func47 rfl ?_
  refine L_keepF [0, 1, 2] (T' := sl 32 [(0, c1 (vL flV s1_)), (1, c1 (vL flV s2_)), (2, c1 (.pv (.sc (.func (.func 27) #[] #[]))))]) (by kernel_rfl) ?_
  refine L_seq ?_
  refine L_regF hb [0, 1, 2] (T' := sl 32 [(0, c1 (vL flV s1_)), (1, c1 (vL flV s2_)), (2, c1 (.pv (.sc (.func (.func 27) #[] #[]))))]) (σ' := []) (by kernel_rfl) ?_
  refine L_seq (L_seq ?_)
  refine L_regF hb [0, 1, 2, 14] (T' := sl 32 [(0, c1 (vL flV s1_)), (1, c1 (vL flV s2_)), (2, c1 (.pv (.sc (.func (.func 27) #[] #[])))), (14, c1 (vB (!decide ((s1_.length : Int) = (s2_.length : Int)))))]) (σ' := []) (by kernel_rfl) ?_
  refine L_if hb (b := (!decide ((s1_.length : Int) = (s2_.length : Int)))) (by kernel_rfl) (fun hc1 => ?_) (fun hc1 => ?_)
  · replace hq := cond_t hc1 hq
    refine L_seq ?_
    refine L_regF hb [6] (T' := sl 32 [(6, c1 (vB false))]) (σ' := []) (by kernel_rfl) ?_
    refine L_ret ?_
    have h0 := Option.some.inj hq
    obtain rfl := h0
    exact end_ret (by kernel_rfl)
  · replace hq := cond_f hc1 hq
    refine L_skip (L_seq (L_seq ?_))
    refine L_regF hb [1, 2, 15, 16, 17] (T' := sl 32 [(1, c1 (vL flV s2_)), (2, c1 (.pv (.sc (.func (.func 27) #[] #[])))), (15, c1 (vL flV s1_)), (16, c1 (vi (s1_.length : Int))), (17, c1 (vi 0))]) (σ' := []) (by kernel_rfl) ?_
    refine L_block (fun K1 hA1 hB1 hC1 hD1 => ?_)
    refine L_backF [1, 2, 15, 16, 17] [] 0 (T' := sl 32 [(1, c1 (vL flV s2_)), (2, c1 (.pv (.sc (.func (.func 27) #[] #[])))), (15, c1 (vL flV s1_)), (16, c1 (vi (s1_.length : Int))), (17, c1 (vi 0))]) (σ' := []) (by kernel_rfl) (by kernel_rfl) (by simp) (by kernel_rfl) trivial ?_
    refine L_as (by kernel_rfl) (by kernel_rfl) (L_loopO (body := (g_value_Equal_slices_EqualFunc_value_Equal_L1 r_value_Equal s1_ s2_)) (fun s1 => sl 32 [(1, c1 (vL flV s2_)), (2, c1 (.pv (.sc (.func (.func 27) #[] #[])))), (15, c1 (vL flV s1_)), (16, c1 (vi (s1_.length : Int))), (17, c1 (vi s1))]) (fun s1 => []) (s0 := 0) (fun s1 x1 hq hn1 he1 => ?_) hq)
    refine L_seq ?_
    refine L_regF hb [1, 2, 15, 16, 17, 18] (T' := sl 32 [(1, c1 (vL flV s2_)), (2, c1 (.pv (.sc (.func (.func 27) #[] #[])))), (15, c1 (vL flV s1_)), (16, c1 (vi (s1_.length : Int))), (17, c1 (vi s1)), (18, c1 (vB (decide (s1 < (s1_.length : Int)))))]) (σ' := []) (by kernel_rfl) ?_
    refine L_seq ?_
    refine L_if hb (b := (decide (s1 < (s1_.length : Int)))) (by kernel_rfl) (fun hc2 => ?_) (fun hc2 => ?_)
    · replace hq := cond_t hc2 hq
      refine L_skip (L_seq (L_block (fun K2 hA2 hB2 hC2 hD2 => (L_seq ?_))))
      refine L_regK hb [1, 2, 7, 8, 15, 16, 17] (fun R hR => ?_)
      refine runF 1 (T' := sl 32 [(1, c1 (vL flV s2_)), (2, c1 (.pv (.sc (.func (.func 27) #[] #[])))), (15, c1 (vL flV s1_)), (16, c1 (vi (s1_.length : Int))), (17, c1 (vi s1)), (18, c1 (vB (decide (s1 < (s1_.length : Int))))), (19, c1 (vi s1))]) (σ' := []) (by kernel_rfl) ?_
      obtain ⟨x3, hx3, hq⟩ := bind_inv hq
      refine idxF flV (d := some 20) hx3 (by kernel_rfl) ?_
      refine lastK (T' := sl 32 [(1, c1 (vL flV s2_)), (2, c1 (.pv (.sc (.func (.func 27) #[] #[])))), (7, c1 (vi s1)), (8, c1 (.ptr 0 0 0)), (15, c1 (vL flV s1_)), (16, c1 (vi (s1_.length : Int))), (17, c1 (vi s1))]) (σ' := [some (.box (aV x3))]) (by kernel_rfl) hR ?_
      refine L_seq ?_
      refine L_regK hb [1, 2, 8, 9, 15, 16, 17] (fun R hR => ?_)
      refine runF 2 (T' := sl 32 [(1, c1 (vL flV s2_)), (2, c1 (.pv (.sc (.func (.func 27) #[] #[])))), (7, c1 (vi s1)), (8, c1 (.ptr 0 0 0)), (15, c1 (vL flV s1_)), (16, c1 (vi (s1_.length : Int))), (17, c1 (vi s1)), (22, c1 (vL flV s2_)), (23, c1 (vi s1))]) (σ' := [some (.box (aV x3))]) (by kernel_rfl) ?_
      obtain ⟨x4, hx4, hq⟩ := bind_inv hq
      refine idxF flV (d := some 24) hx4 (by kernel_rfl) ?_
      refine lastK (T' := sl 32 [(1, c1 (vL flV s2_)), (2, c1 (.pv (.sc (.func (.func 27) #[] #[])))), (8, c1 (.ptr 0 0 0)), (9, c1 (.ptr 1 0 0)), (15, c1 (vL flV s1_)), (16, c1 (vi (s1_.length : Int))), (17, c1 (vi s1))]) (σ' := [some (.box (aV x3)), some (.box (aV x4))]) (by kernel_rfl) hR ?_
      refine L_seq ?_
      refine L_regK hb [1, 2, 15, 16, 17, 30] (fun R hR => ?_)
      refine runF 3 (T' := sl 32 [(1, c1 (vL flV s2_)), (2, c1 (.pv (.sc (.func (.func 27) #[] #[])))), (8, c1 (.ptr 0 0 0)), (9, c1 (.ptr 1 0 0)), (15, c1 (vL flV s1_)), (16, c1 (vi (s1_.length : Int))), (17, c1 (vi s1)), (26, c1 (.pv (.sc (.func (.func 27) #[] #[])))), (27, .one (.agg (aV x3))), (28, .one (.agg (aV x4)))]) (σ' := [some (.box (aV x3)), some (.box (aV x4))]) (by kernel_rfl) ?_
      obtain ⟨y5, hy5, hq⟩ := bind_inv hq
      refine callF (d := some 29) (by kernel_rfl) (hr_value_Equal x3 x4 y5 hy5) ?_
      refine lastK (T' := sl 32 [(1, c1 (vL flV s2_)), (2, c1 (.pv (.sc (.func (.func 27) #[] #[])))), (15, c1 (vL flV s1_)), (16, c1 (vi (s1_.length : Int))), (17, c1 (vi s1)), (30, c1 (vB (!y5)))]) (σ' := [some (.box (aV x3)), some (.box (aV x4))]) (by kernel_rfl) hR ?_
      refine L_if hb (b := (!y5)) (by kernel_rfl) (fun hc6 => ?_) (fun hc6 => ?_)
      · replace hq := cond_t hc6 hq
        refine L_seq ?_
        refine L_regF hb [6] (T' := sl 32 [(6, c1 (vB false))]) (σ' := [some (.box (aV x3)), some (.box (aV x4))]) (by kernel_rfl) ?_
        refine L_ret (hD2 _ _ (hD1 _ _ ?_))
        have h0 := (Option.some.inj hq).symm
        replace h0 := he1 _ h0
        obtain rfl := h0
        exact end_ret (by kernel_rfl)
      · replace hq := cond_f hc6 hq
        refine L_skip (L_nil (hA2 _ _ ?_))
        refine L_regF hb [1, 2, 15, 16, 17] (T' := sl 32 [(1, c1 (vL flV s2_)), (2, c1 (.pv (.sc (.func (.func 27) #[] #[])))), (15, c1 (vL flV s1_)), (16, c1 (vi (s1_.length : Int))), (17, c1 (vi (IntKind.i64.wrap (s1 + 1))))]) (σ' := [some (.box (aV x3)), some (.box (aV x4))]) (by kernel_rfl) ?_
        refine L_backF [1, 2, 15, 16, 17] [] 0 (T' := sl 32 [(1, c1 (vL flV s2_)), (2, c1 (.pv (.sc (.func (.func 27) #[] #[])))), (15, c1 (vL flV s1_)), (16, c1 (vi (s1_.length : Int))), (17, c1 (vi (IntKind.i64.wrap (s1 + 1))))]) (σ' := []) (by kernel_rfl) (by kernel_rfl) (by simp) (by kernel_rfl) trivial ?_
        have h0 := (Option.some.inj hq).symm
        exact L_as (by kernel_rfl) (by kernel_rfl) (hn1 _ h0)
    · replace hq := cond_f hc2 hq
      refine L_exit (hB1 _ _ (L_seq ?_))
      refine L_regF hb [6] (T' := sl 32 [(6, c1 (vB true))]) (σ' := []) (by kernel_rfl) ?_
      refine L_ret ?_
      have h0 := (Option.some.inj hq).symm
      replace h0 := he1 _ h0
      obtain rfl := h0
      exact end_ret (by kernel_rfl)
noncomputable def g_value_Equal (r_value_Equal : Val → Val → Option (Bool)) (a_ : Val) (b_ : Val) : Option (Bool) :=
  bif (decide (a_.kind = b_.kind)) then bif (decide (a_.num = b_.num)) then bif (decide (a_.str = b_.str)) then (g_slices_Equal a_.keys b_.keys).bind fun y4 => bif y4 then (g_value_Equal_slices_EqualFunc_value_Equal r_value_Equal a_.items b_.items).bind fun y6 => some (y6) else some (false) else some (false) else some (false) else some (false)
theorem g_value_Equal_ok (hb : Base E E0 G) (he : ∀ w, E w → EnvV w) (r_value_Equal : Val → Val → Option (Bool)) (hr_value_Equal : ∀ (a0 : Val) (a1 : Val) (r : Bool), r_value_Equal a0 a1 = some r → Pure E E0 Tryz.prog 27 [.agg (aV a0), .agg (aV a1)] (c1 (vB r))) (a_ : Val) (b_ : Val) (r_ : Bool) (hq : g_value_Equal r_value_Equal a_ b_ = some r_) :
    Pure E E0 Tryz.prog 27 [.agg (aV a_), .agg (aV b_)] (c1 (vB r_)) := by
  refine pure_L Tryz.func27 rfl ?_
  refine L_keepF [0, 1] (T' := sl 38 [(0, .one (.agg (aV a_))), (1, .one (.agg (aV b_)))]) (by kernel_rfl) ?_
  refine L_seq ?_
  refine L_regF hb [2, 3] (T' := sl 38 [(2, c1 (.ptr 0 0 0)), (3, c1 (.ptr 1 0 0))]) (σ' := [some (.box (aV a_)), some (.box (aV b_))]) (by kernel_rfl) ?_
  refine L_seq ?_
  refine L_regK hb [4] (fun R hR => ?_)
  refine runF 6 (T' := sl 38 [(2, c1 (.ptr 0 0 0)), (3, c1 (.ptr 1 0 0)), (5, c1 (.ptr 0 0 0)), (6, c1 (vi a_.kind)), (7, c1 (.ptr 1 0 0)), (8, c1 (vi b_.kind)), (9, c1 (vB (decide (a_.kind = b_.kind)))), (10, c1 (vB (decide (a_.kind = b_.kind))))]) (σ' := [some (.box (aV a_)), some (.box (aV b_))]) (by kernel_rfl) ?_
  refine partsF ((decide (a_.kind = b_.kind))) (fun zz => sl 38 [(2, c1 (.ptr 0 0 0)), (3, c1 (.ptr 1 0 0)), (5, c1 (.ptr 0 0 0)), (6, c1 (vi a_.kind)), (7, c1 (.ptr 1 0 0)), (8, c1 (vi b_.kind)), (9, c1 (vB zz)), (10, c1 (vB zz))]) (by kernel_rfl) (fun hc1 => ?_) (fun hc1 => ?_)
  · replace hq := cond_t hc1 hq
    refine runF 7 (T' := sl 38 [(2, c1 (.ptr 0 0 0)), (3, c1 (.ptr 1 0 0)), (5, c1 (.ptr 0 0 0)), (6, c1 (vi a_.kind)), (7, c1 (.ptr 1 0 0)), (8, c1 (vi b_.kind)), (9, c1 (vB true)), (10, c1 (vB true)), (11, c1 (.ptr 0 0 1)), (12, c1 (vi a_.num)), (13, c1 (.ptr 1 0 1)), (14, c1 (vi b_.num)), (15, c1 (vB (decide (a_.num = b_.num)))), (16, c1 (vB (decide (a_.num = b_.num)))), (17, c1 (vB (decide (a_.num = b_.num))))]) (σ' := [some (.box (aV a_)), some (.box (aV b_))]) (by kernel_rfl) ?_
    refine partsF ((decide (a_.num = b_.num))) (fun zz => sl 38 [(2, c1 (.ptr 0 0 0)), (3, c1 (.ptr 1 0 0)), (5, c1 (.ptr 0 0 0)), (6, c1 (vi a_.kind)), (7, c1 (.ptr 1 0 0)), (8, c1 (vi b_.kind)), (9, c1 (vB true)), (10, c1 (vB true)), (11, c1 (.ptr 0 0 1)), (12, c1 (vi a_.num)), (13, c1 (.ptr 1 0 1)), (14, c1 (vi b_.num)), (15, c1 (vB zz)), (16, c1 (vB zz)), (17, c1 (vB zz))]) (by kernel_rfl) (fun hc2 => ?_) (fun hc2 => ?_)
    · replace hq := cond_t hc2 hq
      refine runF 7 (T' := sl 38 [(2, c1 (.ptr 0 0 0)), (3, c1 (.ptr 1 0 0)), (5, c1 (.ptr 0 0 0)), (6, c1 (vi a_.kind)), (7, c1 (.ptr 1 0 0)), (8, c1 (vi b_.kind)), (9, c1 (vB true)), (10, c1 (vB true)), (11, c1 (.ptr 0 0 1)), (12, c1 (vi a_.num)), (13, c1 (.ptr 1 0 1)), (14, c1 (vi b_.num)), (15, c1 (vB true)), (16, c1 (vB true)), (17, c1 (vB true)), (18, c1 (.ptr 0 0 2)), (19, c1 (vS a_.str)), (20, c1 (.ptr 1 0 2)), (21, c1 (vS b_.str)), (22, c1 (vB (decide (a_.str = b_.str)))), (23, c1 (vB (decide (a_.str = b_.str)))), (24, c1 (vB (decide (a_.str = b_.str))))]) (σ' := [some (.box (aV a_)), some (.box (aV b_))]) (by kernel_rfl) ?_
      refine partsF ((decide (a_.str = b_.str))) (fun zz => sl 38 [(2, c1 (.ptr 0 0 0)), (3, c1 (.ptr 1 0 0)), (5, c1 (.ptr 0 0 0)), (6, c1 (vi a_.kind)), (7, c1 (.ptr 1 0 0)), (8, c1 (vi b_.kind)), (9, c1 (vB true)), (10, c1 (vB true)), (11, c1 (.ptr 0 0 1)), (12, c1 (vi a_.num)), (13, c1 (.ptr 1 0 1)), (14, c1 (vi b_.num)), (15, c1 (vB true)), (16, c1 (vB true)), (17, c1 (vB true)), (18, c1 (.ptr 0 0 2)), (19, c1 (vS a_.str)), (20, c1 (.ptr 1 0 2)), (21, c1 (vS b_.str)), (22, c1 (vB zz)), (23, c1 (vB zz)), (24, c1 (vB zz))]) (by kernel_rfl) (fun hc3 => ?_) (fun hc3 => ?_)
      · replace hq := cond_t hc3 hq
        refine runF 4 (T' := sl 38 [(2, c1 (.ptr 0 0 0)), (3, c1 (.ptr 1 0 0)), (5, c1 (.ptr 0 0 0)), (6, c1 (vi a_.kind)), (7, c1 (.ptr 1 0 0)), (8, c1 (vi b_.kind)), (9, c1 (vB true)), (10, c1 (vB true)), (11, c1 (.ptr 0 0 1)), (12, c1 (vi a_.num)), (13, c1 (.ptr 1 0 1)), (14, c1 (vi b_.num)), (15, c1 (vB true)), (16, c1 (vB true)), (17, c1 (vB true)), (18, c1 (.ptr 0 0 2)), (19, c1 (vS a_.str)), (20, c1 (.ptr 1 0 2)), (21, c1 (vS b_.str)), (22, c1 (vB true)), (23, c1 (vB true)), (24, c1 (vB true)), (25, c1 (.ptr 0 0 4)), (26, c1 (vL flS a_.keys)), (27, c1 (.ptr 1 0 4)), (28, c1 (vL flS b_.keys))]) (σ' := [some (.box (aV a_)), some (.box (aV b_))]) (by kernel_rfl) ?_
        obtain ⟨y4, hy4, hq⟩ := bind_inv hq
        refine callF (d := some 29) (by kernel_rfl) (g_slices_Equal_ok hb he a_.keys b_.keys y4 hy4) ?_
        refine runF 2 (T' := sl 38 [(2, c1 (.ptr 0 0 0)), (3, c1 (.ptr 1 0 0)), (5, c1 (.ptr 0 0 0)), (6, c1 (vi a_.kind)), (7, c1 (.ptr 1 0 0)), (8, c1 (vi b_.kind)), (9, c1 (vB true)), (10, c1 (vB true)), (11, c1 (.ptr 0 0 1)), (12, c1 (vi a_.num)), (13, c1 (.ptr 1 0 1)), (14, c1 (vi b_.num)), (15, c1 (vB true)), (16, c1 (vB true)), (17, c1 (vB true)), (18, c1 (.ptr 0 0 2)), (19, c1 (vS a_.str)), (20, c1 (.ptr 1 0 2)), (21, c1 (vS b_.str)), (22, c1 (vB true)), (23, c1 (vB true)), (24, c1 (vB true)), (25, c1 (.ptr 0 0 4)), (26, c1 (vL flS a_.keys)), (27, c1 (.ptr 1 0 4)), (28, c1 (vL flS b_.keys)), (29, c1 (vB y4)), (30, c1 (vB y4)), (31, c1 (vB y4))]) (σ' := [some (.box (aV a_)), some (.box (aV b_))]) (by kernel_rfl) ?_
        refine partsF (y4) (fun zz => sl 38 [(2, c1 (.ptr 0 0 0)), (3, c1 (.ptr 1 0 0)), (5, c1 (.ptr 0 0 0)), (6, c1 (vi a_.kind)), (7, c1 (.ptr 1 0 0)), (8, c1 (vi b_.kind)), (9, c1 (vB true)), (10, c1 (vB true)), (11, c1 (.ptr 0 0 1)), (12, c1 (vi a_.num)), (13, c1 (.ptr 1 0 1)), (14, c1 (vi b_.num)), (15, c1 (vB true)), (16, c1 (vB true)), (17, c1 (vB true)), (18, c1 (.ptr 0 0 2)), (19, c1 (vS a_.str)), (20, c1 (.ptr 1 0 2)), (21, c1 (vS b_.str)), (22, c1 (vB true)), (23, c1 (vB true)), (24, c1 (vB true)), (25, c1 (.ptr 0 0 4)), (26, c1 (vL flS a_.keys)), (27, c1 (.ptr 1 0 4)), (28, c1 (vL flS b_.keys)), (29, c1 (vB zz)), (30, c1 (vB zz)), (31, c1 (vB zz))]) (by kernel_rfl) (fun hc5 => ?_) (fun hc5 => ?_)
        · replace hq := cond_t hc5 hq
          refine runF 4 (T' := sl 38 [(2, c1 (.ptr 0 0 0)), (3, c1 (.ptr 1 0 0)), (5, c1 (.ptr 0 0 0)), (6, c1 (vi a_.kind)), (7, c1 (.ptr 1 0 0)), (8, c1 (vi b_.kind)), (9, c1 (vB true)), (10, c1 (vB true)), (11, c1 (.ptr 0 0 1)), (12, c1 (vi a_.num)), (13, c1 (.ptr 1 0 1)), (14, c1 (vi b_.num)), (15, c1 (vB true)), (16, c1 (vB true)), (17, c1 (vB true)), (18, c1 (.ptr 0 0 2)), (19, c1 (vS a_.str)), (20, c1 (.ptr 1 0 2)), (21, c1 (vS b_.str)), (22, c1 (vB true)), (23, c1 (vB true)), (24, c1 (vB true)), (25, c1 (.ptr 0 0 4)), (26, c1 (vL flS a_.keys)), (27, c1 (.ptr 1 0 4)), (28, c1 (vL flS b_.keys)), (29, c1 (vB true)), (30, c1 (vB true)), (31, c1 (vB true)), (32, c1 (.ptr 0 0 3)), (33, c1 (vL flV a_.items)), (34, c1 (.ptr 1 0 3)), (35, c1 (vL flV b_.items))]) (σ' := [some (.box (aV a_)), some (.box (aV b_))]) (by kernel_rfl) ?_
          obtain ⟨y6, hy6, hq⟩ := bind_inv hq
          refine callF (d := some 36) (by kernel_rfl) (g_value_Equal_slices_EqualFunc_value_Equal_ok hb he r_value_Equal hr_value_Equal a_.items b_.items y6 hy6) ?_
          refine lastK (T' := sl 38 [(4, c1 (vB y6))]) (σ' := [some (.box (aV a_)), some (.box (aV b_))]) (by kernel_rfl) hR ?_
          refine L_ret ?_
          have h0 := Option.some.inj hq
          obtain rfl := h0
          exact end_ret (by kernel_rfl)
        · replace hq := cond_f hc5 hq
          refine lastK (T' := sl 38 [(4, c1 (vB false))]) (σ' := [some (.box (aV a_)), some (.box (aV b_))]) (by kernel_rfl) hR ?_
          refine L_ret ?_
          have h0 := Option.some.inj hq
          obtain rfl := h0
          exact end_ret (by kernel_rfl)
      · replace hq := cond_f hc3 hq
        refine lastK (T' := sl 38 [(4, c1 (vB false))]) (σ' := [some (.box (aV a_)), some (.box (aV b_))]) (by kernel_rfl) hR ?_
        refine L_ret ?_
        have h0 := Option.some.inj hq
        obtain rfl := h0
        exact end_ret (by kernel_rfl)
    · replace hq := cond_f hc2 hq
      refine lastK (T' := sl 38 [(4, c1 (vB false))]) (σ' := [some (.box (aV a_)), some (.box (aV b_))]) (by kernel_rfl) hR ?_
      refine L_ret ?_
      have h0 := Option.some.inj hq
      obtain rfl := h0
      exact end_ret (by kernel_rfl)
  · replace hq := cond_f hc1 hq
    refine lastK (T' := sl 38 [(4, c1 (vB false))]) (σ' := [some (.box (aV a_)), some (.box (aV b_))]) (by kernel_rfl) hR ?_
    refine L_ret ?_
    have h0 := Option.some.inj hq
    obtain rfl := h0
    exact end_ret (by kernel_rfl)
noncomputable def t_value_Equal_step (rec : Val → Val → Option (Bool)) (a : Val) (b : Val) : Option (Bool) :=
  g_value_Equal (fun a0 a1 => rec a0 a1) a b
noncomputable def t_value_Equal (a0 : Val) (a1 : Val) : Option (Bool) := tieF relV wfV t_value_Equal_step a0 a1
theorem t_value_Equal_ok (hb : Base E E0 G) (he : ∀ w, E w → EnvV w) (a0 : Val) (a1 : Val) (r : Bool) (hq : t_value_Equal a0 a1 = some r) : Pure E E0 Tryz.prog 27 [.agg (aV a0), .agg (aV a1)] (c1 (vB r)) :=
  tieF_ok (C := fun a b r => Pure E E0 Tryz.prog 27 [.agg (aV a), .agg (aV b)] (c1 (vB r))) (fun rec hr a b r hq => g_value_Equal_ok hb he (fun a0 a1 => rec a0 a1) (fun a0 a1 r e => hr a0 a1 r e) a b r hq) a0 a1 r hq
noncomputable def g_convert_Lossless  (v_ : Val) (t_ : Ty) : Option (Bool) :=
  (g_convert_To v_ t_).bind fun y1 => bif (!decide (y1.2 = 0)) then some (false) else (g_types_Of v_).bind fun y3 => (g_convert_To y1.1 y3).bind fun y4 => bif (decide (y4.2 = 0)) then (t_value_Equal y4.1 v_).bind fun y6 => some (y6) else some (false)
theorem g_convert_Lossless_ok (hb : Base E E0 G) (he : ∀ w, E w → EnvV w)   (v_ : Val) (t_ : Ty) (r_ : Bool) (hq : g_convert_Lossless v_ t_ = some r_) :
    Pure E E0 Tryz.prog 14 [.agg (aV v_), .agg (aT t_)] (c1 (vB r_)) := by
  refine pure_L Tryz.func14 rfl ?_
  refine L_keepF [0, 1] (T' := sl 30 [(0, .one (.agg (aV v_))), (1, .one (.agg (aT t_)))]) (by kernel_rfl) ?_
  refine L_seq ?_
  refine L_regF hb [2, 3] (T' := sl 30 [(2, c1 (.ptr 0 0 0)), (3, c1 (.ptr 1 0 0))]) (σ' := [some (.box (aV v_)), some (.box (aT t_))]) (by kernel_rfl) ?_
  refine L_seq ?_
  refine L_regK hb [2, 5, 6] (fun R hR => ?_)
  refine runF 2 (T' := sl 30 [(2, c1 (.ptr 0 0 0)), (3, c1 (.ptr 1 0 0)), (9, .one (.agg (aV v_))), (10, .one (.agg (aT t_)))]) (σ' := [some (.box (aV v_)), some (.box (aT t_))]) (by kernel_rfl) ?_
  obtain ⟨y1, hy1, hq⟩ := bind_inv hq
  refine callF (d := some 11) (by kernel_rfl) (g_convert_To_ok hb he v_ t_ y1 hy1) ?_
  refine lastK (T' := sl 30 [(2, c1 (.ptr 0 0 0)), (5, c1 (.ptr 2 0 0)), (6, c1 (vi y1.2))]) (σ' := [some (.box (aV v_)), some (.box (aT t_)), some (.box (aV y1.1))]) (by kernel_rfl) hR ?_
  refine L_seq (L_seq ?_)
  refine L_regF hb [2, 5, 15] (T' := sl 30 [(2, c1 (.ptr 0 0 0)), (5, c1 (.ptr 2 0 0)), (15, c1 (vB (!decide (y1.2 = 0))))]) (σ' := [some (.box (aV v_)), some (.box (aT t_)), some (.box (aV y1.1))]) (by kernel_rfl) ?_
  refine L_if hb (b := (!decide (y1.2 = 0))) (by kernel_rfl) (fun hc2 => ?_) (fun hc2 => ?_)
  · replace hq := cond_t hc2 hq
    refine L_seq ?_
    refine L_regF hb [4] (T' := sl 30 [(4, c1 (vB false))]) (σ' := [some (.box (aV v_)), some (.box (aT t_)), some (.box (aV y1.1))]) (by kernel_rfl) ?_
    refine L_ret ?_
    have h0 := Option.some.inj hq
    obtain rfl := h0
    exact end_ret (by kernel_rfl)
  · replace hq := cond_f hc2 hq
    refine L_skip (L_seq ?_)
    refine L_drwK hb mixed [2, 6, 7] 8 (by kernel_rfl) (by kernel_rfl) (fun R hR => ?_)
    refine runF 2 (T' := sl 30 [(2, c1 (.ptr 0 0 0)), (5, c1 (.ptr 2 0 0)), (15, c1 (vB (!decide (y1.2 = 0)))), (17, .one (.agg (aV y1.1))), (18, .one (.agg (aV v_)))]) (σ' := [some (.box (aV v_)), some (.box (aT t_)), some (.box (aV y1.1))]) (by kernel_rfl) ?_
    obtain ⟨y3, hy3, hq⟩ := bind_inv hq
    refine callF (d := some 19) (by kernel_rfl) (g_types_Of_ok hb he v_ y3 hy3) ?_
    obtain ⟨y4, hy4, hq⟩ := bind_inv hq
    refine callF (d := some 20) (by kernel_rfl) (g_convert_To_ok hb he y1.1 y3 y4 hy4) ?_
    refine lastF (T' := sl 30 [(2, c1 (.ptr 0 0 0)), (5, c1 (.ptr 2 0 0)), (7, c1 (.ptr 3 0 0)), (15, c1 (vB (!decide (y1.2 = 0)))), (16, .tup [.agg (aV y4.1), .cell (vi y4.2)]), (17, .one (.agg (aV y1.1))), (18, .one (.agg (aV v_))), (19, .one (.agg (aT y3))), (20, .tup [.agg (aV y4.1), .cell (vi y4.2)]), (21, .one (.agg (aV y4.1))), (22, c1 (vi y4.2))]) (σ' := [some (.box (aV v_)), some (.box (aT t_)), some (.box (aV y1.1)), some (.box zV)]) (by kernel_rfl) ?_
    refine lastK (T' := sl 30 [(2, c1 (.ptr 0 0 0)), (6, c1 (vi y4.2)), (7, c1 (.ptr 3 0 0))]) (σ' := [some (.box (aV v_)), some (.box (aT t_)), some (.box (aV y1.1)), some (.box (aV y4.1))]) (by kernel_rfl) hR ?_
    refine L_seq ?_
    refine L_regK hb [4] (fun R hR => ?_)
    refine runF 3 (T' := sl 30 [(2, c1 (.ptr 0 0 0)), (6, c1 (vi y4.2)), (7, c1 (.ptr 3 0 0)), (23, c1 (vi y4.2)), (24, c1 (vB (decide (y4.2 = 0)))), (25, c1 (vB (decide (y4.2 = 0))))]) (σ' := [some (.box (aV v_)), some (.box (aT t_)), some (.box (aV y1.1)), some (.box (aV y4.1))]) (by kernel_rfl) ?_
    refine partsF ((decide (y4.2 = 0))) (fun zz => sl 30 [(2, c1 (.ptr 0 0 0)), (6, c1 (vi y4.2)), (7, c1 (.ptr 3 0 0)), (23, c1 (vi y4.2)), (24, c1 (vB zz)), (25, c1 (vB zz))]) (by kernel_rfl) (fun hc5 => ?_) (fun hc5 => ?_)
    · replace hq := cond_t hc5 hq
      refine runF 2 (T' := sl 30 [(2, c1 (.ptr 0 0 0)), (6, c1 (vi y4.2)), (7, c1 (.ptr 3 0 0)), (23, c1 (vi y4.2)), (24, c1 (vB true)), (25, c1 (vB true)), (26, .one (.agg (aV y4.1))), (27, .one (.agg (aV v_)))]) (σ' := [some (.box (aV v_)), some (.box (aT t_)), some (.box (aV y1.1)), some (.box (aV y4.1))]) (by kernel_rfl) ?_
      obtain ⟨y6, hy6, hq⟩ := bind_inv hq
      refine callF (d := some 28) (by kernel_rfl) (t_value_Equal_ok hb he y4.1 v_ y6 hy6) ?_
      refine lastK (T' := sl 30 [(4, c1 (vB y6))]) (σ' := [some (.box (aV v_)), some (.box (aT t_)), some (.box (aV y1.1)), some (.box (aV y4.1))]) (by kernel_rfl) hR ?_
      refine L_ret ?_
      have h0 := Option.some.inj hq
      obtain rfl := h0
      exact end_ret (by kernel_rfl)
    · replace hq := cond_f hc5 hq
      refine lastK (T' := sl 30 [(4, c1 (vB false))]) (σ' := [some (.box (aV v_)), some (.box (aT t_)), some (.box (aV y1.1)), some (.box (aV y4.1))]) (by kernel_rfl) hR ?_
      refine L_ret ?_
      have h0 := Option.some.inj hq
      obtain rfl := h0
      exact end_ret (by kernel_rfl)
noncomputable def g_r10_same_L1 (a_ : List ByteArray) (b_ : List ByteArray) (s1 : Int) : Option ((Int) ⊕ (Bool)) :=
  bif (decide (s1 < (a_.length : Int))) then (idx a_ s1).bind fun x3 => (idx b_ s1).bind fun x4 => bif (!decide (x3 = x4)) then some (.inr (false)) else some (.inl (IntKind.i64.wrap (s1 + 1))) else some (.inr (true))
noncomputable def g_r10_same  (a_ : List ByteArray) (b_ : List ByteArray) : Option (Bool) :=
  bif (!decide ((a_.length : Int) = (b_.length : Int))) then some (false) else loopO (g_r10_same_L1 a_ b_) 0
theorem g_r10_same_ok (hb : Base E E0 G) (he : ∀ w, E w → EnvV w)   (a_ : List ByteArray) (b_ : List ByteArray) (r_ : Bool) (hq : g_r10_same a_ b_ = some r_) :
    Pure E E0 Tryz.prog 99 [.cell (vL flS a_), .cell (vL flS b_)] (c1 (vB r_)) := by
  refine pure_L Tryz.func99 rfl ?_
  refine L_keepF [0, 1] (T' := sl 26 [(0, c1 (vL flS a_)), (1, c1 (vL flS b_))]) (by kernel_rfl) ?_
  refine L_seq ?_
  refine L_regF hb [0, 1] (T' := sl 26 [(0, c1 (vL flS a_)), (1, c1 (vL flS b_))]) (σ' := []) (by kernel_rfl) ?_
  refine L_seq (L_seq ?_)
  refine L_regF hb [0, 1, 10] (T' := sl 26 [(0, c1 (vL flS a_)), (1, c1 (vL flS b_)), (10, c1 (vB (!decide ((a_.length : Int) = (b_.length : Int)))))]) (σ' := []) (by kernel_rfl) ?_
  refine L_if hb (b := (!decide ((a_.length : Int) = (b_.length : Int)))) (by kernel_rfl) (fun hc1 => ?_) (fun hc1 => ?_)
  · replace hq := cond_t hc1 hq
    refine L_seq ?_
    refine L_regF hb [4] (T' := sl 26 [(4, c1 (vB false))]) (σ' := []) (by kernel_rfl) ?_
    refine L_ret ?_
    have h0 := Option.some.inj hq
    obtain rfl := h0
    exact end_ret (by kernel_rfl)
  · replace hq := cond_f hc1 hq
    refine L_skip (L_seq (L_seq ?_))
    refine L_regF hb [0, 1, 5] (T' := sl 26 [(0, c1 (vL flS a_)), (1, c1 (vL flS b_)), (5, c1 (vi 0))]) (σ' := []) (by kernel_rfl) ?_
    refine L_block (fun K1 hA1 hB1 hC1 hD1 => ?_)
    refine L_backF [0, 1, 5] [] 0 (T' := sl 26 [(0, c1 (vL flS a_)), (1, c1 (vL flS b_)), (5, c1 (vi 0))]) (σ' := []) (by kernel_rfl) (by kernel_rfl) (by simp) (by kernel_rfl) trivial ?_
    refine L_as (by kernel_rfl) (by kernel_rfl) (L_loopO (body := (g_r10_same_L1 a_ b_)) (fun s1 => sl 26 [(0, c1 (vL flS a_)), (1, c1 (vL flS b_)), (5, c1 (vi s1))]) (fun s1 => []) (s0 := 0) (fun s1 x1 hq hn1 he1 => ?_) hq)
    refine L_seq (L_seq ?_)
    refine L_regF hb [0, 1, 5, 14] (T' := sl 26 [(0, c1 (vL flS a_)), (1, c1 (vL flS b_)), (5, c1 (vi s1)), (14, c1 (vB (decide (s1 < (a_.length : Int)))))]) (σ' := []) (by kernel_rfl) ?_
    refine L_if hb (b := (decide (s1 < (a_.length : Int)))) (by kernel_rfl) (fun hc2 => ?_) (fun hc2 => ?_)
    · replace hq := cond_t hc2 hq
      refine L_skip (L_seq (L_block (fun K2 hA2 hB2 hC2 hD2 => (L_seq ?_))))
      refine L_drwK hb mixed [0, 1, 5, 25] 8 (by kernel_rfl) (by kernel_rfl) (fun R hR => ?_)
      refine runF 2 (T' := sl 26 [(0, c1 (vL flS a_)), (1, c1 (vL flS b_)), (5, c1 (vi s1)), (14, c1 (vB (decide (s1 < (a_.length : Int))))), (17, c1 (vL flS a_)), (18, c1 (vi s1))]) (σ' := []) (by kernel_rfl) ?_
      obtain ⟨x3, hx3, hq⟩ := bind_inv hq
      refine idxF flS (d := some 19) hx3 (by kernel_rfl) ?_
      refine runF 3 (T' := sl 26 [(0, c1 (vL flS a_)), (1, c1 (vL flS b_)), (5, c1 (vi s1)), (14, c1 (vB (decide (s1 < (a_.length : Int))))), (17, c1 (vL flS a_)), (18, c1 (vi s1)), (19, c1 (.pv (.pp (flS.c x3 ++ flS.f (List.drop (s1.toNat + 1) a_))))), (20, c1 (vS x3)), (21, c1 (vL flS b_)), (22, c1 (vi s1))]) (σ' := []) (by kernel_rfl) ?_
      obtain ⟨x4, hx4, hq⟩ := bind_inv hq
      refine idxF flS (d := some 23) hx4 (by kernel_rfl) ?_
      refine lastF (T' := sl 26 [(0, c1 (vL flS a_)), (1, c1 (vL flS b_)), (5, c1 (vi s1)), (14, c1 (vB (decide (s1 < (a_.length : Int))))), (17, c1 (vL flS a_)), (18, c1 (vi s1)), (19, c1 (.pv (.pp (flS.c x3 ++ flS.f (List.drop (s1.toNat + 1) a_))))), (20, c1 (vS x3)), (21, c1 (vL flS b_)), (22, c1 (vi s1)), (23, c1 (.pv (.pp (flS.c x4 ++ flS.f (List.drop (s1.toNat + 1) b_))))), (24, c1 (vS x4))]) (σ' := []) (by kernel_rfl) ?_
      refine lastK (T' := sl 26 [(0, c1 (vL flS a_)), (1, c1 (vL flS b_)), (5, c1 (vi s1)), (25, c1 (vB (!decide (x3 = x4))))]) (σ' := []) (by kernel_rfl) hR ?_
      refine L_if hb (b := (!decide (x3 = x4))) (by kernel_rfl) (fun hc5 => ?_) (fun hc5 => ?_)
      · replace hq := cond_t hc5 hq
        refine L_seq ?_
        refine L_regF hb [4] (T' := sl 26 [(4, c1 (vB false))]) (σ' := []) (by kernel_rfl) ?_
        refine L_ret (hD2 _ _ (hD1 _ _ ?_))
        have h0 := (Option.some.inj hq).symm
        replace h0 := he1 _ h0
        obtain rfl := h0
        exact end_ret (by kernel_rfl)
      · replace hq := cond_f hc5 hq
        refine L_skip (L_nil (hA2 _ _ ?_))
        refine L_regF hb [0, 1, 5] (T' := sl 26 [(0, c1 (vL flS a_)), (1, c1 (vL flS b_)), (5, c1 (vi (IntKind.i64.wrap (s1 + 1))))]) (σ' := []) (by kernel_rfl) ?_
        refine L_backF [0, 1, 5] [] 0 (T' := sl 26 [(0, c1 (vL flS a_)), (1, c1 (vL flS b_)), (5, c1 (vi (IntKind.i64.wrap (s1 + 1))))]) (σ' := []) (by kernel_rfl) (by kernel_rfl) (by simp) (by kernel_rfl) trivial ?_
        have h0 := (Option.some.inj hq).symm
        exact L_as (by kernel_rfl) (by kernel_rfl) (hn1 _ h0)
    · replace hq := cond_f hc2 hq
      refine L_exit (hB1 _ _ (L_seq ?_))
      refine L_regF hb [4] (T' := sl 26 [(4, c1 (vB true))]) (σ' := []) (by kernel_rfl) ?_
      refine L_ret ?_
      have h0 := (Option.some.inj hq).symm
      replace h0 := he1 _ h0
      obtain rfl := h0
      exact end_ret (by kernel_rfl)
noncomputable def g_r10_Unify_L1 (r_r10_Unify : Ty → Ty → Option (Ty)) (a_ : Ty) (b_ : Ty) (s1 : Int × List Ty) : Option ((Int × List Ty) ⊕ (Ty)) :=
  bif (decide (s1.1 < (a_.elems.length : Int))) then (idx a_.elems s1.1).bind fun x6 => (idx b_.elems s1.1).bind fun x7 => (r_r10_Unify x6 x7).bind fun y8 => (app 56 s1.2 [y8]).bind fun l9 => some (.inl ((IntKind.i64.wrap (s1.1 + 1)), l9)) else some (.inr (Ty.mk a_.kind s1.2 a_.names))
noncomputable def g_r10_Unify (r_r10_Unify : Ty → Ty → Option (Ty)) (a_ : Ty) (b_ : Ty) : Option (Ty) :=
  bif (!decide (a_.kind = b_.kind)) then some (Ty.mk 0 [] []) else bif (!decide ((a_.elems.length : Int) = (b_.elems.length : Int))) then some (Ty.mk 0 [] []) else (g_r10_same a_.names b_.names).bind fun y3 => bif (!y3) then some (Ty.mk 0 [] []) else loopO (g_r10_Unify_L1 r_r10_Unify a_ b_) (0, [])
theorem g_r10_Unify_ok (hb : Base E E0 G) (he : ∀ w, E w → EnvV w) (r_r10_Unify : Ty → Ty → Option (Ty)) (hr_r10_Unify : ∀ (a0 : Ty) (a1 : Ty) (r : Ty), r_r10_Unify a0 a1 = some r → Pure E E0 Tryz.prog 90 [.agg (aT a0), .agg (aT a1)] (.one (.agg (aT r)))) (a_ : Ty) (b_ : Ty) (r_ : Ty) (hq : g_r10_Unify r_r10_Unify a_ b_ = some r_) :
    Pure E E0 Tryz.prog 90 [.agg (aT a_), .agg (aT b_)] (.one (.agg (aT r_))) := by
  refine pure_L Tryz.func90 rfl ?_
  refine L_keepF [0, 1] (T' := sl 59 [(0, .one (.agg (aT a_))), (1, .one (.agg (aT b_)))]) (by kernel_rfl) ?_
  refine L_seq ?_
  refine L_regF hb [2, 3, 4] (T' := sl 59 [(2, c1 (.ptr 0 0 0)), (3, c1 (.ptr 1 0 0)), (4, c1 (.ptr 2 0 0))]) (σ' := [some (.box (aT a_)), some (.box (aT b_)), some (.box [vi 0, vN, vN])]) (by kernel_rfl) ?_
  refine L_seq (L_seq ?_)
  refine L_regK hb [2, 3, 4, 28] (fun R hR => ?_)
  refine runF 6 (T' := sl 59 [(2, c1 (.ptr 0 0 0)), (3, c1 (.ptr 1 0 0)), (4, c1 (.ptr 2 0 0)), (7, c1 (.ptr 0 0 0)), (8, c1 (vi a_.kind)), (9, c1 (.ptr 1 0 0)), (10, c1 (vi b_.kind)), (11, c1 (vB (!decide (a_.kind = b_.kind)))), (12, c1 (vB (!decide (a_.kind = b_.kind))))]) (σ' := [some (.box (aT a_)), some (.box (aT b_)), some (.box [vi 0, vN, vN])]) (by kernel_rfl) ?_
  refine partsF ((!decide (a_.kind = b_.kind))) (fun zz => sl 59 [(2, c1 (.ptr 0 0 0)), (3, c1 (.ptr 1 0 0)), (4, c1 (.ptr 2 0 0)), (7, c1 (.ptr 0 0 0)), (8, c1 (vi a_.kind)), (9, c1 (.ptr 1 0 0)), (10, c1 (vi b_.kind)), (11, c1 (vB zz)), (12, c1 (vB zz))]) (by kernel_rfl) (fun hc1 => ?_) (fun hc1 => ?_)
  · replace hq := cond_t hc1 hq
    refine lastK (T' := sl 59 [(2, c1 (.ptr 0 0 0)), (3, c1 (.ptr 1 0 0)), (4, c1 (.ptr 2 0 0)), (28, c1 (vB true))]) (σ' := [some (.box (aT a_)), some (.box (aT b_)), some (.box [vi 0, vN, vN])]) (by kernel_rfl) hR ?_
    refine L_true hb (by kernel_rfl) (L_seq ?_)
    refine L_regF hb [4] (T' := sl 59 [(4, c1 (.ptr 2 0 0))]) (σ' := [some (.box (aT a_)), some (.box (aT b_)), some (.box [vi 0, vN, vN])]) (by kernel_rfl) ?_
    refine L_ret ?_
    have h0 := Option.some.inj hq
    obtain rfl := h0
    exact end_ret (by kernel_rfl)
  · replace hq := cond_f hc1 hq
    refine runF 9 (T' := sl 59 [(2, c1 (.ptr 0 0 0)), (3, c1 (.ptr 1 0 0)), (4, c1 (.ptr 2 0 0)), (7, c1 (.ptr 0 0 0)), (8, c1 (vi a_.kind)), (9, c1 (.ptr 1 0 0)), (10, c1 (vi b_.kind)), (11, c1 (vB false)), (12, c1 (vB false)), (13, c1 (.ptr 0 0 1)), (14, c1 (vL flT a_.elems)), (15, c1 (vi (a_.elems.length : Int))), (16, c1 (.ptr 1 0 1)), (17, c1 (vL flT b_.elems)), (18, c1 (vi (b_.elems.length : Int))), (19, c1 (vB (!decide ((a_.elems.length : Int) = (b_.elems.length : Int))))), (20, c1 (vB (!decide ((a_.elems.length : Int) = (b_.elems.length : Int))))), (21, c1 (vB (!decide ((a_.elems.length : Int) = (b_.elems.length : Int)))))]) (σ' := [some (.box (aT a_)), some (.box (aT b_)), some (.box [vi 0, vN, vN])]) (by kernel_rfl) ?_
    refine partsF ((!decide ((a_.elems.length : Int) = (b_.elems.length : Int)))) (fun zz => sl 59 [(2, c1 (.ptr 0 0 0)), (3, c1 (.ptr 1 0 0)), (4, c1 (.ptr 2 0 0)), (7, c1 (.ptr 0 0 0)), (8, c1 (vi a_.kind)), (9, c1 (.ptr 1 0 0)), (10, c1 (vi b_.kind)), (11, c1 (vB false)), (12, c1 (vB false)), (13, c1 (.ptr 0 0 1)), (14, c1 (vL flT a_.elems)), (15, c1 (vi (a_.elems.length : Int))), (16, c1 (.ptr 1 0 1)), (17, c1 (vL flT b_.elems)), (18, c1 (vi (b_.elems.length : Int))), (19, c1 (vB zz)), (20, c1 (vB zz)), (21, c1 (vB zz))]) (by kernel_rfl) (fun hc2 => ?_) (fun hc2 => ?_)
    · replace hq := cond_t hc2 hq
      refine lastK (T' := sl 59 [(2, c1 (.ptr 0 0 0)), (3, c1 (.ptr 1 0 0)), (4, c1 (.ptr 2 0 0)), (28, c1 (vB true))]) (σ' := [some (.box (aT a_)), some (.box (aT b_)), some (.box [vi 0, vN, vN])]) (by kernel_rfl) hR ?_
      refine L_true hb (by kernel_rfl) (L_seq ?_)
      refine L_regF hb [4] (T' := sl 59 [(4, c1 (.ptr 2 0 0))]) (σ' := [some (.box (aT a_)), some (.box (aT b_)), some (.box [vi 0, vN, vN])]) (by kernel_rfl) ?_
      refine L_ret ?_
      have h0 := Option.some.inj hq
      obtain rfl := h0
      exact end_ret (by kernel_rfl)
    · replace hq := cond_f hc2 hq
      refine runF 4 (T' := sl 59 [(2, c1 (.ptr 0 0 0)), (3, c1 (.ptr 1 0 0)), (4, c1 (.ptr 2 0 0)), (7, c1 (.ptr 0 0 0)), (8, c1 (vi a_.kind)), (9, c1 (.ptr 1 0 0)), (10, c1 (vi b_.kind)), (11, c1 (vB false)), (12, c1 (vB false)), (13, c1 (.ptr 0 0 1)), (14, c1 (vL flT a_.elems)), (15, c1 (vi (a_.elems.length : Int))), (16, c1 (.ptr 1 0 1)), (17, c1 (vL flT b_.elems)), (18, c1 (vi (b_.elems.length : Int))), (19, c1 (vB false)), (20, c1 (vB false)), (21, c1 (vB false)), (22, c1 (.ptr 0 0 2)), (23, c1 (vL flS a_.names)), (24, c1 (.ptr 1 0 2)), (25, c1 (vL flS b_.names))]) (σ' := [some (.box (aT a_)), some (.box (aT b_)), some (.box [vi 0, vN, vN])]) (by kernel_rfl) ?_
      obtain ⟨y3, hy3, hq⟩ := bind_inv hq
      refine callF (d := some 26) (by kernel_rfl) (g_r10_same_ok hb he a_.names b_.names y3 hy3) ?_
      refine lastK (T' := sl 59 [(2, c1 (.ptr 0 0 0)), (3, c1 (.ptr 1 0 0)), (4, c1 (.ptr 2 0 0)), (28, c1 (vB (!y3)))]) (σ' := [some (.box (aT a_)), some (.box (aT b_)), some (.box [vi 0, vN, vN])]) (by kernel_rfl) hR ?_
      refine L_if hb (b := (!y3)) (by kernel_rfl) (fun hc4 => ?_) (fun hc4 => ?_)
      · replace hq := cond_t hc4 hq
        refine L_seq ?_
        refine L_regF hb [4] (T' := sl 59 [(4, c1 (.ptr 2 0 0))]) (σ' := [some (.box (aT a_)), some (.box (aT b_)), some (.box [vi 0, vN, vN])]) (by kernel_rfl) ?_
        refine L_ret ?_
        have h0 := Option.some.inj hq
        obtain rfl := h0
        exact end_ret (by kernel_rfl)
      · replace hq := cond_f hc4 hq
        refine L_skip (L_seq ?_)
        refine L_regF hb [2, 3, 4, 5] (T' := sl 59 [(2, c1 (.ptr 0 0 0)), (3, c1 (.ptr 1 0 0)), (4, c1 (.ptr 2 0 0)), (5, c1 (.ptr 3 0 0))]) (σ' := [some (.box (aT a_)), some (.box (aT b_)), some (.box [vi 0, vN, vN]), some (.box [vi a_.kind, vN, vL flS a_.names])]) (by kernel_rfl) ?_
        refine L_seq (L_seq ?_)
        refine L_regF hb [2, 3, 4, 5, 6] (T' := sl 59 [(2, c1 (.ptr 0 0 0)), (3, c1 (.ptr 1 0 0)), (4, c1 (.ptr 2 0 0)), (5, c1 (.ptr 3 0 0)), (6, c1 (vi 0))]) (σ' := [some (.box (aT a_)), some (.box (aT b_)), some (.box [vi 0, vN, vN]), some (.box [vi a_.kind, vN, vL flS a_.names])]) (by kernel_rfl) ?_
        refine L_block (fun K1 hA1 hB1 hC1 hD1 => ?_)
        refine L_ownσ 3 1 3 (cs := [vi a_.kind, vN, vL flS a_.names]) (by kernel_rfl) (by kernel_rfl) rfl ?_
        refine L_backF [2, 3, 4, 5, 6] [] 5 (T' := sl 59 [(2, c1 (.ptr 0 0 0)), (3, c1 (.ptr 1 0 0)), (4, c1 (.ptr 2 0 0)), (5, c1 (.ptr 3 0 0)), (6, c1 (vi 0))]) (σ' := [some (.box (aT a_)), some (.box (aT b_)), some (.box [vi 0, vN, vN]), some (.box [vi a_.kind, vO flT 4 [], vL flS a_.names]), some (arO true flT.sz ((flT.f []).length) (flT.f []))]) (by kernel_rfl) (by kernel_rfl) (by simp) (by kernel_rfl) ⟨(by kernel_rfl), (by kernel_rfl), (by kernel_rfl), (by kernel_rfl), (under_arO _ _ _ _ _), trivial⟩ ?_
        refine L_as (by kernel_rfl) (by kernel_rfl) (L_loopO (body := (g_r10_Unify_L1 r_r10_Unify a_ b_)) (fun s1 => sl 59 [(2, c1 (.ptr 0 0 0)), (3, c1 (.ptr 1 0 0)), (4, c1 (.ptr 2 0 0)), (5, c1 (.ptr 3 0 0)), (6, c1 (vi s1.1))]) (fun s1 => [some (.box (aT a_)), some (.box (aT b_)), some (.box [vi 0, vN, vN]), some (.box [vi a_.kind, vO flT 4 s1.2, vL flS a_.names]), some (arO true flT.sz ((flT.f s1.2).length) (flT.f s1.2))]) (s0 := (0, [])) (fun s1 x1 hq hn1 he1 => ?_) hq)
        refine L_seq (L_seq ?_)
        refine L_regF hb [2, 3, 4, 5, 6, 39] (T' := sl 59 [(2, c1 (.ptr 0 0 0)), (3, c1 (.ptr 1 0 0)), (4, c1 (.ptr 2 0 0)), (5, c1 (.ptr 3 0 0)), (6, c1 (vi s1.1)), (39, c1 (vB (decide (s1.1 < (a_.elems.length : Int)))))]) (σ' := [some (.box (aT a_)), some (.box (aT b_)), some (.box [vi 0, vN, vN]), some (.box [vi a_.kind, vO flT 4 s1.2, vL flS a_.names]), some (arO true flT.sz ((flT.f s1.2).length) (flT.f s1.2))]) (by kernel_rfl) ?_
        refine L_if hb (b := (decide (s1.1 < (a_.elems.length : Int)))) (by kernel_rfl) (fun hc5 => ?_) (fun hc5 => ?_)
        · replace hq := cond_t hc5 hq
          refine L_skip (L_seq (L_block (fun K2 hA2 hB2 hC2 hD2 => ?_)))
          refine L_drwN hb mixed 14 (by kernel_rfl) (by kernel_rfl) (fun R hR => ?_)
          refine runF 5 (T' := sl 59 [(2, c1 (.ptr 0 0 0)), (3, c1 (.ptr 1 0 0)), (4, c1 (.ptr 2 0 0)), (5, c1 (.ptr 3 0 0)), (6, c1 (vi s1.1)), (39, c1 (vB (decide (s1.1 < (a_.elems.length : Int))))), (42, c1 (.ptr 3 0 1)), (43, c1 (vO flT 4 s1.2)), (44, c1 (.ptr 0 0 1)), (45, c1 (vL flT a_.elems)), (46, c1 (vi s1.1))]) (σ' := [some (.box (aT a_)), some (.box (aT b_)), some (.box [vi 0, vN, vN]), some (.box [vi a_.kind, vO flT 4 s1.2, vL flS a_.names]), some (arO true flT.sz ((flT.f s1.2).length) (flT.f s1.2))]) (by kernel_rfl) ?_
          obtain ⟨x6, hx6, hq⟩ := bind_inv hq
          refine idxF flT (d := some 47) hx6 (by kernel_rfl) ?_
          refine runF 4 (T' := sl 59 [(2, c1 (.ptr 0 0 0)), (3, c1 (.ptr 1 0 0)), (4, c1 (.ptr 2 0 0)), (5, c1 (.ptr 3 0 0)), (6, c1 (vi s1.1)), (39, c1 (vB (decide (s1.1 < (a_.elems.length : Int))))), (42, c1 (.ptr 3 0 1)), (43, c1 (vO flT 4 s1.2)), (44, c1 (.ptr 0 0 1)), (45, c1 (vL flT a_.elems)), (46, c1 (vi s1.1)), (47, c1 (.pv (.pp (flT.c x6 ++ flT.f (List.drop (s1.1.toNat + 1) a_.elems))))), (48, .one (.agg (aT x6))), (49, c1 (.ptr 1 0 1)), (50, c1 (vL flT b_.elems)), (51, c1 (vi s1.1))]) (σ' := [some (.box (aT a_)), some (.box (aT b_)), some (.box [vi 0, vN, vN]), some (.box [vi a_.kind, vO flT 4 s1.2, vL flS a_.names]), some (arO true flT.sz ((flT.f s1.2).length) (flT.f s1.2))]) (by kernel_rfl) ?_
          obtain ⟨x7, hx7, hq⟩ := bind_inv hq
          refine idxF flT (d := some 52) hx7 (by kernel_rfl) ?_
          refine runF 1 (T' := sl 59 [(2, c1 (.ptr 0 0 0)), (3, c1 (.ptr 1 0 0)), (4, c1 (.ptr 2 0 0)), (5, c1 (.ptr 3 0 0)), (6, c1 (vi s1.1)), (39, c1 (vB (decide (s1.1 < (a_.elems.length : Int))))), (42, c1 (.ptr 3 0 1)), (43, c1 (vO flT 4 s1.2)), (44, c1 (.ptr 0 0 1)), (45, c1 (vL flT a_.elems)), (46, c1 (vi s1.1)), (47, c1 (.pv (.pp (flT.c x6 ++ flT.f (List.drop (s1.1.toNat + 1) a_.elems))))), (48, .one (.agg (aT x6))), (49, c1 (.ptr 1 0 1)), (50, c1 (vL flT b_.elems)), (51, c1 (vi s1.1)), (52, c1 (.pv (.pp (flT.c x7 ++ flT.f (List.drop (s1.1.toNat + 1) b_.elems))))), (53, .one (.agg (aT x7)))]) (σ' := [some (.box (aT a_)), some (.box (aT b_)), some (.box [vi 0, vN, vN]), some (.box [vi a_.kind, vO flT 4 s1.2, vL flS a_.names]), some (arO true flT.sz ((flT.f s1.2).length) (flT.f s1.2))]) (by kernel_rfl) ?_
          obtain ⟨y8, hy8, hq⟩ := bind_inv hq
          refine callF (d := some 54) (by kernel_rfl) (hr_r10_Unify x6 x7 y8 hy8) ?_
          refine lastF (T' := sl 59 [(2, c1 (.ptr 0 0 0)), (3, c1 (.ptr 1 0 0)), (4, c1 (.ptr 2 0 0)), (5, c1 (.ptr 3 0 0)), (6, c1 (vi s1.1)), (39, c1 (vB (decide (s1.1 < (a_.elems.length : Int))))), (42, c1 (.ptr 3 0 1)), (43, c1 (vO flT 4 s1.2)), (44, c1 (.ptr 0 0 1)), (45, c1 (vL flT a_.elems)), (46, c1 (vi s1.1)), (47, c1 (.pv (.pp (flT.c x6 ++ flT.f (List.drop (s1.1.toNat + 1) a_.elems))))), (48, .one (.agg (aT x6))), (49, c1 (.ptr 1 0 1)), (50, c1 (vL flT b_.elems)), (51, c1 (vi s1.1)), (52, c1 (.pv (.pp (flT.c x7 ++ flT.f (List.drop (s1.1.toNat + 1) b_.elems))))), (53, .one (.agg (aT x7))), (54, .one (.agg (aT y8))), (55, c1 (.pv (.sl true 1 [pI .i64 y8.kind, pL flT y8.elems, pL flS y8.names])))]) (σ' := [some (.box (aT a_)), some (.box (aT b_)), some (.box [vi 0, vN, vN]), some (.box [vi a_.kind, vO flT 4 s1.2, vL flS a_.names]), some (arO true flT.sz ((flT.f s1.2).length) (flT.f s1.2))]) (by kernel_rfl) ?_
          obtain ⟨l9, hl9, hq⟩ := bind_inv hq
          refine appOwnF flT (d := some 56) (id := 4) (s := .pv (.sl true 1 [pI .i64 y8.kind, pL flT y8.elems, pL flS y8.names])) (nb := true) (fr := (flT.f s1.2).length) hl9 (by kernel_rfl) (src_lit flT (flT.one y8) rfl) (by kernel_rfl) (Nat.le_refl _) ?_
          refine lastF (T' := sl 59 [(2, c1 (.ptr 0 0 0)), (3, c1 (.ptr 1 0 0)), (4, c1 (.ptr 2 0 0)), (5, c1 (.ptr 3 0 0)), (6, c1 (vi s1.1)), (39, c1 (vB (decide (s1.1 < (a_.elems.length : Int))))), (42, c1 (.ptr 3 0 1)), (43, c1 (vO flT 4 s1.2)), (44, c1 (.ptr 0 0 1)), (45, c1 (vL flT a_.elems)), (46, c1 (vi s1.1)), (47, c1 (.pv (.pp (flT.c x6 ++ flT.f (List.drop (s1.1.toNat + 1) a_.elems))))), (48, .one (.agg (aT x6))), (49, c1 (.ptr 1 0 1)), (50, c1 (vL flT b_.elems)), (51, c1 (vi s1.1)), (52, c1 (.pv (.pp (flT.c x7 ++ flT.f (List.drop (s1.1.toNat + 1) b_.elems))))), (53, .one (.agg (aT x7))), (54, .one (.agg (aT y8))), (55, c1 (.pv (.sl true 1 [pI .i64 y8.kind, pL flT y8.elems, pL flS y8.names]))), (56, c1 (vO flT 4 l9)), (57, c1 (.ptr 3 0 1))]) (σ' := [some (.box (aT a_)), some (.box (aT b_)), some (.box [vi 0, vN, vN]), some (.box [vi a_.kind, vO flT 4 l9, vL flS a_.names]), some (arO true flT.sz ((flT.f s1.2).length) (flT.f l9))]) (by kernel_rfl) (hR _ _ ?_)
          refine L_nil (hA2 _ _ ?_)
          refine L_regF hb [2, 3, 4, 5, 6] (T' := sl 59 [(2, c1 (.ptr 0 0 0)), (3, c1 (.ptr 1 0 0)), (4, c1 (.ptr 2 0 0)), (5, c1 (.ptr 3 0 0)), (6, c1 (vi (IntKind.i64.wrap (s1.1 + 1))))]) (σ' := [some (.box (aT a_)), some (.box (aT b_)), some (.box [vi 0, vN, vN]), some (.box [vi a_.kind, vO flT 4 l9, vL flS a_.names]), some (arO true flT.sz ((flT.f s1.2).length) (flT.f l9))]) (by kernel_rfl) ?_
          refine L_mark 4 (nb := true) (cs := flT.f l9) rfl (app_le flT hl9) ?_
          refine L_backF [2, 3, 4, 5, 6] [] 5 (T' := sl 59 [(2, c1 (.ptr 0 0 0)), (3, c1 (.ptr 1 0 0)), (4, c1 (.ptr 2 0 0)), (5, c1 (.ptr 3 0 0)), (6, c1 (vi (IntKind.i64.wrap (s1.1 + 1))))]) (σ' := [some (.box (aT a_)), some (.box (aT b_)), some (.box [vi 0, vN, vN]), some (.box [vi a_.kind, vO flT 4 l9, vL flS a_.names]), some (arO true flT.sz ((flT.f l9).length) (flT.f l9))]) (by kernel_rfl) (by kernel_rfl) (by simp) (by kernel_rfl) ⟨(by kernel_rfl), (by kernel_rfl), (by kernel_rfl), (by kernel_rfl), (under_arO _ _ _ _ _), trivial⟩ ?_
          have h0 := (Option.some.inj hq).symm
          exact L_as (by kernel_rfl) (by kernel_rfl) (hn1 _ h0)
        · replace hq := cond_f hc5 hq
          refine L_exit (hB1 _ _ (L_seq ?_))
          refine L_regF hb [4] (T' := sl 59 [(4, c1 (.ptr 2 0 0))]) (σ' := [some (.box (aT a_)), some (.box (aT b_)), some (.box [vi a_.kind, vO flT 4 s1.2, vL flS a_.names]), some (.box [vi a_.kind, vO flT 4 s1.2, vL flS a_.names]), some (arO true flT.sz ((flT.f s1.2).length) (flT.f s1.2))]) (by kernel_rfl) ?_
          refine L_cellσ 2 1 (cs := [vi a_.kind, vO flT 4 s1.2, vL flS a_.names]) (c := vO flT 4 s1.2) (by kernel_rfl) (by kernel_rfl) (conv_own flT (nb := true) (id := 4) (xs := s1.2) (by kernel_rfl)) ?_
          refine L_ret ?_
          have h0 := (Option.some.inj hq).symm
          replace h0 := he1 _ h0
          obtain rfl := h0
          exact end_ret (by kernel_rfl)
noncomputable def t_r10_Unify_step (rec : Ty → Ty → Option (Ty)) (a : Ty) (b : Ty) : Option (Ty) :=
  g_r10_Unify (fun a0 a1 => rec a0 a1) a b
noncomputable def t_r10_Unify (a0 : Ty) (a1 : Ty) : Option (Ty) := tieF relT wfT t_r10_Unify_step a0 a1
theorem t_r10_Unify_ok (hb : Base E E0 G) (he : ∀ w, E w → EnvV w) (a0 : Ty) (a1 : Ty) (r : Ty) (hq : t_r10_Unify a0 a1 = some r) : Pure E E0 Tryz.prog 90 [.agg (aT a0), .agg (aT a1)] (.one (.agg (aT r))) :=
  tieF_ok (C := fun a b r => Pure E E0 Tryz.prog 90 [.agg (aT a), .agg (aT b)] (.one (.agg (aT r)))) (fun rec hr a b r hq => g_r10_Unify_ok hb he (fun a0 a1 => rec a0 a1) (fun a0 a1 r e => hr a0 a1 r e) a b r hq) a0 a1 r hq
noncomputable def g_r10_identifiers_L1 (l_ : List ByteArray) (s1 : Int) : Option ((Int) ⊕ (Bool)) :=
  bif (decide (s1 < (l_.length : Int))) then (idx l_ s1).bind fun x2 => (g_r06_Identifier x2).bind fun y3 => bif (!y3) then some (.inr (false)) else some (.inl (IntKind.i64.wrap (s1 + 1))) else some (.inr (true))
noncomputable def g_r10_identifiers  (l_ : List ByteArray) : Option (Bool) :=
  loopO (g_r10_identifiers_L1 l_) 0
theorem g_r10_identifiers_ok (hb : Base E E0 G) (he : ∀ w, E w → EnvV w)   (l_ : List ByteArray) (r_ : Bool) (hq : g_r10_identifiers l_ = some r_) :
    Pure E E0 Tryz.prog 74 [.cell (vL flS l_)] (c1 (vB r_)) := by
  refine pure_L Tryz.func74 rfl ?_
  refine L_keepF [0] (T' := sl 16 [(0, c1 (vL flS l_))]) (by kernel_rfl) ?_
  refine L_seq ?_
  refine L_regF hb [0] (T' := sl 16 [(0, c1 (vL flS l_))]) (σ' := []) (by kernel_rfl) ?_
  refine L_seq (L_seq ?_)
  refine L_regF hb [0, 3] (T' := sl 16 [(0, c1 (vL flS l_)), (3, c1 (vi 0))]) (σ' := []) (by kernel_rfl) ?_
  refine L_block (fun K1 hA1 hB1 hC1 hD1 => ?_)
  refine L_backF [0, 3] [] 0 (T' := sl 16 [(0, c1 (vL flS l_)), (3, c1 (vi 0))]) (σ' := []) (by kernel_rfl) (by kernel_rfl) (by simp) (by kernel_rfl) trivial ?_
  refine L_as (by kernel_rfl) (by kernel_rfl) (L_loopO (body := (g_r10_identifiers_L1 l_)) (fun s1 => sl 16 [(0, c1 (vL flS l_)), (3, c1 (vi s1))]) (fun s1 => []) (s0 := 0) (fun s1 x1 hq hn1 he1 => ?_) hq)
  refine L_seq (L_seq ?_)
  refine L_regF hb [0, 3, 7] (T' := sl 16 [(0, c1 (vL flS l_)), (3, c1 (vi s1)), (7, c1 (vB (decide (s1 < (l_.length : Int)))))]) (σ' := []) (by kernel_rfl) ?_
  refine L_if hb (b := (decide (s1 < (l_.length : Int)))) (by kernel_rfl) (fun hc1 => ?_) (fun hc1 => ?_)
  · replace hq := cond_t hc1 hq
    refine L_skip (L_seq (L_block (fun K2 hA2 hB2 hC2 hD2 => (L_seq ?_))))
    refine L_regK hb [0, 3, 15] (fun R hR => ?_)
    refine runF 2 (T' := sl 16 [(0, c1 (vL flS l_)), (3, c1 (vi s1)), (7, c1 (vB (decide (s1 < (l_.length : Int))))), (10, c1 (vL flS l_)), (11, c1 (vi s1))]) (σ' := []) (by kernel_rfl) ?_
    obtain ⟨x2, hx2, hq⟩ := bind_inv hq
    refine idxF flS (d := some 12) hx2 (by kernel_rfl) ?_
    refine runF 1 (T' := sl 16 [(0, c1 (vL flS l_)), (3, c1 (vi s1)), (7, c1 (vB (decide (s1 < (l_.length : Int))))), (10, c1 (vL flS l_)), (11, c1 (vi s1)), (12, c1 (.pv (.pp (flS.c x2 ++ flS.f (List.drop (s1.toNat + 1) l_))))), (13, c1 (vS x2))]) (σ' := []) (by kernel_rfl) ?_
    obtain ⟨y3, hy3, hq⟩ := bind_inv hq
    refine callF (d := some 14) (by kernel_rfl) (g_r06_Identifier_ok hb he x2 y3 hy3) ?_
    refine lastK (T' := sl 16 [(0, c1 (vL flS l_)), (3, c1 (vi s1)), (15, c1 (vB (!y3)))]) (σ' := []) (by kernel_rfl) hR ?_
    refine L_if hb (b := (!y3)) (by kernel_rfl) (fun hc4 => ?_) (fun hc4 => ?_)
    · replace hq := cond_t hc4 hq
      refine L_seq ?_
      refine L_regF hb [2] (T' := sl 16 [(2, c1 (vB false))]) (σ' := []) (by kernel_rfl) ?_
      refine L_ret (hD2 _ _ (hD1 _ _ ?_))
      have h0 := (Option.some.inj hq).symm
      replace h0 := he1 _ h0
      obtain rfl := h0
      exact end_ret (by kernel_rfl)
    · replace hq := cond_f hc4 hq
      refine L_skip (L_nil (hA2 _ _ ?_))
      refine L_regF hb [0, 3] (T' := sl 16 [(0, c1 (vL flS l_)), (3, c1 (vi (IntKind.i64.wrap (s1 + 1))))]) (σ' := []) (by kernel_rfl) ?_
      refine L_backF [0, 3] [] 0 (T' := sl 16 [(0, c1 (vL flS l_)), (3, c1 (vi (IntKind.i64.wrap (s1 + 1))))]) (σ' := []) (by kernel_rfl) (by kernel_rfl) (by simp) (by kernel_rfl) trivial ?_
      have h0 := (Option.some.inj hq).symm
      exact L_as (by kernel_rfl) (by kernel_rfl) (hn1 _ h0)
  · replace hq := cond_f hc1 hq
    refine L_exit (hB1 _ _ (L_seq ?_))
    refine L_regF hb [2] (T' := sl 16 [(2, c1 (vB true))]) (σ' := []) (by kernel_rfl) ?_
    refine L_ret ?_
    have h0 := (Option.some.inj hq).symm
    replace h0 := he1 _ h0
    obtain rfl := h0
    exact end_ret (by kernel_rfl)
noncomputable def g_r10_common_L1 (r_r10_of : Val → Int → Option (Ty)) (l_ : List Val) (level_ : Int) (s1 : Int × List Ty × List ByteArray × Bool × Int) : Option ((Int × List Ty × List ByteArray × Bool × Int) ⊕ (Ty)) :=
  bif (decide (s1.2.2.2.2 < (l_.length : Int))) then (idx l_ s1.2.2.2.2).bind fun x2 => bif (decide (x2.kind = 0)) then some (.inl (s1.1, s1.2.1, s1.2.2.1, s1.2.2.2.1, (IntKind.i64.wrap (s1.2.2.2.2 + 1)))) else (idx l_ s1.2.2.2.2).bind fun x4 => bif (decide (x4.kind = 6)) then some (.inl (s1.1, s1.2.1, s1.2.2.1, s1.2.2.2.1, (IntKind.i64.wrap (s1.2.2.2.2 + 1)))) else (idx l_ s1.2.2.2.2).bind fun x6 => (r_r10_of x6 level_).bind fun y7 => bif s1.2.2.2.1 then some (.inl (y7.kind, y7.elems, y7.names, false, (IntKind.i64.wrap (s1.2.2.2.2 + 1)))) else (t_r10_Unify (Ty.mk s1.1 s1.2.1 s1.2.2.1) y7).bind fun y9 => some (.inl (y9.kind, y9.elems, y9.names, false, (IntKind.i64.wrap (s1.2.2.2.2 + 1)))) else some (.inr (Ty.mk s1.1 s1.2.1 s1.2.2.1))
noncomputable def g_r10_common (r_r10_of : Val → Int → Option (Ty)) (l_ : List Val) (level_ : Int) : Option (Ty) :=
  loopO (g_r10_common_L1 r_r10_of l_ level_) (0, [], [], true, 0)
theorem g_r10_common_ok (hb : Base E E0 G) (he : ∀ w, E w → EnvV w) (r_r10_of : Val → Int → Option (Ty)) (hr_r10_of : ∀ (a0 : Val) (a1 : Int) (r : Ty), r_r10_of a0 a1 = some r → Pure E E0 Tryz.prog 48 [.agg (aV a0), .cell (vi a1)] (.one (.agg (aT r)))) (l_ : List Val) (level_ : Int) (r_ : Ty) (hq : g_r10_common r_r10_of l_ level_ = some r_) :
    Pure E E0 Tryz.prog 73 [.cell (vL flV l_), .cell (vi level_)] (.one (.agg (aT r_))) := by
  refine pure_L Tryz.func73 rfl ?_
  refine L_keepF [0, 1] (T' := sl 41 [(0, c1 (vL flV l_)), (1, c1 (vi level_))]) (by kernel_rfl) ?_
  refine L_seq ?_
  refine L_regF hb [0, 1, 4] (T' := sl 41 [(0, c1 (vL flV l_)), (1, c1 (vi level_)), (4, c1 (.ptr 0 0 0))]) (σ' := [some (.box [vi 0, vN, vN])]) (by kernel_rfl) ?_
  refine L_seq ?_
  refine L_regF hb [0, 1, 4, 5] (T' := sl 41 [(0, c1 (vL flV l_)), (1, c1 (vi level_)), (4, c1 (.ptr 0 0 0)), (5, c1 (.ptr 1 0 0))]) (σ' := [some (.box [vi 0, vN, vN]), some (.box [vi 0, vN, vN])]) (by kernel_rfl) ?_
  refine L_seq ?_
  refine L_regF hb [0, 1, 4, 5, 6] (T' := sl 41 [(0, c1 (vL flV l_)), (1, c1 (vi level_)), (4, c1 (.ptr 0 0 0)), (5, c1 (.ptr 1 0 0)), (6, c1 (vB true))]) (σ' := [some (.box [vi 0, vN, vN]), some (.box [vi 0, vN, vN])]) (by kernel_rfl) ?_
  refine L_seq (L_seq ?_)
  refine L_regF hb [0, 1, 4, 5, 6, 7] (T' := sl 41 [(0, c1 (vL flV l_)), (1, c1 (vi level_)), (4, c1 (.ptr 0 0 0)), (5, c1 (.ptr 1 0 0)), (6, c1 (vB true)), (7, c1 (vi 0))]) (σ' := [some (.box [vi 0, vN, vN]), some (.box [vi 0, vN, vN])]) (by kernel_rfl) ?_
  refine L_block (fun K1 hA1 hB1 hC1 hD1 => ?_)
  refine L_cellσ 1 1 (cs := [vi 0, vN, vN]) (c := vN) (by kernel_rfl) (by kernel_rfl) (conv_nil flT) ?_
  refine L_cellσ 1 2 (cs := [vi 0, vL flT [], vN]) (c := vN) (by kernel_rfl) (by kernel_rfl) (conv_nil flS) ?_
  refine L_backF [0, 1, 4, 5, 6, 7] [] 2 (T' := sl 41 [(0, c1 (vL flV l_)), (1, c1 (vi level_)), (4, c1 (.ptr 0 0 0)), (5, c1 (.ptr 1 0 0)), (6, c1 (vB true)), (7, c1 (vi 0))]) (σ' := [some (.box [vi 0, vN, vN]), some (.box [vi 0, vL flT [], vL flS []])]) (by kernel_rfl) (by kernel_rfl) (by simp) (by kernel_rfl) ⟨(by kernel_rfl), (by kernel_rfl), trivial⟩ ?_
  refine L_as (by kernel_rfl) (by kernel_rfl) (L_loopO (body := (g_r10_common_L1 r_r10_of l_ level_)) (fun s1 => sl 41 [(0, c1 (vL flV l_)), (1, c1 (vi level_)), (4, c1 (.ptr 0 0 0)), (5, c1 (.ptr 1 0 0)), (6, c1 (vB s1.2.2.2.1)), (7, c1 (vi s1.2.2.2.2))]) (fun s1 => [some (.box [vi 0, vN, vN]), some (.box [vi s1.1, vL flT s1.2.1, vL flS s1.2.2.1])]) (s0 := (0, [], [], true, 0)) (fun s1 x1 hq hn1 he1 => ?_) hq)
  refine L_seq (L_seq ?_)
  refine L_regF hb [0, 1, 4, 5, 6, 7, 12] (T' := sl 41 [(0, c1 (vL flV l_)), (1, c1 (vi level_)), (4, c1 (.ptr 0 0 0)), (5, c1 (.ptr 1 0 0)), (6, c1 (vB s1.2.2.2.1)), (7, c1 (vi s1.2.2.2.2)), (12, c1 (vB (decide (s1.2.2.2.2 < (l_.length : Int)))))]) (σ' := [some (.box [vi 0, vN, vN]), some (.box [vi s1.1, vL flT s1.2.1, vL flS s1.2.2.1])]) (by kernel_rfl) ?_
  refine L_if hb (b := (decide (s1.2.2.2.2 < (l_.length : Int)))) (by kernel_rfl) (fun hc1 => ?_) (fun hc1 => ?_)
  · replace hq := cond_t hc1 hq
    refine L_skip (L_seq (L_block (fun K2 hA2 hB2 hC2 hD2 => (L_seq (L_seq ?_)))))
    refine L_regK hb [0, 1, 4, 5, 6, 7, 28] (fun R hR => ?_)
    refine runF 2 (T' := sl 41 [(0, c1 (vL flV l_)), (1, c1 (vi level_)), (4, c1 (.ptr 0 0 0)), (5, c1 (.ptr 1 0 0)), (6, c1 (vB s1.2.2.2.1)), (7, c1 (vi s1.2.2.2.2)), (12, c1 (vB (decide (s1.2.2.2.2 < (l_.length : Int))))), (15, c1 (vL flV l_)), (16, c1 (vi s1.2.2.2.2))]) (σ' := [some (.box [vi 0, vN, vN]), some (.box [vi s1.1, vL flT s1.2.1, vL flS s1.2.2.1])]) (by kernel_rfl) ?_
    obtain ⟨x2, hx2, hq⟩ := bind_inv hq
    refine idxF flV (d := some 17) hx2 (by kernel_rfl) ?_
    refine runF 4 (T' := sl 41 [(0, c1 (vL flV l_)), (1, c1 (vi level_)), (4, c1 (.ptr 0 0 0)), (5, c1 (.ptr 1 0 0)), (6, c1 (vB s1.2.2.2.1)), (7, c1 (vi s1.2.2.2.2)), (12, c1 (vB (decide (s1.2.2.2.2 < (l_.length : Int))))), (15, c1 (vL flV l_)), (16, c1 (vi s1.2.2.2.2)), (17, c1 (.pv (.pp (flV.c x2 ++ flV.f (List.drop (s1.2.2.2.2.toNat + 1) l_))))), (18, c1 (.pv (.pp (List.drop 0 (flV.c x2 ++ flV.f (List.drop (s1.2.2.2.2.toNat + 1) l_)))))), (19, c1 (vi x2.kind)), (20, c1 (vB (decide (x2.kind = 0)))), (21, c1 (vB (decide (x2.kind = 0))))]) (σ' := [some (.box [vi 0, vN, vN]), some (.box [vi s1.1, vL flT s1.2.1, vL flS s1.2.2.1])]) (by kernel_rfl) ?_
    refine partsF ((decide (x2.kind = 0))) (fun zz => sl 41 [(0, c1 (vL flV l_)), (1, c1 (vi level_)), (4, c1 (.ptr 0 0 0)), (5, c1 (.ptr 1 0 0)), (6, c1 (vB s1.2.2.2.1)), (7, c1 (vi s1.2.2.2.2)), (12, c1 (vB (decide (s1.2.2.2.2 < (l_.length : Int))))), (15, c1 (vL flV l_)), (16, c1 (vi s1.2.2.2.2)), (17, c1 (.pv (.pp (flV.c x2 ++ flV.f (List.drop (s1.2.2.2.2.toNat + 1) l_))))), (18, c1 (.pv (.pp (List.drop 0 (flV.c x2 ++ flV.f (List.drop (s1.2.2.2.2.toNat + 1) l_)))))), (19, c1 (vi x2.kind)), (20, c1 (vB zz)), (21, c1 (vB zz))]) (by kernel_rfl) (fun hc3 => ?_) (fun hc3 => ?_)
    · replace hq := cond_t hc3 hq
      refine lastK (T' := sl 41 [(0, c1 (vL flV l_)), (1, c1 (vi level_)), (4, c1 (.ptr 0 0 0)), (5, c1 (.ptr 1 0 0)), (6, c1 (vB s1.2.2.2.1)), (7, c1 (vi s1.2.2.2.2)), (28, c1 (vB true))]) (σ' := [some (.box [vi 0, vN, vN]), some (.box [vi s1.1, vL flT s1.2.1, vL flS s1.2.2.1])]) (by kernel_rfl) hR ?_
      refine L_true hb (by kernel_rfl) (L_exit (hB2 _ _ ?_))
      refine L_regF hb [0, 1, 4, 5, 6, 7] (T' := sl 41 [(0, c1 (vL flV l_)), (1, c1 (vi level_)), (4, c1 (.ptr 0 0 0)), (5, c1 (.ptr 1 0 0)), (6, c1 (vB s1.2.2.2.1)), (7, c1 (vi (IntKind.i64.wrap (s1.2.2.2.2 + 1))))]) (σ' := [some (.box [vi 0, vN, vN]), some (.box [vi s1.1, vL flT s1.2.1, vL flS s1.2.2.1])]) (by kernel_rfl) ?_
      refine L_backF [0, 1, 4, 5, 6, 7] [] 2 (T' := sl 41 [(0, c1 (vL flV l_)), (1, c1 (vi level_)), (4, c1 (.ptr 0 0 0)), (5, c1 (.ptr 1 0 0)), (6, c1 (vB s1.2.2.2.1)), (7, c1 (vi (IntKind.i64.wrap (s1.2.2.2.2 + 1))))]) (σ' := [some (.box [vi 0, vN, vN]), some (.box [vi s1.1, vL flT s1.2.1, vL flS s1.2.2.1])]) (by kernel_rfl) (by kernel_rfl) (by simp) (by kernel_rfl) ⟨(by kernel_rfl), (by kernel_rfl), trivial⟩ ?_
      have h0 := (Option.some.inj hq).symm
      exact L_as (by kernel_rfl) (by kernel_rfl) (hn1 _ h0)
    · replace hq := cond_f hc3 hq
      refine runF 2 (T' := sl 41 [(0, c1 (vL flV l_)), (1, c1 (vi level_)), (4, c1 (.ptr 0 0 0)), (5, c1 (.ptr 1 0 0)), (6, c1 (vB s1.2.2.2.1)), (7, c1 (vi s1.2.2.2.2)), (12, c1 (vB (decide (s1.2.2.2.2 < (l_.length : Int))))), (15, c1 (vL flV l_)), (16, c1 (vi s1.2.2.2.2)), (17, c1 (.pv (.pp (flV.c x2 ++ flV.f (List.drop (s1.2.2.2.2.toNat + 1) l_))))), (18, c1 (.pv (.pp (List.drop 0 (flV.c x2 ++ flV.f (List.drop (s1.2.2.2.2.toNat + 1) l_)))))), (19, c1 (vi x2.kind)), (20, c1 (vB false)), (21, c1 (vB false)), (22, c1 (vL flV l_)), (23, c1 (vi s1.2.2.2.2))]) (σ' := [some (.box [vi 0, vN, vN]), some (.box [vi s1.1, vL flT s1.2.1, vL flS s1.2.2.1])]) (by kernel_rfl) ?_
      obtain ⟨x4, hx4, hq⟩ := bind_inv hq
      refine idxF flV (d := some 24) hx4 (by kernel_rfl) ?_
      refine lastK (T' := sl 41 [(0, c1 (vL flV l_)), (1, c1 (vi level_)), (4, c1 (.ptr 0 0 0)), (5, c1 (.ptr 1 0 0)), (6, c1 (vB s1.2.2.2.1)), (7, c1 (vi s1.2.2.2.2)), (28, c1 (vB (decide (x4.kind = 6))))]) (σ' := [some (.box [vi 0, vN, vN]), some (.box [vi s1.1, vL flT s1.2.1, vL flS s1.2.2.1])]) (by kernel_rfl) hR ?_
      refine L_if hb (b := (decide (x4.kind = 6))) (by kernel_rfl) (fun hc5 => ?_) (fun hc5 => ?_)
      · replace hq := cond_t hc5 hq
        refine L_exit (hB2 _ _ ?_)
        refine L_regF hb [0, 1, 4, 5, 6, 7] (T' := sl 41 [(0, c1 (vL flV l_)), (1, c1 (vi level_)), (4, c1 (.ptr 0 0 0)), (5, c1 (.ptr 1 0 0)), (6, c1 (vB s1.2.2.2.1)), (7, c1 (vi (IntKind.i64.wrap (s1.2.2.2.2 + 1))))]) (σ' := [some (.box [vi 0, vN, vN]), some (.box [vi s1.1, vL flT s1.2.1, vL flS s1.2.2.1])]) (by kernel_rfl) ?_
        refine L_backF [0, 1, 4, 5, 6, 7] [] 2 (T' := sl 41 [(0, c1 (vL flV l_)), (1, c1 (vi level_)), (4, c1 (.ptr 0 0 0)), (5, c1 (.ptr 1 0 0)), (6, c1 (vB s1.2.2.2.1)), (7, c1 (vi (IntKind.i64.wrap (s1.2.2.2.2 + 1))))]) (σ' := [some (.box [vi 0, vN, vN]), some (.box [vi s1.1, vL flT s1.2.1, vL flS s1.2.2.1])]) (by kernel_rfl) (by kernel_rfl) (by simp) (by kernel_rfl) ⟨(by kernel_rfl), (by kernel_rfl), trivial⟩ ?_
        have h0 := (Option.some.inj hq).symm
        exact L_as (by kernel_rfl) (by kernel_rfl) (hn1 _ h0)
      · replace hq := cond_f hc5 hq
        refine L_skip (L_seq ?_)
        refine L_regK hb [0, 1, 4, 5, 6, 7, 8] (fun R hR => ?_)
        refine runF 2 (T' := sl 41 [(0, c1 (vL flV l_)), (1, c1 (vi level_)), (4, c1 (.ptr 0 0 0)), (5, c1 (.ptr 1 0 0)), (6, c1 (vB s1.2.2.2.1)), (7, c1 (vi s1.2.2.2.2)), (28, c1 (vB (decide (x4.kind = 6)))), (29, c1 (vL flV l_)), (30, c1 (vi s1.2.2.2.2))]) (σ' := [some (.box [vi 0, vN, vN]), some (.box [vi s1.1, vL flT s1.2.1, vL flS s1.2.2.1])]) (by kernel_rfl) ?_
        obtain ⟨x6, hx6, hq⟩ := bind_inv hq
        refine idxF flV (d := some 31) hx6 (by kernel_rfl) ?_
        refine runF 2 (T' := sl 41 [(0, c1 (vL flV l_)), (1, c1 (vi level_)), (4, c1 (.ptr 0 0 0)), (5, c1 (.ptr 1 0 0)), (6, c1 (vB s1.2.2.2.1)), (7, c1 (vi s1.2.2.2.2)), (28, c1 (vB (decide (x4.kind = 6)))), (29, c1 (vL flV l_)), (30, c1 (vi s1.2.2.2.2)), (31, c1 (.pv (.pp (flV.c x6 ++ flV.f (List.drop (s1.2.2.2.2.toNat + 1) l_))))), (32, .one (.agg (aV x6))), (33, c1 (vi level_))]) (σ' := [some (.box [vi 0, vN, vN]), some (.box [vi s1.1, vL flT s1.2.1, vL flS s1.2.2.1])]) (by kernel_rfl) ?_
        obtain ⟨y7, hy7, hq⟩ := bind_inv hq
        refine callF (d := some 34) (by kernel_rfl) (hr_r10_of x6 level_ y7 hy7) ?_
        refine lastK (T' := sl 41 [(0, c1 (vL flV l_)), (1, c1 (vi level_)), (4, c1 (.ptr 0 0 0)), (5, c1 (.ptr 1 0 0)), (6, c1 (vB s1.2.2.2.1)), (7, c1 (vi s1.2.2.2.2)), (8, c1 (.ptr 2 0 0))]) (σ' := [some (.box [vi 0, vN, vN]), some (.box [vi s1.1, vL flT s1.2.1, vL flS s1.2.2.1]), some (.box (aT y7))]) (by kernel_rfl) hR ?_
        refine L_seq (L_seq ?_)
        refine L_regF hb [0, 1, 4, 5, 7, 8, 35] (T' := sl 41 [(0, c1 (vL flV l_)), (1, c1 (vi level_)), (4, c1 (.ptr 0 0 0)), (5, c1 (.ptr 1 0 0)), (7, c1 (vi s1.2.2.2.2)), (8, c1 (.ptr 2 0 0)), (35, c1 (vB s1.2.2.2.1))]) (σ' := [some (.box [vi 0, vN, vN]), some (.box [vi s1.1, vL flT s1.2.1, vL flS s1.2.2.1]), some (.box (aT y7))]) (by kernel_rfl) ?_
        refine L_if hb (b := s1.2.2.2.1) (by kernel_rfl) (fun hc8 => ?_) (fun hc8 => ?_)
        · replace hq := cond_t hc8 hq
          refine L_regF hb [0, 1, 4, 5, 7] (T' := sl 41 [(0, c1 (vL flV l_)), (1, c1 (vi level_)), (4, c1 (.ptr 0 0 0)), (5, c1 (.ptr 1 0 0)), (7, c1 (vi s1.2.2.2.2))]) (σ' := [some (.box [vi 0, vN, vN]), some (.box (aT y7)), some (.box (aT y7))]) (by kernel_rfl) ?_
          refine L_regN hb (fun R hR => ?_)
          refine lastF (T' := sl 41 [(0, c1 (vL flV l_)), (1, c1 (vi level_)), (4, c1 (.ptr 0 0 0)), (5, c1 (.ptr 1 0 0)), (6, c1 (vB false)), (7, c1 (vi s1.2.2.2.2))]) (σ' := [some (.box [vi 0, vN, vN]), some (.box (aT y7)), some (.box (aT y7))]) (by kernel_rfl) (hR _ _ ?_)
          refine L_nil (hA2 _ _ ?_)
          refine L_regF hb [0, 1, 4, 5, 6, 7] (T' := sl 41 [(0, c1 (vL flV l_)), (1, c1 (vi level_)), (4, c1 (.ptr 0 0 0)), (5, c1 (.ptr 1 0 0)), (6, c1 (vB false)), (7, c1 (vi (IntKind.i64.wrap (s1.2.2.2.2 + 1))))]) (σ' := [some (.box [vi 0, vN, vN]), some (.box (aT y7)), some (.box (aT y7))]) (by kernel_rfl) ?_
          refine L_backF [0, 1, 4, 5, 6, 7] [] 2 (T' := sl 41 [(0, c1 (vL flV l_)), (1, c1 (vi level_)), (4, c1 (.ptr 0 0 0)), (5, c1 (.ptr 1 0 0)), (6, c1 (vB false)), (7, c1 (vi (IntKind.i64.wrap (s1.2.2.2.2 + 1))))]) (σ' := [some (.box [vi 0, vN, vN]), some (.box (aT y7))]) (by kernel_rfl) (by kernel_rfl) (by simp) (by kernel_rfl) ⟨(by kernel_rfl), (by kernel_rfl), trivial⟩ ?_
          have h0 := (Option.some.inj hq).symm
          exact L_as (by kernel_rfl) (by kernel_rfl) (hn1 _ h0)
        · replace hq := cond_f hc8 hq
          refine L_regK hb [0, 1, 4, 5, 7] (fun R hR => ?_)
          refine runF 2 (T' := sl 41 [(0, c1 (vL flV l_)), (1, c1 (vi level_)), (4, c1 (.ptr 0 0 0)), (5, c1 (.ptr 1 0 0)), (7, c1 (vi s1.2.2.2.2)), (8, c1 (.ptr 2 0 0)), (35, c1 (vB s1.2.2.2.1)), (37, .one (.agg [vi s1.1, vL flT s1.2.1, vL flS s1.2.2.1])), (38, .one (.agg (aT y7)))]) (σ' := [some (.box [vi 0, vN, vN]), some (.box [vi s1.1, vL flT s1.2.1, vL flS s1.2.2.1]), some (.box (aT y7))]) (by kernel_rfl) ?_
          obtain ⟨y9, hy9, hq⟩ := bind_inv hq
          refine callF (d := some 39) (by kernel_rfl) (t_r10_Unify_ok hb he (Ty.mk s1.1 s1.2.1 s1.2.2.1) y7 y9 hy9) ?_
          refine lastK (T' := sl 41 [(0, c1 (vL flV l_)), (1, c1 (vi level_)), (4, c1 (.ptr 0 0 0)), (5, c1 (.ptr 1 0 0)), (7, c1 (vi s1.2.2.2.2))]) (σ' := [some (.box [vi 0, vN, vN]), some (.box (aT y9)), some (.box (aT y7))]) (by kernel_rfl) hR ?_
          refine L_regN hb (fun R hR => ?_)
          refine lastF (T' := sl 41 [(0, c1 (vL flV l_)), (1, c1 (vi level_)), (4, c1 (.ptr 0 0 0)), (5, c1 (.ptr 1 0 0)), (6, c1 (vB false)), (7, c1 (vi s1.2.2.2.2))]) (σ' := [some (.box [vi 0, vN, vN]), some (.box (aT y9)), some (.box (aT y7))]) (by kernel_rfl) (hR _ _ ?_)
          refine L_nil (hA2 _ _ ?_)
          refine L_regF hb [0, 1, 4, 5, 6, 7] (T' := sl 41 [(0, c1 (vL flV l_)), (1, c1 (vi level_)), (4, c1 (.ptr 0 0 0)), (5, c1 (.ptr 1 0 0)), (6, c1 (vB false)), (7, c1 (vi (IntKind.i64.wrap (s1.2.2.2.2 + 1))))]) (σ' := [some (.box [vi 0, vN, vN]), some (.box (aT y9)), some (.box (aT y7))]) (by kernel_rfl) ?_
          refine L_backF [0, 1, 4, 5, 6, 7] [] 2 (T' := sl 41 [(0, c1 (vL flV l_)), (1, c1 (vi level_)), (4, c1 (.ptr 0 0 0)), (5, c1 (.ptr 1 0 0)), (6, c1 (vB false)), (7, c1 (vi (IntKind.i64.wrap (s1.2.2.2.2 + 1))))]) (σ' := [some (.box [vi 0, vN, vN]), some (.box (aT y9))]) (by kernel_rfl) (by kernel_rfl) (by simp) (by kernel_rfl) ⟨(by kernel_rfl), (by kernel_rfl), trivial⟩ ?_
          have h0 := (Option.some.inj hq).symm
          exact L_as (by kernel_rfl) (by kernel_rfl) (hn1 _ h0)
  · replace hq := cond_f hc1 hq
    refine L_exit (hB1 _ _ (L_seq ?_))
    refine L_regF hb [4] (T' := sl 41 [(4, c1 (.ptr 0 0 0))]) (σ' := [some (.box [vi s1.1, vL flT s1.2.1, vL flS s1.2.2.1]), some (.box [vi s1.1, vL flT s1.2.1, vL flS s1.2.2.1])]) (by kernel_rfl) ?_
    refine L_ret ?_
    have h0 := (Option.some.inj hq).symm
    replace h0 := he1 _ h0
    obtain rfl := h0
    exact end_ret (by kernel_rfl)
end Abs
end Go.Proofs.YtkmhhboihgckcaaGreatDoor
