/-
  Ops: Go functions as functions over plain values, with the proof that the code computes them; printed by gen.py.
-/
import Derived.Test.YtjfcgdablmjmnaaGreatDoorFnA
import Derived.Test.YtjfcgdablmjmnaaGreatDoorAbsN
namespace Go.Proofs.YtjfcgdablmjmnaaGreatDoor
namespace Abs
open Go.RowKit
variable {E : World → Prop} {E0 : Nat} {G : Nat → Option (List PV)}
set_option maxRecDepth 100000
set_option linter.unusedVariables false
set_option linter.unusedSimpArgs false
attribute [local irreducible] adv J KE KO mPut mSto mBool mFrm mDraw hedS unl Pure Ok sl loopO awpL awp asq asqD asqX asqF
noncomputable def g_l19_OpsLogic_2  (x_ : Val) : Option (Val) :=
  (g_ops_Unary 1 x_).bind fun y1 => some (y1.1)
theorem g_l19_OpsLogic_2_ok (hb : Base E E0 G) (he : ∀ w, E w → EnvV w)   (x_ : Val) : ∀ r_ : Val, g_l19_OpsLogic_2 x_ = some r_ →
 Pure E E0 Tryz.prog 21 [.agg (aV x_)] (.one (.agg (aV r_))) := by
 refine fnE hb Tryz.func21 rfl fun r_ hq => ?_
 refine callE hb 8 hq (g_ops_Unary_ok hb he 1 x_) fun y1 hy1 hq => ?_
 exact retE hb 12 (injO hq).symm
noncomputable def g_l19_OpsLogic_L1 (a_ : Val) (b_ : Val) (c_ : Val) (s1 : Int) : Option ((Int) ⊕ (Bool)) :=
  bif (decide (s1 < 2)) then (idx [4, 3] s1).bind fun x5 => (g_l19_OpsLogic_1 x5 a_ b_).bind fun y6 => (g_l19_OpsLogic_1 x5 b_ a_).bind fun y7 => (t_r07_Equal y6 y7).bind fun y8 => bif (!y8) then some (.inr (false)) else (g_l19_OpsLogic_1 x5 b_ c_).bind fun y10 => (g_l19_OpsLogic_1 x5 a_ y10).bind fun y11 => (g_l19_OpsLogic_1 x5 a_ b_).bind fun y12 => (g_l19_OpsLogic_1 x5 y12 c_).bind fun y13 => (t_r07_Equal y11 y13).bind fun y14 => bif (!y14) then some (.inr (false)) else (g_l19_OpsLogic_1 x5 a_ a_).bind fun y16 => (t_r07_Equal y16 a_).bind fun y17 => bif (!y17) then some (.inr (false)) else some (.inl (IntKind.i64.wrap (s1 + 1))) else (g_l19_OpsLogic_1 4 a_ b_).bind fun y19 => (g_l19_OpsLogic_2 y19).bind fun y20 => (g_l19_OpsLogic_2 a_).bind fun y21 => (g_l19_OpsLogic_2 b_).bind fun y22 => (g_l19_OpsLogic_1 3 y21 y22).bind fun y23 => (t_r07_Equal y20 y23).bind fun y24 => bif y24 then (g_l19_OpsLogic_2 a_).bind fun y26 => (g_l19_OpsLogic_2 y26).bind fun y27 => (t_r07_Equal y27 a_).bind fun y28 => bif y28 then (g_l19_awake).bind fun y30 => some (.inr (y30)) else some (.inr (false)) else some (.inr (false))
noncomputable def g_l19_OpsLogic  (a_ : Val) (b_ : Val) (c_ : Val) : Option (Bool) :=
  (g_l19_logical [a_, b_, c_]).bind fun y1 => bif (!y1) then (g_l19_awake).bind fun y3 => some (y3) else loopO (g_l19_OpsLogic_L1 a_ b_ c_) 0
theorem g_l19_OpsLogic_ok (hb : Base E E0 G) (he : ∀ w, E w → EnvV w)   (a_ : Val) (b_ : Val) (c_ : Val) : ∀ r_ : Bool, g_l19_OpsLogic a_ b_ c_ = some r_ →
 Pure E E0 Tryz.prog 6 [.agg (aV a_), .agg (aV b_), .agg (aV c_)] (c1 (vB r_)) := by
 refine fnE hb Tryz.func6 rfl fun r_ hq => ?_
 have hp := (g_l19_logical_ok hb he [a_, b_, c_])
 simp only [aV, aT, kind_mk, num_mk, str_mk, items_mk, keys_mk, Ty.kind_mk, Ty.elems_mk, Ty.names_mk, vL_one, vL_two, vL_three, vL_four, vL_five, vL_six] at hp
 refine callE hb 14 hq hp fun y1 hy1 hq => ?_
 refine ifE hb 2 [16] [] hq (fun hq _ => ?_) (fun hq _ => ?_)
 refine callE hb 3 hq (g_l19_awake_ok hb he ) fun y3 hy3 hq => ?_
 exact retE hb 2 (injO hq).symm
 refine cpE hb 18 [3, 4, 5, 7, 8, 18, 19, 20] (s' := ⟨none, [pick (bodyOf Tryz.f6) [1, 1, 1, 1, 0, 1, 0]], [(0, [pick (bodyOf Tryz.f6) [1, 1, 1, 1, 1]])], sl 96 [(3, pt 0), (4, pt 1), (5, pt 2), (7, c1 (.pv (.sc (.func (.func 19) #[] #[])))), (8, c1 (.pv (.sc (.func (.func 21) #[] #[])))), (18, c1 (.pv (.sl true 2 [pI .i64 4, pI .i64 3]))), (19, c1 (vi 2)), (20, c1 (vi 0))], [bx (aV a_), bx (aV b_), bx (aV c_)]⟩) ?_
 refine loopE hb 0 (g_l19_OpsLogic_L1 a_ b_ c_) (fun s1 => sl 96 [(3, pt 0), (4, pt 1), (5, pt 2), (7, c1 (.pv (.sc (.func (.func 19) #[] #[])))), (8, c1 (.pv (.sc (.func (.func 21) #[] #[])))), (18, c1 (.pv (.sl true 2 [pI .i64 4, pI .i64 3]))), (19, c1 (vi 2)), (20, c1 (vi s1))]) (fun s1 => [bx (aV a_), bx (aV b_), bx (aV c_)]) [3, 4, 5, 7, 8, 18, 19, 20] [] 3 (s0 := 0) ⟨(by kernel_rfl), (by kernel_rfl), (by kernel_rfl), trivial⟩ hq (fun s1 x1 hq hn1 he1 => ?_)
 refine ifE hb 5 [21] [] hq (fun hq _ => ?_) (fun hq _ => ?_)
 refine idxE hb (flI .i64) 6 hq fun x5 hx5 hq => ?_
 refine drawE hb mixed 4 41 [] ?_
 refine callE hb 4 hq (g_l19_OpsLogic_1_ok hb he x5 a_ b_) fun y6 hy6 hq => ?_
 refine callE hb 4 hq (g_l19_OpsLogic_1_ok hb he x5 b_ a_) fun y7 hy7 hq => ?_
 refine callE hb 0 hq (t_r07_Equal_ok hb he y6 y7) fun y8 hy8 hq => ?_
 refine ifE hb 2 [35, 36] [] hq (fun hq _ => ?_) (fun hq _ => ?_)
 refine cpE hb 33 [3, 4, 5, 7, 8, 18, 19, 20, 67] (s' := ⟨none, [pick (bodyOf Tryz.f6) [1, 1, 1, 1, 0, 1, 0, 0, 1, 1, 0, 0, 1, 1]], [(1, [pick (bodyOf Tryz.f6) [1, 1, 1, 1, 0, 1, 0, 0, 1, 1, 1], pick (bodyOf Tryz.f6) [1, 1, 1, 1, 0, 1, 0]]), (0, [pick (bodyOf Tryz.f6) [1, 1, 1, 1, 1]])], sl 96 [(3, pt 0), (4, pt 1), (5, pt 2), (7, c1 (.pv (.sc (.func (.func 19) #[] #[])))), (8, c1 (.pv (.sc (.func (.func 21) #[] #[])))), (18, c1 (.pv (.sl true 2 [pI .i64 4, pI .i64 3]))), (19, c1 (vi 2)), (20, c1 (vi s1)), (67, c1 (vB true))], [bx (aV a_), bx (aV b_), bx (aV c_)]⟩) ?_
 exact retE hb 5 (he1 _ (injO hq))
 refine callE hb 7 hq (g_l19_OpsLogic_1_ok hb he x5 b_ c_) fun y10 hy10 hq => ?_
 refine callE hb 0 hq (g_l19_OpsLogic_1_ok hb he x5 a_ y10) fun y11 hy11 hq => ?_
 refine callE hb 6 hq (g_l19_OpsLogic_1_ok hb he x5 a_ b_) fun y12 hy12 hq => ?_
 refine callE hb 1 hq (g_l19_OpsLogic_1_ok hb he x5 y12 c_) fun y13 hy13 hq => ?_
 refine callE hb 0 hq (t_r07_Equal_ok hb he y11 y13) fun y14 hy14 hq => ?_
 refine ifE hb 3 [56, 57, 58] [] hq (fun hq _ => ?_) (fun hq _ => ?_)
 refine cpE hb 11 [3, 4, 5, 7, 8, 18, 19, 20, 67] (s' := ⟨none, [pick (bodyOf Tryz.f6) [1, 1, 1, 1, 0, 1, 0, 0, 1, 1, 0, 0, 1, 1]], [(1, [pick (bodyOf Tryz.f6) [1, 1, 1, 1, 0, 1, 0, 0, 1, 1, 1], pick (bodyOf Tryz.f6) [1, 1, 1, 1, 0, 1, 0]]), (0, [pick (bodyOf Tryz.f6) [1, 1, 1, 1, 1]])], sl 96 [(3, pt 0), (4, pt 1), (5, pt 2), (7, c1 (.pv (.sc (.func (.func 19) #[] #[])))), (8, c1 (.pv (.sc (.func (.func 21) #[] #[])))), (18, c1 (.pv (.sl true 2 [pI .i64 4, pI .i64 3]))), (19, c1 (vi 2)), (20, c1 (vi s1)), (67, c1 (vB true))], [bx (aV a_), bx (aV b_), bx (aV c_)]⟩) ?_
 exact retE hb 5 (he1 _ (injO hq))
 refine callE hb 4 hq (g_l19_OpsLogic_1_ok hb he x5 a_ a_) fun y16 hy16 hq => ?_
 refine callE hb 2 hq (t_r07_Equal_ok hb he y16 a_) fun y17 hy17 hq => ?_
 refine cpE hb 3 [3, 4, 5, 7, 8, 18, 19, 20, 67] (s' := ⟨none, [pick (bodyOf Tryz.f6) [1, 1, 1, 1, 0, 1, 0, 0, 1, 1, 0, 0, 1, 1]], [(1, [pick (bodyOf Tryz.f6) [1, 1, 1, 1, 0, 1, 0, 0, 1, 1, 1], pick (bodyOf Tryz.f6) [1, 1, 1, 1, 0, 1, 0]]), (0, [pick (bodyOf Tryz.f6) [1, 1, 1, 1, 1]])], sl 96 [(3, pt 0), (4, pt 1), (5, pt 2), (7, c1 (.pv (.sc (.func (.func 19) #[] #[])))), (8, c1 (.pv (.sc (.func (.func 21) #[] #[])))), (18, c1 (.pv (.sl true 2 [pI .i64 4, pI .i64 3]))), (19, c1 (vi 2)), (20, c1 (vi s1)), (67, c1 (vB (!y17)))], [bx (aV a_), bx (aV b_), bx (aV c_)]⟩) ?_
 refine ifE hb 0 [67] [] hq (fun hq _ => ?_) (fun hq _ => ?_)
 exact retE hb 5 (he1 _ (injO hq))
 exact backE hb 7 [3, 4, 5, 7, 8, 18, 19, 20] [] 3 (hn1 _ (injO hq)) ⟨(by kernel_rfl), (by kernel_rfl), (by kernel_rfl), trivial⟩
 refine drawE hb mixed 3 22 [] ?_
 refine callE hb 4 hq (g_l19_OpsLogic_1_ok hb he 4 a_ b_) fun y19 hy19 hq => ?_
 refine callE hb 0 hq (g_l19_OpsLogic_2_ok hb he y19) fun y20 hy20 hq => ?_
 refine callE hb 3 hq (g_l19_OpsLogic_2_ok hb he a_) fun y21 hy21 hq => ?_
 refine callE hb 2 hq (g_l19_OpsLogic_2_ok hb he b_) fun y22 hy22 hq => ?_
 refine callE hb 0 hq (g_l19_OpsLogic_1_ok hb he 3 y21 y22) fun y23 hy23 hq => ?_
 refine callE hb 0 hq (t_r07_Equal_ok hb he y20 y23) fun y24 hy24 hq => ?_
 refine ifE hb 1 [83, 84] [] hq (fun hq _ => ?_) (fun hq _ => ?_)
 refine callE hb 3 hq (g_l19_OpsLogic_2_ok hb he a_) fun y26 hy26 hq => ?_
 refine callE hb 0 hq (g_l19_OpsLogic_2_ok hb he y26) fun y27 hy27 hq => ?_
 refine callE hb 2 hq (t_r07_Equal_ok hb he y27 a_) fun y28 hy28 hq => ?_
 refine ifE hb 2 [91, 92, 93] [] hq (fun hq _ => ?_) (fun hq _ => ?_)
 refine callE hb 0 hq (g_l19_awake_ok hb he ) fun y30 hy30 hq => ?_
 exact retE hb 3 (he1 _ (injO hq))
 exact retE hb 4 (he1 _ (injO hq))
 exact retE hb 14 (he1 _ (injO hq))
noncomputable def g_r07_number  (a_ : Int) (b_ : Int) : Option (Int) :=
  bif (decide (a_ < b_)) then some (-1) else bif (decide (a_ > b_)) then some (1) else some (0)
theorem g_r07_number_ok (hb : Base E E0 G) (he : ∀ w, E w → EnvV w)   (a_ : Int) (b_ : Int) : ∀ r_ : Int, g_r07_number a_ b_ = some r_ →
 Pure E E0 Tryz.prog 51 [.cell (vi a_), .cell (vi b_)] (c1 (vi r_)) := by
 refine fnE hb Tryz.func51 rfl fun r_ hq => ?_
 refine ifE hb 11 [7] [] hq (fun hq _ => ?_) (fun hq _ => ?_)
 exact retE hb 5 (injO hq).symm
 refine ifE hb 9 [10] [] hq (fun hq _ => ?_) (fun hq _ => ?_)
 exact retE hb 5 (injO hq).symm
 exact retE hb 6 (injO hq).symm
noncomputable def g_r07_Bytes  (a_ : ByteArray) (b_ : ByteArray) : Option (Int) :=
  bif (Op.bytesLess a_.toList b_.toList) then some (-1) else bif (!(Op.bytesLess a_.toList b_.toList || decide (a_ = b_))) then some (1) else some (0)
theorem g_r07_Bytes_ok (hb : Base E E0 G) (he : ∀ w, E w → EnvV w)   (a_ : ByteArray) (b_ : ByteArray) : ∀ r_ : Int, g_r07_Bytes a_ b_ = some r_ →
 Pure E E0 Tryz.prog 52 [.cell (vS a_), .cell (vS b_)] (c1 (vi r_)) := by
 refine fnE hb Tryz.func52 rfl fun r_ hq => ?_
 refine ifE hb 11 [7] [] hq (fun hq _ => ?_) (fun hq _ => ?_)
 exact retE hb 5 (injO hq).symm
 refine ifE hb 9 [10] [] hq (fun hq _ => ?_) (fun hq _ => ?_)
 exact retE hb 5 (injO hq).symm
 exact retE hb 6 (injO hq).symm
noncomputable def g_r07_Compare_L1 (r_r07_Compare : Val → Val → Option (Int)) (a_ : Val) (b_ : Val) (s1 : Int) : Option ((Int) ⊕ (Int)) :=
  bif (decide (s1 < (a_.items.length : Int))) then bif (decide (s1 < (b_.items.length : Int))) then bif (decide (s1 < (a_.keys.length : Int))) then bif (decide (s1 < (b_.keys.length : Int))) then (idx a_.keys s1).bind fun x11 => (idx b_.keys s1).bind fun x12 => bif (!decide (x11 = x12)) then (idx a_.keys s1).bind fun x14 => (idx b_.keys s1).bind fun x15 => (g_r07_Bytes x14 x15).bind fun y16 => some (.inr (y16)) else (idx a_.items s1).bind fun x17 => (idx b_.items s1).bind fun x18 => (r_r07_Compare x17 x18).bind fun y19 => bif (!decide (y19 = 0)) then some (.inr (y19)) else some (.inl (IntKind.i64.wrap (s1 + 1))) else (idx a_.items s1).bind fun x21 => (idx b_.items s1).bind fun x22 => (r_r07_Compare x21 x22).bind fun y23 => bif (!decide (y23 = 0)) then some (.inr (y23)) else some (.inl (IntKind.i64.wrap (s1 + 1))) else (idx a_.items s1).bind fun x25 => (idx b_.items s1).bind fun x26 => (r_r07_Compare x25 x26).bind fun y27 => bif (!decide (y27 = 0)) then some (.inr (y27)) else some (.inl (IntKind.i64.wrap (s1 + 1))) else (g_r07_number (a_.items.length : Int) (b_.items.length : Int)).bind fun y29 => some (.inr (y29)) else (g_r07_number (a_.items.length : Int) (b_.items.length : Int)).bind fun y30 => some (.inr (y30))
noncomputable def g_r07_Compare (r_r07_Compare : Val → Val → Option (Int)) (a_ : Val) (b_ : Val) : Option (Int) :=
  bif (!decide (a_.kind = b_.kind)) then (g_r07_number a_.kind b_.kind).bind fun y2 => some (y2) else bif (!decide (a_.num = b_.num)) then (g_r07_number a_.num b_.num).bind fun y4 => some (y4) else bif (!decide (a_.str = b_.str)) then (g_r07_Bytes a_.str b_.str).bind fun y6 => some (y6) else loopO (g_r07_Compare_L1 r_r07_Compare a_ b_) 0
theorem g_r07_Compare_ok (hb : Base E E0 G) (he : ∀ w, E w → EnvV w) (r_r07_Compare : Val → Val → Option (Int)) (hr_r07_Compare : ∀ (a0 : Val) (a1 : Val) (r : Int), r_r07_Compare a0 a1 = some r → Pure E E0 Tryz.prog 24 [.agg (aV a0), .agg (aV a1)] (c1 (vi r))) (a_ : Val) (b_ : Val) : ∀ r_ : Int, g_r07_Compare r_r07_Compare a_ b_ = some r_ →
 Pure E E0 Tryz.prog 24 [.agg (aV a_), .agg (aV b_)] (c1 (vi r_)) := by
 refine fnE hb Tryz.func24 rfl fun r_ hq => ?_
 refine ifE hb 15 [11] [] hq (fun hq _ => ?_) (fun hq _ => ?_)
 refine callE hb 7 hq (g_r07_number_ok hb he a_.kind b_.kind) fun y2 hy2 hq => ?_
 exact retE hb 2 (injO hq).symm
 refine ifE hb 11 [21] [] hq (fun hq _ => ?_) (fun hq _ => ?_)
 refine callE hb 7 hq (g_r07_number_ok hb he a_.num b_.num) fun y4 hy4 hq => ?_
 exact retE hb 2 (injO hq).symm
 refine ifE hb 11 [31] [] hq (fun hq _ => ?_) (fun hq _ => ?_)
 refine callE hb 7 hq (g_r07_Bytes_ok hb he a_.str b_.str) fun y6 hy6 hq => ?_
 exact retE hb 2 (injO hq).symm
 refine cpE hb 8 [2, 3, 5] (s' := ⟨none, [pick (bodyOf Tryz.f24) [1, 1, 1, 1, 0, 1, 0]], [(0, [pick (bodyOf Tryz.f24) [1, 1, 1, 1, 1]])], sl 108 [(2, pt 0), (3, pt 1), (5, c1 (vi 0))], [bx (aV a_), bx (aV b_)]⟩) ?_
 refine loopE hb 0 (g_r07_Compare_L1 r_r07_Compare a_ b_) (fun s1 => sl 108 [(2, pt 0), (3, pt 1), (5, c1 (vi s1))]) (fun s1 => [bx (aV a_), bx (aV b_)]) [2, 3, 5] [] 2 (s0 := 0) ⟨(by kernel_rfl), (by kernel_rfl), trivial⟩ hq (fun s1 x1 hq hn1 he1 => ?_)
 refine ifE hb 9 [41, 42] [] hq (fun hq _ => ?_) (fun hq _ => ?_)
 refine ifE hb 7 [47, 48] [] hq (fun hq _ => ?_) (fun hq _ => ?_)
 refine drawE hb mixed 6 23 [] ?_
 refine ifE hb 6 [55, 56] [] hq (fun hq _ => ?_) (fun hq _ => ?_)
 refine ifE hb 7 [61, 62, 63] [] hq (fun hq _ => ?_) (fun hq _ => ?_)
 refine idxE hb flS 3 hq fun x11 hx11 hq => ?_
 refine idxE hb flS 4 hq fun x12 hx12 hq => ?_
 refine cpE hb 5 [2, 3, 5, 75] (s' := ⟨none, [pick (bodyOf Tryz.f24) [1, 1, 1, 1, 0, 1, 0, 0, 1, 0, 0, 0, 1], pick (bodyOf Tryz.f24) [1, 1, 1, 1, 0, 1, 0, 0, 1, 0, 0, 1]], [(1, [pick (bodyOf Tryz.f24) [1, 1, 1, 1, 0, 1, 0, 0, 1, 1], pick (bodyOf Tryz.f24) [1, 1, 1, 1, 0, 1, 0]]), (0, [pick (bodyOf Tryz.f24) [1, 1, 1, 1, 1]])], sl 108 [(2, pt 0), (3, pt 1), (5, c1 (vi s1)), (75, c1 (vB (!decide (x11 = x12))))], [bx (aV a_), bx (aV b_)]⟩) ?_
 refine ifE hb 0 [75] [] hq (fun hq _ => ?_) (fun hq _ => ?_)
 refine drawE hb mixed 2 10 [] ?_
 refine idxE hb flS 3 hq fun x14 hx14 hq => ?_
 refine idxE hb flS 4 hq fun x15 hx15 hq => ?_
 refine callE hb 2 hq (g_r07_Bytes_ok hb he x14 x15) fun y16 hy16 hq => ?_
 exact retE hb 2 (he1 _ (injO hq))
 refine drawE hb mixed 3 10 [] ?_
 refine idxE hb flV 3 hq fun x17 hx17 hq => ?_
 refine idxE hb flV 4 hq fun x18 hx18 hq => ?_
 refine callE hb 2 hq (hr_r07_Compare x17 x18) fun y19 hy19 hq => ?_
 refine ifE hb 7 [99] [] hq (fun hq _ => ?_) (fun hq _ => ?_)
 exact retE hb 6 (he1 _ (injO hq))
 exact backE hb 8 [2, 3, 5] [] 2 (hn1 _ (injO hq)) ⟨(by kernel_rfl), (by kernel_rfl), trivial⟩
 refine drawE hb mixed 17 10 [] ?_
 refine idxE hb flV 3 hq fun x21 hx21 hq => ?_
 refine idxE hb flV 4 hq fun x22 hx22 hq => ?_
 refine callE hb 2 hq (hr_r07_Compare x21 x22) fun y23 hy23 hq => ?_
 refine cpE hb 3 [2, 3, 5, 6] (s' := ⟨none, [pick (bodyOf Tryz.f24) [1, 1, 1, 1, 0, 1, 0, 0, 1, 0, 0, 1, 1, 0], pick (bodyOf Tryz.f24) [1, 1, 1, 1, 0, 1, 0, 0, 1, 0, 0, 1, 1, 1]], [(1, [pick (bodyOf Tryz.f24) [1, 1, 1, 1, 0, 1, 0, 0, 1, 1], pick (bodyOf Tryz.f24) [1, 1, 1, 1, 0, 1, 0]]), (0, [pick (bodyOf Tryz.f24) [1, 1, 1, 1, 1]])], sl 108 [(2, pt 0), (3, pt 1), (5, c1 (vi s1)), (6, c1 (vi y23))], [bx (aV a_), bx (aV b_)]⟩) ?_
 refine ifE hb 4 [99] [] hq (fun hq _ => ?_) (fun hq _ => ?_)
 exact retE hb 6 (he1 _ (injO hq))
 exact backE hb 8 [2, 3, 5] [] 2 (hn1 _ (injO hq)) ⟨(by kernel_rfl), (by kernel_rfl), trivial⟩
 refine drawE hb mixed 24 10 [] ?_
 refine idxE hb flV 3 hq fun x25 hx25 hq => ?_
 refine idxE hb flV 4 hq fun x26 hx26 hq => ?_
 refine callE hb 2 hq (hr_r07_Compare x25 x26) fun y27 hy27 hq => ?_
 refine cpE hb 3 [2, 3, 5, 6] (s' := ⟨none, [pick (bodyOf Tryz.f24) [1, 1, 1, 1, 0, 1, 0, 0, 1, 0, 0, 1, 1, 0], pick (bodyOf Tryz.f24) [1, 1, 1, 1, 0, 1, 0, 0, 1, 0, 0, 1, 1, 1]], [(1, [pick (bodyOf Tryz.f24) [1, 1, 1, 1, 0, 1, 0, 0, 1, 1], pick (bodyOf Tryz.f24) [1, 1, 1, 1, 0, 1, 0]]), (0, [pick (bodyOf Tryz.f24) [1, 1, 1, 1, 1]])], sl 108 [(2, pt 0), (3, pt 1), (5, c1 (vi s1)), (6, c1 (vi y27))], [bx (aV a_), bx (aV b_)]⟩) ?_
 refine ifE hb 4 [99] [] hq (fun hq _ => ?_) (fun hq _ => ?_)
 exact retE hb 6 (he1 _ (injO hq))
 exact backE hb 8 [2, 3, 5] [] 2 (hn1 _ (injO hq)) ⟨(by kernel_rfl), (by kernel_rfl), trivial⟩
 refine callE hb 10 hq (g_r07_number_ok hb he (a_.items.length : Int) (b_.items.length : Int)) fun y29 hy29 hq => ?_
 exact retE hb 2 (he1 _ (injO hq))
 refine callE hb 17 hq (g_r07_number_ok hb he (a_.items.length : Int) (b_.items.length : Int)) fun y30 hy30 hq => ?_
 exact retE hb 2 (he1 _ (injO hq))
noncomputable def t_r07_Compare_step (rec : Val → Val → Option (Int)) (a : Val) (b : Val) : Option (Int) :=
  g_r07_Compare (fun a0 a1 => rec a0 a1) a b
noncomputable def t_r07_Compare (a0 : Val) (a1 : Val) : Option (Int) := tieF relV wfV t_r07_Compare_step a0 a1
theorem t_r07_Compare_ok (hb : Base E E0 G) (he : ∀ w, E w → EnvV w) (a0 : Val) (a1 : Val) (r : Int) (hq : t_r07_Compare a0 a1 = some r) : Pure E E0 Tryz.prog 24 [.agg (aV a0), .agg (aV a1)] (c1 (vi r)) :=
  tieF_ok (C := fun a b r => Pure E E0 Tryz.prog 24 [.agg (aV a), .agg (aV b)] (c1 (vi r))) (fun rec hr a b r hq => g_r07_Compare_ok hb he (fun a0 a1 => rec a0 a1) (fun a0 a1 r e => hr a0 a1 r e) a b r hq) a0 a1 r hq
noncomputable def g_l19_OpsCompares_J3  (z3 : Bool) : Option (Bool) :=
  some (z3)
noncomputable def g_l19_OpsCompares_J2 (a_ : Val) (b_ : Val) (z2 : Bool) : Option (Bool) :=
  bif z2 then some (false) else bif (!decide (a_.kind = 2)) then (g_l19_awake).bind fun y11 => some (y11) else bif (!decide (b_.kind = 2)) then (g_l19_awake).bind fun y13 => some (y13) else (g_ops_Binary 7 a_ b_).bind fun y14 => (g_ops_Binary 8 a_ b_).bind fun y15 => (g_ops_Binary 9 a_ b_).bind fun y16 => (g_ops_Binary 10 a_ b_).bind fun y17 => (t_r07_Compare a_ b_).bind fun y18 => bif (decide (y14.2 = 0)) then bif (decide (y15.2 = 0)) then bif (decide (y16.2 = 0)) then bif (decide (y17.2 = 0)) then (g_r07_Bool (decide (y18 < 0))).bind fun y23 => (t_r07_Equal y14.1 y23).bind fun y24 => bif y24 then (g_r07_Bool (decide (y18 ≤ 0))).bind fun y26 => (t_r07_Equal y15.1 y26).bind fun y27 => bif y27 then (g_r07_Bool (decide (y18 > 0))).bind fun y29 => (t_r07_Equal y16.1 y29).bind fun y30 => bif y30 then (g_r07_Bool (decide (y18 ≥ 0))).bind fun y32 => (t_r07_Equal y17.1 y32).bind fun y33 => bif y33 then (g_l19_awake).bind fun y35 => g_l19_OpsCompares_J3 y35 else g_l19_OpsCompares_J3 false else g_l19_OpsCompares_J3 false else g_l19_OpsCompares_J3 false else g_l19_OpsCompares_J3 false else g_l19_OpsCompares_J3 false else g_l19_OpsCompares_J3 false else g_l19_OpsCompares_J3 false else g_l19_OpsCompares_J3 false
noncomputable def g_l19_OpsCompares_J1 (a_ : Val) (b_ : Val) (y4 : Val × Int) (z1 : Bool) : Option (Bool) :=
  bif z1 then some (false) else (t_r07_Refines a_ b_).bind fun y36 => bif y36 then (g_r07_Bool false).bind fun y38 => (t_r07_Equal y4.1 y38).bind fun y39 => bif y39 then (g_l19_OpsCompares_J2 a_ b_) true else bif (decide (y4.1.kind = 6)) then (t_r07_Known a_).bind fun y42 => bif y42 then (t_r07_Known b_).bind fun y44 => (g_l19_OpsCompares_J2 a_ b_) y44 else (g_l19_OpsCompares_J2 a_ b_) false else (g_l19_OpsCompares_J2 a_ b_) false else bif (decide (y4.1.kind = 6)) then (t_r07_Known a_).bind fun y46 => bif y46 then (t_r07_Known b_).bind fun y48 => (g_l19_OpsCompares_J2 a_ b_) y48 else (g_l19_OpsCompares_J2 a_ b_) false else (g_l19_OpsCompares_J2 a_ b_) false
noncomputable def g_l19_OpsCompares  (a_ : Val) (b_ : Val) : Option (Bool) :=
  (g_l19_valid [a_, b_]).bind fun y1 => bif (!y1) then (g_l19_awake).bind fun y3 => some (y3) else (g_ops_Binary 5 a_ b_).bind fun y4 => (g_ops_Binary 6 a_ b_).bind fun y5 => bif (!decide (y4.2 = 0)) then some (false) else bif (!decide (y5.2 = 0)) then some (false) else (t_r07_Known a_).bind fun y49 => bif y49 then (t_r07_Known b_).bind fun y51 => bif y51 then (t_r07_Equal a_ b_).bind fun y53 => (g_r07_Bool y53).bind fun y54 => (t_r07_Equal y4.1 y54).bind fun y55 => bif (!y55) then (g_l19_OpsCompares_J1 a_ b_ y4) true else (t_r07_Equal a_ b_).bind fun y57 => (g_r07_Bool (!y57)).bind fun y58 => (t_r07_Equal y5.1 y58).bind fun y59 => (g_l19_OpsCompares_J1 a_ b_ y4) (!y59) else (g_l19_OpsCompares_J1 a_ b_ y4) false else (g_l19_OpsCompares_J1 a_ b_ y4) false
theorem g_l19_OpsCompares_ok (hb : Base E E0 G) (he : ∀ w, E w → EnvV w)   (a_ : Val) (b_ : Val) : ∀ r_ : Bool, g_l19_OpsCompares a_ b_ = some r_ →
 Pure E E0 Tryz.prog 7 [.agg (aV a_), .agg (aV b_)] (c1 (vB r_)) := by
 refine fnE hb Tryz.func7 rfl fun r_ hq => ?_
 have hp := (g_l19_valid_ok hb he [a_, b_])
 simp only [aV, aT, kind_mk, num_mk, str_mk, items_mk, keys_mk, Ty.kind_mk, Ty.elems_mk, Ty.names_mk, vL_one, vL_two, vL_three, vL_four, vL_five, vL_six] at hp
 refine callE hb 12 hq hp fun y1 hy1 hq => ?_
 refine ifE hb 2 [22] [] hq (fun hq _ => ?_) (fun hq _ => ?_)
 refine callE hb 3 hq (g_l19_awake_ok hb he ) fun y3 hy3 hq => ?_
 exact retE hb 2 (injO hq).symm
 refine callE hb 6 hq (g_ops_Binary_ok hb he 5 a_ b_) fun y4 hy4 hq => ?_
 refine callE hb 11 hq (g_ops_Binary_ok hb he 6 a_ b_) fun y5 hy5 hq => ?_
 refine ifE hb 13 [37, 38] [] hq (fun hq _ => ?_) (fun hq _ => ?_)
 exact retE hb 9 (injO hq).symm
 refine ifE hb 4 [40, 41] [] hq (fun hq _ => ?_) (fun hq _ => ?_)
 exact retE hb 5 (injO hq).symm
 refine joinE hb (g_l19_OpsCompares_J1 a_ b_ y4) (fun z1 => ⟨none, [pick (bodyOf Tryz.f7) [1, 1, 1, 1, 1, 0, 1], pick (bodyOf Tryz.f7) [1, 1, 1, 1, 1, 1]], [], sl 169 [(2, pt 0), (3, pt 1), (5, pt 2), (66, c1 (vB z1))], [bx (aV a_), bx (aV b_), bx (aV y4.1), bx (aV y5.1)]⟩) (x := r_) (fun z1 hq => ?_) (fun KJ1 => ?_)
 refine ifE hb 0 [66] [] hq (fun hq _ => ?_) (fun hq _ => ?_)
 exact retE hb 5 (injO hq).symm
 refine joinE hb (g_l19_OpsCompares_J2 a_ b_) (fun z2 => ⟨none, [pick (bodyOf Tryz.f7) [1, 1, 1, 1, 1, 1, 0, 1], pick (bodyOf Tryz.f7) [1, 1, 1, 1, 1, 1, 1]], [], sl 169 [(2, pt 0), (3, pt 1), (87, c1 (vB z2))], [bx (aV a_), bx (aV b_), bx (aV y4.1), bx (aV y5.1)]⟩) (x := r_) (fun z2 hq => ?_) (fun KJ2 => ?_)
 refine ifE hb 0 [87] [] hq (fun hq _ => ?_) (fun hq _ => ?_)
 exact retE hb 5 (injO hq).symm
 refine ifE hb 9 [90, 91] [] hq (fun hq _ => ?_) (fun hq _ => ?_)
 refine callE hb 8 hq (g_l19_awake_ok hb he ) fun y11 hy11 hq => ?_
 exact retE hb 2 (injO hq).symm
 refine ifE hb 5 [94, 95] [] hq (fun hq _ => ?_) (fun hq _ => ?_)
 refine callE hb 3 hq (g_l19_awake_ok hb he ) fun y13 hy13 hq => ?_
 exact retE hb 2 (injO hq).symm
 refine callE hb 6 hq (g_ops_Binary_ok hb he 7 a_ b_) fun y14 hy14 hq => ?_
 refine callE hb 11 hq (g_ops_Binary_ok hb he 8 a_ b_) fun y15 hy15 hq => ?_
 refine callE hb 11 hq (g_ops_Binary_ok hb he 9 a_ b_) fun y16 hy16 hq => ?_
 refine callE hb 11 hq (g_ops_Binary_ok hb he 10 a_ b_) fun y17 hy17 hq => ?_
 refine cpE hb 8 [2, 3, 9, 10, 11, 12, 13, 14, 15, 16] (s' := ⟨none, [pick (bodyOf Tryz.f7) [1, 1, 1, 1, 1, 1, 1, 1, 1, 1, 1, 1, 0], pick (bodyOf Tryz.f7) [1, 1, 1, 1, 1, 1, 1, 1, 1, 1, 1, 1, 1]], [], sl 169 [(2, pt 0), (3, pt 1), (9, pt 4), (10, c1 (vi y14.2)), (11, pt 5), (12, c1 (vi y15.2)), (13, pt 6), (14, c1 (vi y16.2)), (15, pt 7), (16, c1 (vi y17.2))], [bx (aV a_), bx (aV b_), bx (aV y4.1), bx (aV y5.1), bx (aV y14.1), bx (aV y15.1), bx (aV y16.1), bx (aV y17.1)]⟩) ?_
 refine callE hb 3 hq (t_r07_Compare_ok hb he a_ b_) fun y18 hy18 hq => ?_
 refine joinE hb g_l19_OpsCompares_J3 (fun z3 => ⟨none, [pick (bodyOf Tryz.f7) [1, 1, 1, 1, 1, 1, 1, 1, 1, 1, 1, 1, 1, 1]], [], sl 169 [(4, c1 (vB z3))], [bx (aV a_), bx (aV b_), bx (aV y4.1), bx (aV y5.1), bx (aV y14.1), bx (aV y15.1), bx (aV y16.1), bx (aV y17.1)]⟩) (x := r_) (fun z3 hq => ?_) (fun KJ3 => ?_)
 exact retE hb 0 (injO hq).symm
 refine drawE hb mixed 3 40 [] ?_
 refine ifE hb 3 [125, 126] [] hq (fun hq _ => ?_) (fun hq _ => ?_)
 refine ifE hb 4 [128, 129, 130] [] hq (fun hq _ => ?_) (fun hq _ => ?_)
 refine ifE hb 4 [132, 133, 134] [] hq (fun hq _ => ?_) (fun hq _ => ?_)
 refine ifE hb 4 [136, 137, 138] [] hq (fun hq _ => ?_) (fun hq _ => ?_)
 refine callE hb 3 hq (g_r07_Bool_ok hb he (decide (y18 < 0))) fun y23 hy23 hq => ?_
 refine callE hb 0 hq (t_r07_Equal_ok hb he y14.1 y23) fun y24 hy24 hq => ?_
 refine ifE hb 2 [143, 144, 145] [] hq (fun hq _ => ?_) (fun hq _ => ?_)
 refine callE hb 3 hq (g_r07_Bool_ok hb he (decide (y18 ≤ 0))) fun y26 hy26 hq => ?_
 refine callE hb 0 hq (t_r07_Equal_ok hb he y15.1 y26) fun y27 hy27 hq => ?_
 refine ifE hb 2 [150, 151, 152] [] hq (fun hq _ => ?_) (fun hq _ => ?_)
 refine callE hb 3 hq (g_r07_Bool_ok hb he (decide (y18 > 0))) fun y29 hy29 hq => ?_
 refine callE hb 0 hq (t_r07_Equal_ok hb he y16.1 y29) fun y30 hy30 hq => ?_
 refine ifE hb 2 [157, 158, 159] [] hq (fun hq _ => ?_) (fun hq _ => ?_)
 refine callE hb 3 hq (g_r07_Bool_ok hb he (decide (y18 ≥ 0))) fun y32 hy32 hq => ?_
 refine callE hb 1 hq (t_r07_Equal_ok hb he y17.1 y32) fun y33 hy33 hq => ?_
 refine ifE hb 2 [164, 165, 166] [] hq (fun hq _ => ?_) (fun hq _ => ?_)
 refine callE hb 0 hq (g_l19_awake_ok hb he ) fun y35 hy35 hq => ?_
 exact cpE hb 3 [4] (KJ3 y35 hq)
 exact cpE hb 4 [4] (KJ3 false hq)
 exact cpE hb 12 [4] (KJ3 false hq)
 exact cpE hb 19 [4] (KJ3 false hq)
 exact cpE hb 26 [4] (KJ3 false hq)
 exact cpE hb 33 [4] (KJ3 false hq)
 exact cpE hb 37 [4] (KJ3 false hq)
 exact cpE hb 41 [4] (KJ3 false hq)
 exact cpE hb 45 [4] (KJ3 false hq)
 refine drawE hb mixed 4 6 [] ?_
 refine callE hb 2 hq (t_r07_Refines_ok hb he a_ b_) fun y36 hy36 hq => ?_
 refine ifE hb 1 [69, 70] [] hq (fun hq _ => ?_) (fun hq _ => ?_)
 refine callE hb 1 hq (g_r07_Bool_ok hb he false) fun y38 hy38 hq => ?_
 refine callE hb 1 hq (t_r07_Equal_ok hb he y4.1 y38) fun y39 hy39 hq => ?_
 refine ifE hb 2 [73, 74, 75] [] hq (fun hq _ => ?_) (fun hq _ => ?_)
 exact cpE hb 13 [2, 3, 87] (KJ2 true hq)
 refine ifE hb 4 [78, 79] [] hq (fun hq _ => ?_) (fun hq _ => ?_)
 refine callE hb 1 hq (t_r07_Known_ok hb he a_) fun y42 hy42 hq => ?_
 refine ifE hb 2 [81, 82, 83] [] hq (fun hq _ => ?_) (fun hq _ => ?_)
 refine callE hb 1 hq (t_r07_Known_ok hb he b_) fun y44 hy44 hq => ?_
 exact cpE hb 3 [2, 3, 87] (KJ2 y44 hq)
 exact cpE hb 5 [2, 3, 87] (KJ2 false hq)
 exact cpE hb 9 [2, 3, 87] (KJ2 false hq)
 refine ifE hb 10 [78, 79] [] hq (fun hq _ => ?_) (fun hq _ => ?_)
 refine callE hb 1 hq (t_r07_Known_ok hb he a_) fun y46 hy46 hq => ?_
 refine ifE hb 2 [81, 82, 83] [] hq (fun hq _ => ?_) (fun hq _ => ?_)
 refine callE hb 1 hq (t_r07_Known_ok hb he b_) fun y48 hy48 hq => ?_
 exact cpE hb 3 [2, 3, 87] (KJ2 y48 hq)
 exact cpE hb 5 [2, 3, 87] (KJ2 false hq)
 exact cpE hb 9 [2, 3, 87] (KJ2 false hq)
 refine drawE hb mixed 4 21 [] ?_
 refine callE hb 1 hq (t_r07_Known_ok hb he a_) fun y49 hy49 hq => ?_
 refine ifE hb 1 [43, 44] [] hq (fun hq _ => ?_) (fun hq _ => ?_)
 refine callE hb 1 hq (t_r07_Known_ok hb he b_) fun y51 hy51 hq => ?_
 refine ifE hb 2 [46, 47, 48] [] hq (fun hq _ => ?_) (fun hq _ => ?_)
 refine callE hb 3 hq (t_r07_Equal_ok hb he a_ b_) fun y53 hy53 hq => ?_
 refine callE hb 0 hq (g_r07_Bool_ok hb he y53) fun y54 hy54 hq => ?_
 refine callE hb 0 hq (t_r07_Equal_ok hb he y4.1 y54) fun y55 hy55 hq => ?_
 refine ifE hb 2 [55, 56] [] hq (fun hq _ => ?_) (fun hq _ => ?_)
 exact cpE hb 12 [2, 3, 5, 66] (KJ1 true hq)
 refine callE hb 3 hq (t_r07_Equal_ok hb he a_ b_) fun y57 hy57 hq => ?_
 refine callE hb 1 hq (g_r07_Bool_ok hb he (!y57)) fun y58 hy58 hq => ?_
 refine callE hb 1 hq (t_r07_Equal_ok hb he y5.1 y58) fun y59 hy59 hq => ?_
 exact cpE hb 4 [2, 3, 5, 66] (KJ1 (!y59) hq)
 exact cpE hb 20 [2, 3, 5, 66] (KJ1 false hq)
 exact cpE hb 24 [2, 3, 5, 66] (KJ1 false hq)
noncomputable def g_ops_Entries_L1 (v_ : Val) (s1 : Int × List Val) : Option ((Int × List Val) ⊕ (List Val × List Val × Bool × Int)) :=
  bif (decide (s1.1 < (v_.items.length : Int))) then (g_value_Number s1.1).bind fun y4 => (app 80 s1.2 [y4]).bind fun l5 => some (.inl ((IntKind.i64.wrap (s1.1 + 1)), l5)) else (cpy v_).bind fun y6 => some (.inr (s1.2, y6.items, true, 0))
noncomputable def g_ops_Entries_L2 (v_ : Val) (s1 : Int × List Val) : Option ((Int × List Val) ⊕ (List Val × List Val × Bool × Int)) :=
  bif (decide (s1.1 < (v_.keys.length : Int))) then (idx v_.keys s1.1).bind fun x9 => (g_value_String x9).bind fun y10 => (app 80 s1.2 [y10]).bind fun l11 => some (.inl ((IntKind.i64.wrap (s1.1 + 1)), l11)) else (cpy v_).bind fun y12 => some (.inr (s1.2, y12.items, true, 0))
noncomputable def g_ops_Entries  (v_ : Val) : Option (List Val × List Val × Bool × Int) :=
  bif (decide (v_.kind = 6)) then some ([], [], false, 0) else bif (decide (v_.kind = 4)) then loopO (g_ops_Entries_L1 v_) (0, []) else bif (decide (v_.kind = 5)) then loopO (g_ops_Entries_L2 v_) (0, []) else some ([], [], false, 6)
theorem g_ops_Entries_ok (hb : Base E E0 G) (he : ∀ w, E w → EnvV w)   (v_ : Val) : ∀ r_ : List Val × List Val × Bool × Int, g_ops_Entries v_ = some r_ →
 Pure E E0 Tryz.prog 25 [.agg (aV v_)] (.tup [.cell (vL flV r_.1), .cell (vL flV r_.2.1), .cell (vB r_.2.2.1), .cell (vi r_.2.2.2)]) := by
 refine fnE hb Tryz.func25 rfl fun r_ hq => ?_
 refine ifE hb 24 [12, 13] [] hq (fun hq _ => ?_) (fun hq _ => ?_)
 exact retE hb 8 (injO hq).symm
 refine ifE hb 6 [14, 15] [] hq (fun hq _ => ?_) (fun hq _ => ?_)
 refine cpE hb 9 [1, 6, 18, 19] (s' := ⟨none, [pick (bodyOf Tryz.f25) [1, 1, 0, 1, 0, 1, 1, 1, 0, 1, 0]], [(1, []), (0, [pick (bodyOf Tryz.f25) [1, 1, 1]])], sl 47 [(1, pt 0), (6, c1 (vN)), (18, c1 (vi (v_.items.length : Int))), (19, c1 (vi 0))], [bx (aV v_)]⟩) ?_
 refine ownTE hb 0 6 5 ?_
 refine loopE hb 0 (g_ops_Entries_L1 v_) (fun s1 => sl 47 [(1, pt 0), (6, c1 (vO flV 1 s1.2)), (18, c1 (vi (v_.items.length : Int))), (19, c1 (vi s1.1))]) (fun s1 => [bx (aV v_), some (arO true flV.sz ((flV.f s1.2).length) (flV.f s1.2))]) [1, 6, 18, 19] [] 2 (s0 := (0, [])) ⟨(by kernel_rfl), (under_arO _ _ _ _ _), trivial⟩ hq (fun s1 x1 hq hn1 he1 => ?_)
 refine ifE hb 5 [20] [] hq (fun hq _ => ?_) (fun hq _ => ?_)
 refine callE hb 12 hq (g_value_Number_ok hb he s1.1) fun y4 hy4 hq => ?_
 refine appOwnE flV hb 1 1 true ((flV.f s1.2).length) (flV.one y4) hq fun l5 hl5 hq => ?_
 refine markE hb 7 1 true (sz := flV.sz) (fr := (flV.f s1.2).length) (cs := flV.f l5) (by kernel_rfl) (app_le flV hl5) ?_
 exact backE hb 0 [1, 6, 18, 19] [] 2 (hn1 _ (injO hq)) ⟨(by kernel_rfl), (under_arO _ _ _ _ _), trivial⟩
 refine callE hb 7 hq (copied_ops_g hb he v_) fun y6 hy6 hq => ?_
 refine cellTE hb 6 2 (c := vO flV 1 s1.2) (conv_own flV (nb := true) (id := 1) (xs := s1.2) (by kernel_rfl)) ?_
 exact retE hb 0 (he1 _ (injO hq))
 refine ifE hb 6 [28, 29] [] hq (fun hq _ => ?_) (fun hq _ => ?_)
 refine cpE hb 9 [1, 6, 31, 32, 33] (s' := ⟨none, [pick (bodyOf Tryz.f25) [1, 1, 0, 1, 0, 1, 1, 1, 1, 1, 0, 1, 0]], [(3, []), (0, [pick (bodyOf Tryz.f25) [1, 1, 1]])], sl 47 [(1, pt 0), (6, c1 (vN)), (31, c1 (vL flS v_.keys)), (32, c1 (vi (v_.keys.length : Int))), (33, c1 (vi 0))], [bx (aV v_)]⟩) ?_
 refine ownTE hb 0 6 5 ?_
 refine loopE hb 0 (g_ops_Entries_L2 v_) (fun s1 => sl 47 [(1, pt 0), (6, c1 (vO flV 1 s1.2)), (31, c1 (vL flS v_.keys)), (32, c1 (vi (v_.keys.length : Int))), (33, c1 (vi s1.1))]) (fun s1 => [bx (aV v_), some (arO true flV.sz ((flV.f s1.2).length) (flV.f s1.2))]) [1, 6, 31, 32, 33] [] 2 (s0 := (0, [])) ⟨(by kernel_rfl), (under_arO _ _ _ _ _), trivial⟩ hq (fun s1 x1 hq hn1 he1 => ?_)
 refine ifE hb 5 [34] [] hq (fun hq _ => ?_) (fun hq _ => ?_)
 refine idxE hb flS 6 hq fun x9 hx9 hq => ?_
 refine callE hb 6 hq (g_value_String_ok hb he x9) fun y10 hy10 hq => ?_
 refine appOwnE flV hb 1 1 true ((flV.f s1.2).length) (flV.one y10) hq fun l11 hl11 hq => ?_
 refine markE hb 7 1 true (sz := flV.sz) (fr := (flV.f s1.2).length) (cs := flV.f l11) (by kernel_rfl) (app_le flV hl11) ?_
 exact backE hb 0 [1, 6, 31, 32, 33] [] 2 (hn1 _ (injO hq)) ⟨(by kernel_rfl), (under_arO _ _ _ _ _), trivial⟩
 refine callE hb 7 hq (copied_ops_g hb he v_) fun y12 hy12 hq => ?_
 refine cellTE hb 6 2 (c := vO flV 1 s1.2) (conv_own flV (nb := true) (id := 1) (xs := s1.2) (by kernel_rfl)) ?_
 exact retE hb 0 (he1 _ (injO hq))
 exact retE hb 8 (injO hq).symm
noncomputable def g_r19_Entries_L1 (v_ : Val) (s1 : Int × List Val) : Option ((Int × List Val) ⊕ (List Val × List Val × Bool × Int)) :=
  bif (decide (s1.1 < (v_.items.length : Int))) then (idx v_.keys s1.1).bind fun x5 => (g_r07_String x5).bind fun y6 => (app 80 s1.2 [y6]).bind fun l7 => some (.inl ((IntKind.i64.wrap (s1.1 + 1)), l7)) else some (.inr (s1.2, v_.items, true, 0))
noncomputable def g_r19_Entries_L2 (v_ : Val) (s1 : Int × List Val) : Option ((Int × List Val) ⊕ (List Val × List Val × Bool × Int)) :=
  bif (decide (s1.1 < (v_.items.length : Int))) then (g_r07_Number s1.1).bind fun y9 => (app 80 s1.2 [y9]).bind fun l10 => some (.inl ((IntKind.i64.wrap (s1.1 + 1)), l10)) else some (.inr (s1.2, v_.items, true, 0))
noncomputable def g_r19_Entries  (v_ : Val) : Option (List Val × List Val × Bool × Int) :=
  bif (decide (v_.kind = 6)) then some ([], [], false, 0) else bif (!decide (v_.kind = 4)) then bif (!decide (v_.kind = 5)) then some ([], [], false, 6) else loopO (g_r19_Entries_L1 v_) (0, []) else loopO (g_r19_Entries_L2 v_) (0, [])
theorem g_r19_Entries_ok (hb : Base E E0 G) (he : ∀ w, E w → EnvV w)   (v_ : Val) : ∀ r_ : List Val × List Val × Bool × Int, g_r19_Entries v_ = some r_ →
 Pure E E0 Tryz.prog 26 [.agg (aV v_)] (.tup [.cell (vL flV r_.1), .cell (vL flV r_.2.1), .cell (vB r_.2.2.1), .cell (vi r_.2.2.2)]) := by
 refine fnE hb Tryz.func26 rfl fun r_ hq => ?_
 refine ifE hb 15 [10] [] hq (fun hq _ => ?_) (fun hq _ => ?_)
 exact retE hb 8 (injO hq).symm
 refine ifE hb 9 [13, 14] [] hq (fun hq hc2 => ?_) (fun hq hc2 => ?_)
 refine ifE hb 5 [17, 18] [] hq (fun hq _ => ?_) (fun hq _ => ?_)
 exact retE hb 8 (injO hq).symm
 refine cpE hb 12 [1, 6, 7] (s' := ⟨none, [pick (bodyOf Tryz.f26) [1, 1, 1, 1, 0, 1, 0]], [(0, [pick (bodyOf Tryz.f26) [1, 1, 1, 1, 1]])], sl 46 [(1, pt 0), (6, c1 (vN)), (7, c1 (vi 0))], [bx (aV v_)]⟩) ?_
 refine ownTE hb 0 6 5 ?_
 refine loopE hb 0 (g_r19_Entries_L1 v_) (fun s1 => sl 46 [(1, pt 0), (6, c1 (vO flV 1 s1.2)), (7, c1 (vi s1.1))]) (fun s1 => [bx (aV v_), some (arO true flV.sz ((flV.f s1.2).length) (flV.f s1.2))]) [1, 6, 7] [] 2 (s0 := (0, [])) ⟨(by kernel_rfl), (under_arO _ _ _ _ _), trivial⟩ hq (fun s1 x1 hq hn1 he1 => ?_)
 refine ifE hb 9 [23] [] hq (fun hq _ => ?_) (fun hq _ => ?_)
 refine knE hb 10 [28] [] (b := (decide (v_.kind = 4))) (v := false) (not_t hc2) ?_
 refine idxE hb flS 6 hq fun x5 hx5 hq => ?_
 refine callE hb 1 hq (g_r07_String_ok hb he x5) fun y6 hy6 hq => ?_
 refine appOwnE flV hb 1 1 true ((flV.f s1.2).length) (flV.one y6) hq fun l7 hl7 hq => ?_
 refine markE hb 8 1 true (sz := flV.sz) (fr := (flV.f s1.2).length) (cs := flV.f l7) (by kernel_rfl) (app_le flV hl7) ?_
 exact backE hb 0 [1, 6, 7] [] 2 (hn1 _ (injO hq)) ⟨(by kernel_rfl), (under_arO _ _ _ _ _), trivial⟩
 refine drawE hb mixed 3 4 [] ?_
 refine cellTE hb 9 2 (c := vO flV 1 s1.2) (conv_own flV (nb := true) (id := 1) (xs := s1.2) (by kernel_rfl)) ?_
 exact retE hb 0 (he1 _ (injO hq))
 refine cpE hb 17 [1, 6, 7] (s' := ⟨none, [pick (bodyOf Tryz.f26) [1, 1, 1, 1, 0, 1, 0]], [(0, [pick (bodyOf Tryz.f26) [1, 1, 1, 1, 1]])], sl 46 [(1, pt 0), (6, c1 (vN)), (7, c1 (vi 0))], [bx (aV v_)]⟩) ?_
 refine ownTE hb 0 6 5 ?_
 refine loopE hb 0 (g_r19_Entries_L2 v_) (fun s1 => sl 46 [(1, pt 0), (6, c1 (vO flV 1 s1.2)), (7, c1 (vi s1.1))]) (fun s1 => [bx (aV v_), some (arO true flV.sz ((flV.f s1.2).length) (flV.f s1.2))]) [1, 6, 7] [] 2 (s0 := (0, [])) ⟨(by kernel_rfl), (under_arO _ _ _ _ _), trivial⟩ hq (fun s1 x1 hq hn1 he1 => ?_)
 refine ifE hb 9 [23] [] hq (fun hq _ => ?_) (fun hq _ => ?_)
 refine knE hb 10 [28] [] (b := (decide (v_.kind = 4))) (v := true) (not_f hc2) ?_
 refine callE hb 4 hq (g_r07_Number_ok hb he s1.1) fun y9 hy9 hq => ?_
 refine appOwnE flV hb 1 1 true ((flV.f s1.2).length) (flV.one y9) hq fun l10 hl10 hq => ?_
 refine markE hb 8 1 true (sz := flV.sz) (fr := (flV.f s1.2).length) (cs := flV.f l10) (by kernel_rfl) (app_le flV hl10) ?_
 exact backE hb 0 [1, 6, 7] [] 2 (hn1 _ (injO hq)) ⟨(by kernel_rfl), (under_arO _ _ _ _ _), trivial⟩
 refine drawE hb mixed 3 4 [] ?_
 refine cellTE hb 9 2 (c := vO flV 1 s1.2) (conv_own flV (nb := true) (id := 1) (xs := s1.2) (by kernel_rfl)) ?_
 exact retE hb 0 (he1 _ (injO hq))
noncomputable def g_l19_same  (a_ : List Val) (b_ : List Val) : Option (Bool) :=
  (g_r07_List a_).bind fun y1 => (g_r07_List b_).bind fun y2 => (t_r07_Equal y1 y2).bind fun y3 => some (y3)
theorem g_l19_same_ok (hb : Base E E0 G) (he : ∀ w, E w → EnvV w)   (a_ : List Val) (b_ : List Val) : ∀ r_ : Bool, g_l19_same a_ b_ = some r_ →
 Pure E E0 Tryz.prog 27 [.cell (vL flV a_), .cell (vL flV b_)] (c1 (vB r_)) := by
 refine fnE hb Tryz.func27 rfl fun r_ hq => ?_
 refine callE hb 7 hq (g_r07_List_ok hb he a_) fun y1 hy1 hq => ?_
 refine callE hb 1 hq (g_r07_List_ok hb he b_) fun y2 hy2 hq => ?_
 refine callE hb 0 hq (t_r07_Equal_ok hb he y1 y2) fun y3 hy3 hq => ?_
 exact retE hb 2 (injO hq).symm
noncomputable def g_l19_OpsEntries  (v_ : Val) : Option (Bool) :=
  (g_l19_valid [v_]).bind fun y1 => bif (!y1) then (g_l19_awake).bind fun y3 => some (y3) else (g_ops_Entries v_).bind fun y4 => (g_r19_Entries v_).bind fun y5 => bif (decide (y4.2.2.2 = y5.2.2.2)) then bif (y4.2.2.1 == y5.2.2.1) then (g_l19_same y4.1 y5.1).bind fun y8 => bif y8 then (g_l19_same y4.2.1 y5.2.1).bind fun y10 => bif y10 then (g_l19_awake).bind fun y12 => some (y12) else some (false) else some (false) else some (false) else some (false)
theorem g_l19_OpsEntries_ok (hb : Base E E0 G) (he : ∀ w, E w → EnvV w)   (v_ : Val) : ∀ r_ : Bool, g_l19_OpsEntries v_ = some r_ →
 Pure E E0 Tryz.prog 8 [.agg (aV v_)] (c1 (vB r_)) := by
 refine fnE hb Tryz.func8 rfl fun r_ hq => ?_
 have hp := (g_l19_valid_ok hb he [v_])
 simp only [aV, aT, kind_mk, num_mk, str_mk, items_mk, keys_mk, Ty.kind_mk, Ty.elems_mk, Ty.names_mk, vL_one, vL_two, vL_three, vL_four, vL_five, vL_six] at hp
 refine callE hb 10 hq hp fun y1 hy1 hq => ?_
 refine ifE hb 2 [14] [] hq (fun hq _ => ?_) (fun hq _ => ?_)
 refine callE hb 3 hq (g_l19_awake_ok hb he ) fun y3 hy3 hq => ?_
 exact retE hb 2 (injO hq).symm
 refine callE hb 5 hq (g_ops_Entries_ok hb he v_) fun y4 hy4 hq => ?_
 refine callE hb 13 hq (g_r19_Entries_ok hb he v_) fun y5 hy5 hq => ?_
 refine ifE hb 16 [32, 33] [] hq (fun hq _ => ?_) (fun hq _ => ?_)
 refine ifE hb 5 [36, 37, 38] [] hq (fun hq _ => ?_) (fun hq _ => ?_)
 refine callE hb 2 hq (g_l19_same_ok hb he y4.1 y5.1) fun y8 hy8 hq => ?_
 refine ifE hb 2 [41, 42, 43] [] hq (fun hq _ => ?_) (fun hq _ => ?_)
 refine callE hb 2 hq (g_l19_same_ok hb he y4.2.1 y5.2.1) fun y10 hy10 hq => ?_
 refine ifE hb 2 [46, 47, 48] [] hq (fun hq _ => ?_) (fun hq _ => ?_)
 refine callE hb 0 hq (g_l19_awake_ok hb he ) fun y12 hy12 hq => ?_
 exact retE hb 3 (injO hq).symm
 exact retE hb 4 (injO hq).symm
 exact retE hb 9 (injO hq).symm
 exact retE hb 14 (injO hq).symm
 exact retE hb 19 (injO hq).symm
end Abs
end Go.Proofs.YtjfcgdablmjmnaaGreatDoor
