/-
  Instances: Go functions as functions over plain values, with the proof that the code computes them; printed by gen.py.
-/
import Derived.Test.YtodgepbihbcdbaaGreatDoorFnA
import Derived.Test.YtodgepbihbcdbaaGreatDoorAbsN
namespace Go.Proofs.YtodgepbihbcdbaaGreatDoor
namespace Abs
open Go.RowKit
variable {E : World → Prop} {E0 : Nat} {G : Nat → Option (List PV)}
set_option maxRecDepth 100000
set_option linter.unusedVariables false
set_option linter.unusedSimpArgs false
attribute [local irreducible] adv J KE KO mPut mSto mBool mFrm mDraw hedS unl Pure Ok sl loopO awpL awp asq asqD asqX asqF
noncomputable def g_l21_fill_L1 (r_l21_fill : Val → Val → Int → Option (Val)) (v_ : Val) (x_ : Val) (depth_ : Int) (s1 : Int × List Val) : Option ((Int × List Val) ⊕ (Val)) :=
  bif (decide (s1.1 < (v_.items.length : Int))) then bif (decide (depth_ > 0)) then (idx v_.items s1.1).bind fun x4 => (r_l21_fill x4 x_ (IntKind.i64.wrap (depth_ - 1))).bind fun y5 => (app 80 s1.2 [y5]).bind fun l6 => some (.inl ((IntKind.i64.wrap (s1.1 + 1)), l6)) else some (.inr (Val.mk v_.kind v_.num v_.str s1.2 v_.keys)) else some (.inr (Val.mk v_.kind v_.num v_.str s1.2 v_.keys))
noncomputable def g_l21_fill (r_l21_fill : Val → Val → Int → Option (Val)) (v_ : Val) (x_ : Val) (depth_ : Int) : Option (Val) :=
  bif (decide (v_.kind = 6)) then some (x_) else loopO (g_l21_fill_L1 r_l21_fill v_ x_ depth_) (0, [])
theorem g_l21_fill_ok (hb : Base E E0 G) (he : ∀ w, E w → EnvV w) (r_l21_fill : Val → Val → Int → Option (Val)) (hr_l21_fill : ∀ (a0 : Val) (a1 : Val) (a2 : Int) (r : Val), r_l21_fill a0 a1 a2 = some r → Pure E E0 Tryz.prog 21 [.agg (aV a0), .agg (aV a1), .cell (vi a2)] (.one (.agg (aV r)))) (v_ : Val) (x_ : Val) (depth_ : Int) : ∀ r_ : Val, g_l21_fill r_l21_fill v_ x_ depth_ = some r_ →
 Pure E E0 Tryz.prog 21 [.agg (aV v_), .agg (aV x_), .cell (vi depth_)] (.one (.agg (aV r_))) := by
 refine fnE hb Tryz.func21 rfl fun r_ hq => ?_
 refine ifE hb 13 [11] [] hq (fun hq _ => ?_) (fun hq _ => ?_)
 exact retE hb 6 (injO hq).symm
 refine ownSE hb 22 3 3 5 (cs := [vi v_.kind, vi v_.num, vS v_.str, vN, vL flS v_.keys]) (by kernel_rfl) ?_
 refine loopE hb 0 (g_l21_fill_L1 r_l21_fill v_ x_ depth_) (fun s1 => sl 48 [(2, c1 (vi depth_)), (3, pt 0), (4, pt 1), (6, pt 2), (7, pt 3), (8, c1 (vi s1.1))]) (fun s1 => [bx (aV v_), bx (aV x_), bx zV, bx [vi v_.kind, vi v_.num, vS v_.str, vO flV 4 s1.2, vL flS v_.keys], some (arO true flV.sz 0 (flV.f s1.2))]) [2, 3, 4, 6, 7, 8] [] 5 (s0 := (0, [])) ⟨(by kernel_rfl), (by kernel_rfl), (by kernel_rfl), (by kernel_rfl), (under_arO _ _ _ _ _), trivial⟩ hq (fun s1 x1 hq hn1 he1 => ?_)
 refine ifE hb 9 [26, 27] [] hq (fun hq _ => ?_) (fun hq _ => ?_)
 refine ifE hb 4 [29, 30] [] hq (fun hq _ => ?_) (fun hq _ => ?_)
 refine drawE hb mixed 4 12 [] ?_
 refine idxE hb flV 5 hq fun x4 hx4 hq => ?_
 refine callE hb 4 hq (hr_l21_fill x4 x_ (IntKind.i64.wrap (depth_ - 1))) fun y5 hy5 hq => ?_
 refine appOwnE flV hb 2 4 true 0 (flV.one y5) hq fun l6 hl6 hq => ?_
 refine cpE hb 4 [2, 3, 4, 6, 7, 8] (s' := ⟨none, [pick (bodyOf Tryz.f21) [1, 1, 1, 0, 1, 0, 0, 1, 1], pick (bodyOf Tryz.f21) [1, 1, 1, 0, 1, 0]], [(0, [pick (bodyOf Tryz.f21) [1, 1, 1, 1]])], sl 48 [(2, c1 (vi depth_)), (3, pt 0), (4, pt 1), (6, pt 2), (7, pt 3), (8, c1 (vi s1.1))], [bx (aV v_), bx (aV x_), bx zV, bx [vi v_.kind, vi v_.num, vS v_.str, vO flV 4 l6, vL flS v_.keys], some (arO true flV.sz 0 (flV.f l6))]⟩) ?_
 exact backE hb 5 [2, 3, 4, 6, 7, 8] [] 5 (hn1 _ (injO hq)) ⟨(by kernel_rfl), (by kernel_rfl), (by kernel_rfl), (by kernel_rfl), (under_arO _ _ _ _ _), trivial⟩
 refine markE hb 7 4 true (sz := flV.sz) (fr := 0) (cs := flV.f s1.2) (by kernel_rfl) (Nat.zero_le _) ?_
 refine cellSE hb 0 2 3 (cs := [vi v_.kind, vi v_.num, vS v_.str, vO flV 4 s1.2, vL flS v_.keys]) (c := vO flV 4 s1.2) (conv_own flV (nb := true) (id := 4) (xs := s1.2) (by kernel_rfl)) (by kernel_rfl) ?_
 exact retE hb 0 (he1 _ (injO hq))
 refine markE hb 11 4 true (sz := flV.sz) (fr := 0) (cs := flV.f s1.2) (by kernel_rfl) (Nat.zero_le _) ?_
 refine cellSE hb 0 2 3 (cs := [vi v_.kind, vi v_.num, vS v_.str, vO flV 4 s1.2, vL flS v_.keys]) (c := vO flV 4 s1.2) (conv_own flV (nb := true) (id := 4) (xs := s1.2) (by kernel_rfl)) (by kernel_rfl) ?_
 exact retE hb 0 (he1 _ (injO hq))
noncomputable def t_l21_fill_step (rec : Val → Val × Int → Option (Val)) (a : Val) (b : Val × Int) : Option (Val) :=
  g_l21_fill (fun a0 a1 a2 => rec a0 (a1, a2)) a b.1 b.2
noncomputable def t_l21_fill (a0 : Val) (a1 : Val) (a2 : Int) : Option (Val) := tieF relV wfV t_l21_fill_step a0 (a1, a2)
theorem t_l21_fill_ok (hb : Base E E0 G) (he : ∀ w, E w → EnvV w) (a0 : Val) (a1 : Val) (a2 : Int) (r : Val) (hq : t_l21_fill a0 a1 a2 = some r) : Pure E E0 Tryz.prog 21 [.agg (aV a0), .agg (aV a1), .cell (vi a2)] (.one (.agg (aV r))) :=
  tieF_ok (C := fun a b r => Pure E E0 Tryz.prog 21 [.agg (aV a), .agg (aV b.1), .cell (vi b.2)] (.one (.agg (aV r)))) (fun rec hr a b r hq => g_l21_fill_ok hb he (fun a0 a1 a2 => rec a0 (a1, a2)) (fun a0 a1 a2 r e => hr a0 (a1, a2) r e) a b.1 b.2 r hq) a0 (a1, a2) r hq
noncomputable def g_l21_InstancesRefines  (rr_ : Int) (v_ : Val) (x_ : Val) : Option (Bool) :=
  (g_l21_right v_).bind fun y1 => bif (!y1) then (g_l21_awake).bind fun y3 => some (y3) else (m_small x_ 20).bind fun y4 => bif (!y4) then (g_l21_awake).bind fun y6 => some (y6) else (m_checkE x_).bind fun y7 => bif (!decide (y7 = 0)) then (g_l21_awake).bind fun y9 => some (y9) else (g_instances_Keys rr_ v_).bind fun y10 => (t_l21_fill v_ x_ 32).bind fun y11 => bif (!decide (y10.2 = 0)) then (g_l21_awake).bind fun y13 => some (y13) else (m_checkE y11).bind fun y14 => bif (!decide (y14 = 0)) then (g_l21_awake).bind fun y16 => some (y16) else (g_instances_Keys rr_ y11).bind fun y17 => bif (decide (y17.2 = 0)) then (g_l21_keys y10.1 y17.1).bind fun y19 => bif y19 then (g_l21_awake).bind fun y21 => some (y21) else some (false) else some (false)
theorem g_l21_InstancesRefines_ok (hb : Base E E0 G) (he : ∀ w, E w → EnvV w)   (rr_ : Int) (v_ : Val) (x_ : Val) : ∀ r_ : Bool, g_l21_InstancesRefines rr_ v_ x_ = some r_ →
 Pure E E0 Tryz.prog 6 [.cell (vi rr_), .agg (aV v_), .agg (aV x_)] (c1 (vB r_)) := by
 refine fnE hb Tryz.func6 rfl fun r_ hq => ?_
 refine callE hb 10 hq (g_l21_right_ok hb he v_) fun y1 hy1 hq => ?_
 refine ifE hb 2 [14, 15] [] hq (fun hq _ => ?_) (fun hq _ => ?_)
 refine callE hb 13 hq (g_l21_awake_ok hb he ) fun y3 hy3 hq => ?_
 exact retE hb 2 (injO hq).symm
 refine callE hb 1 hq (rSmall_g hb he x_ 20) fun y4 hy4 hq => ?_
 refine ifE hb 3 [18, 19, 20] [] hq (fun hq _ => ?_) (fun hq _ => ?_)
 refine callE hb 8 hq (g_l21_awake_ok hb he ) fun y6 hy6 hq => ?_
 exact retE hb 2 (injO hq).symm
 refine callE hb 1 hq (rCheck_g hb he x_) fun y7 hy7 hq => ?_
 refine ifE hb 3 [23, 24] [] hq (fun hq _ => ?_) (fun hq _ => ?_)
 refine callE hb 3 hq (g_l21_awake_ok hb he ) fun y9 hy9 hq => ?_
 exact retE hb 2 (injO hq).symm
 refine callE hb 6 hq (g_instances_Keys_ok hb he rr_ v_) fun y10 hy10 hq => ?_
 refine cpE hb 7 [0, 4, 5, 7, 8] (s' := ⟨none, [pick (bodyOf Tryz.f6) [1, 1, 1, 0], pick (bodyOf Tryz.f6) [1, 1, 1, 1]], [], sl 59 [(0, c1 (vi rr_)), (4, pt 0), (5, pt 1), (7, c1 (vL flKeyG y10.1)), (8, c1 (vi y10.2))], [bx (aV v_), bx (aV x_)]⟩) ?_
 refine callE hb 3 hq (t_l21_fill_ok hb he v_ x_ 32) fun y11 hy11 hq => ?_
 refine ifE hb 9 [36, 37] [] hq (fun hq _ => ?_) (fun hq _ => ?_)
 refine callE hb 8 hq (g_l21_awake_ok hb he ) fun y13 hy13 hq => ?_
 exact retE hb 2 (injO hq).symm
 refine callE hb 1 hq (rCheck_g hb he y11) fun y14 hy14 hq => ?_
 refine ifE hb 3 [40, 41] [] hq (fun hq _ => ?_) (fun hq _ => ?_)
 refine callE hb 3 hq (g_l21_awake_ok hb he ) fun y16 hy16 hq => ?_
 exact retE hb 2 (injO hq).symm
 refine callE hb 6 hq (g_instances_Keys_ok hb he rr_ y11) fun y17 hy17 hq => ?_
 refine ifE hb 11 [50, 51] [] hq (fun hq _ => ?_) (fun hq _ => ?_)
 refine callE hb 2 hq (g_l21_keys_ok hb he y10.1 y17.1) fun y19 hy19 hq => ?_
 refine ifE hb 2 [54, 55, 56] [] hq (fun hq _ => ?_) (fun hq _ => ?_)
 refine callE hb 0 hq (g_l21_awake_ok hb he ) fun y21 hy21 hq => ?_
 exact retE hb 3 (injO hq).symm
 exact retE hb 4 (injO hq).symm
 exact retE hb 9 (injO hq).symm
noncomputable def g_slices_Equal_L1 (s1_ : List ByteArray) (s2_ : List ByteArray) (s1 : Int) : Option ((Int) ⊕ (Bool)) :=
  bif (decide (s1 < (s1_.length : Int))) then (idx s1_ s1).bind fun x3 => (idx s2_ s1).bind fun x4 => bif (!decide (x3 = x4)) then some (.inr (false)) else some (.inl (IntKind.i64.wrap (s1 + 1))) else some (.inr (true))
noncomputable def g_slices_Equal  (s1_ : List ByteArray) (s2_ : List ByteArray) : Option (Bool) :=
  bif (!decide ((s1_.length : Int) = (s2_.length : Int))) then some (false) else loopO (g_slices_Equal_L1 s1_ s2_) 0
theorem g_slices_Equal_ok (hb : Base E E0 G) (he : ∀ w, E w → EnvV w)   (s1_ : List ByteArray) (s2_ : List ByteArray) : ∀ r_ : Bool, g_slices_Equal s1_ s2_ = some r_ →
 Pure E E0 Tryz.prog 49 [.cell (vL flS s1_), .cell (vL flS s2_)] (c1 (vB r_)) := by
 refine fnE hb Tryz.func49 rfl fun r_ hq => ?_
 refine ifE hb 13 [10] [] hq (fun hq _ => ?_) (fun hq _ => ?_)
 exact retE hb 5 (injO hq).symm
 refine loopE hb 10 (g_slices_Equal_L1 s1_ s2_) (fun s1 => sl 26 [(0, c1 (vL flS s1_)), (1, c1 (vL flS s2_)), (12, c1 (vi (s1_.length : Int))), (13, c1 (vi s1))]) (fun s1 => []) [0, 1, 12, 13] [] 0 (s0 := 0) trivial hq (fun s1 x1 hq hn1 he1 => ?_)
 refine ifE hb 5 [14] [] hq (fun hq _ => ?_) (fun hq _ => ?_)
 refine drawE hb mixed 10 8 [] ?_
 refine idxE hb flS 2 hq fun x3 hx3 hq => ?_
 refine idxE hb flS 3 hq fun x4 hx4 hq => ?_
 refine ifE hb 4 [24] [] hq (fun hq _ => ?_) (fun hq _ => ?_)
 exact retE hb 5 (he1 _ (injO hq))
 exact backE hb 7 [0, 1, 12, 13] [] 0 (hn1 _ (injO hq)) trivial
 exact retE hb 6 (he1 _ (injO hq))
noncomputable def g_value_Equal_slices_EqualFunc_value_Equal_L1 (r_value_Equal : Val → Val → Option (Bool)) (s1_ : List Val) (s2_ : List Val) (s1 : Int) : Option ((Int) ⊕ (Bool)) :=
  bif (decide (s1 < (s1_.length : Int))) then (idx s1_ s1).bind fun x3 => (idx s2_ s1).bind fun x4 => (r_value_Equal x3 x4).bind fun y5 => bif (!y5) then some (.inr (false)) else some (.inl (IntKind.i64.wrap (s1 + 1))) else some (.inr (true))
noncomputable def g_value_Equal_slices_EqualFunc_value_Equal (r_value_Equal : Val → Val → Option (Bool)) (s1_ : List Val) (s2_ : List Val) : Option (Bool) :=
  bif (!decide ((s1_.length : Int) = (s2_.length : Int))) then some (false) else loopO (g_value_Equal_slices_EqualFunc_value_Equal_L1 r_value_Equal s1_ s2_) 0
theorem g_value_Equal_slices_EqualFunc_value_Equal_ok (hb : Base E E0 G) (he : ∀ w, E w → EnvV w) (r_value_Equal : Val → Val → Option (Bool)) (hr_value_Equal : ∀ (a0 : Val) (a1 : Val) (r : Bool), r_value_Equal a0 a1 = some r → Pure E E0 Tryz.prog 23 [.agg (aV a0), .agg (aV a1)] (c1 (vB r))) (s1_ : List Val) (s2_ : List Val) : ∀ r_ : Bool, g_value_Equal_slices_EqualFunc_value_Equal r_value_Equal s1_ s2_ = some r_ →
 Pure E E0 Tryz.prog 50 [.cell (vL flV s1_), .cell (vL flV s2_), .cell (.pv (.sc (.func (.func 23) #[] #[])))] (c1 (vB r_)) := by
 refine fnE hb Tryz.func50 rfl fun r_ hq => ?_
 refine ifE hb 13 [14] [] hq (fun hq _ => ?_) (fun hq _ => ?_)
 exact retE hb 5 (injO hq).symm
 refine loopE hb 10 (g_value_Equal_slices_EqualFunc_value_Equal_L1 r_value_Equal s1_ s2_) (fun s1 => sl 32 [(1, c1 (vL flV s2_)), (2, c1 (.pv (.sc (.func (.func 23) #[] #[])))), (15, c1 (vL flV s1_)), (16, c1 (vi (s1_.length : Int))), (17, c1 (vi s1))]) (fun s1 => []) [1, 2, 15, 16, 17] [] 0 (s0 := 0) trivial hq (fun s1 x1 hq hn1 he1 => ?_)
 refine ifE hb 5 [18] [] hq (fun hq _ => ?_) (fun hq _ => ?_)
 refine idxE hb flV 7 hq fun x3 hx3 hq => ?_
 refine idxE hb flV 9 hq fun x4 hx4 hq => ?_
 refine callE hb 9 hq (hr_value_Equal x3 x4) fun y5 hy5 hq => ?_
 refine ifE hb 2 [30] [] hq (fun hq _ => ?_) (fun hq _ => ?_)
 exact retE hb 5 (he1 _ (injO hq))
 exact backE hb 7 [1, 2, 15, 16, 17] [] 0 (hn1 _ (injO hq)) trivial
 exact retE hb 6 (he1 _ (injO hq))
noncomputable def g_value_Equal (r_value_Equal : Val → Val → Option (Bool)) (a_ : Val) (b_ : Val) : Option (Bool) :=
  bif (decide (a_.kind = b_.kind)) then bif (decide (a_.num = b_.num)) then bif (decide (a_.str = b_.str)) then (g_slices_Equal a_.keys b_.keys).bind fun y4 => bif y4 then (g_value_Equal_slices_EqualFunc_value_Equal r_value_Equal a_.items b_.items).bind fun y6 => some (y6) else some (false) else some (false) else some (false) else some (false)
theorem g_value_Equal_ok (hb : Base E E0 G) (he : ∀ w, E w → EnvV w) (r_value_Equal : Val → Val → Option (Bool)) (hr_value_Equal : ∀ (a0 : Val) (a1 : Val) (r : Bool), r_value_Equal a0 a1 = some r → Pure E E0 Tryz.prog 23 [.agg (aV a0), .agg (aV a1)] (c1 (vB r))) (a_ : Val) (b_ : Val) : ∀ r_ : Bool, g_value_Equal r_value_Equal a_ b_ = some r_ →
 Pure E E0 Tryz.prog 23 [.agg (aV a_), .agg (aV b_)] (c1 (vB r_)) := by
 refine fnE hb Tryz.func23 rfl fun r_ hq => ?_
 refine ifE hb 14 [9, 10] [] hq (fun hq _ => ?_) (fun hq _ => ?_)
 refine ifE hb 7 [15, 16, 17] [] hq (fun hq _ => ?_) (fun hq _ => ?_)
 refine ifE hb 7 [22, 23, 24] [] hq (fun hq _ => ?_) (fun hq _ => ?_)
 refine callE hb 4 hq (g_slices_Equal_ok hb he a_.keys b_.keys) fun y4 hy4 hq => ?_
 refine ifE hb 2 [29, 30, 31] [] hq (fun hq _ => ?_) (fun hq _ => ?_)
 refine callE hb 4 hq (g_value_Equal_slices_EqualFunc_value_Equal_ok hb he r_value_Equal hr_value_Equal a_.items b_.items) fun y6 hy6 hq => ?_
 exact retE hb 3 (injO hq).symm
 exact retE hb 8 (injO hq).symm
 exact retE hb 15 (injO hq).symm
 exact retE hb 22 (injO hq).symm
 exact retE hb 29 (injO hq).symm
noncomputable def t_value_Equal_step (rec : Val → Val → Option (Bool)) (a : Val) (b : Val) : Option (Bool) :=
  g_value_Equal (fun a0 a1 => rec a0 a1) a b
noncomputable def t_value_Equal (a0 : Val) (a1 : Val) : Option (Bool) := tieF relV wfV t_value_Equal_step a0 a1
theorem t_value_Equal_ok (hb : Base E E0 G) (he : ∀ w, E w → EnvV w) (a0 : Val) (a1 : Val) (r : Bool) (hq : t_value_Equal a0 a1 = some r) : Pure E E0 Tryz.prog 23 [.agg (aV a0), .agg (aV a1)] (c1 (vB r)) :=
  tieF_ok (C := fun a b r => Pure E E0 Tryz.prog 23 [.agg (aV a), .agg (aV b)] (c1 (vB r))) (fun rec hr a b r hq => g_value_Equal_ok hb he (fun a0 a1 => rec a0 a1) (fun a0 a1 r e => hr a0 a1 r e) a b r hq) a0 a1 r hq
noncomputable def g_l21_InstancesOnly_L1 (k_ : KeyG) (y7 : List KeyG × Int) (y8 : Val × Int) (s1 : Bool × Int) : Option ((Bool × Int) ⊕ (Bool)) :=
  bif (decide (s1.2 < (y7.1.length : Int))) then bif s1.1 then some (.inl (true, (IntKind.i64.wrap (s1.2 + 1)))) else (idx y7.1 s1.2).bind fun x14 => some (.inl ((decide ((x14.kind : Int) = k_.kind) && (decide ((x14.num : Int) = k_.num) && (decide (x14.str = k_.str) && true))), (IntKind.i64.wrap (s1.2 + 1)))) else bif (!s1.1) then bif (decide (y8.2 = 16)) then (g_l21_awake).bind fun y17 => some (.inr (y17)) else some (.inr (false)) else bif (!decide (y8.2 = 0)) then bif (decide (y8.2 = 4)) then (g_l21_awake).bind fun y20 => some (.inr (y20)) else bif (decide (y8.2 = 14)) then (g_l21_awake).bind fun y22 => some (.inr (y22)) else some (.inr (false)) else bif (decide (k_.kind = 2)) then (g_value_Get y8.1 (⟨#[101, 97, 99, 104]⟩ : ByteArray)).bind fun y24 => (g_value_Get y24.1 (⟨#[107, 101, 121]⟩ : ByteArray)).bind fun y25 => bif y25.2 then (g_l21_text k_.str).bind fun y27 => (t_value_Equal y25.1 y27).bind fun y28 => bif y28 then (g_l21_awake).bind fun y30 => some (.inr (y30)) else some (.inr (false)) else some (.inr (false)) else bif (decide (k_.kind = 1)) then (g_value_Get y8.1 (⟨#[99, 111, 117, 110, 116]⟩ : ByteArray)).bind fun y32 => (g_value_Get y32.1 (⟨#[105, 110, 100, 101, 120]⟩ : ByteArray)).bind fun y33 => bif y33.2 then (g_l21_number k_.num).bind fun y35 => (t_value_Equal y33.1 y35).bind fun y36 => bif y36 then (g_l21_awake).bind fun y38 => some (.inr (y38)) else some (.inr (false)) else some (.inr (false)) else bif (decide (y8.1.kind = 5)) then bif (decide ((y8.1.keys.length : Int) = 0)) then (g_l21_awake).bind fun y41 => some (.inr (y41)) else some (.inr (false)) else some (.inr (false))
noncomputable def g_l21_InstancesOnly  (rr_ : Int) (v_ : Val) (k_ : KeyG) : Option (Bool) :=
  (m_small v_ 200).bind fun y1 => bif (!y1) then (g_l21_awake).bind fun y3 => some (y3) else (m_checkE v_).bind fun y4 => bif (!decide (y4 = 0)) then (g_l21_awake).bind fun y6 => some (y6) else (g_instances_Keys rr_ v_).bind fun y7 => (g_instances_Scope rr_ v_ k_).bind fun y8 => bif (!decide (y7.2 = 0)) then bif (decide (y8.2 = y7.2)) then (g_l21_awake).bind fun y11 => some (y11) else some (false) else loopO (g_l21_InstancesOnly_L1 k_ y7 y8) (false, 0)
theorem g_l21_InstancesOnly_ok (hb : Base E E0 G) (he : ∀ w, E w → EnvV w)   (rr_ : Int) (v_ : Val) (k_ : KeyG) : ∀ r_ : Bool, g_l21_InstancesOnly rr_ v_ k_ = some r_ →
 Pure E E0 Tryz.prog 7 [.cell (vi rr_), .agg (aV v_), .agg [vi k_.kind, vi k_.num, vS k_.str]] (c1 (vB r_)) := by
 refine fnE hb Tryz.func7 rfl fun r_ hq => ?_
 refine callE hb 10 hq (rSmall_g hb he v_ 200) fun y1 hy1 hq => ?_
 refine ifE hb 2 [23, 24] [] hq (fun hq _ => ?_) (fun hq _ => ?_)
 refine callE hb 8 hq (g_l21_awake_ok hb he ) fun y3 hy3 hq => ?_
 exact retE hb 2 (injO hq).symm
 refine callE hb 1 hq (rCheck_g hb he v_) fun y4 hy4 hq => ?_
 refine ifE hb 3 [27, 28] [] hq (fun hq _ => ?_) (fun hq _ => ?_)
 refine callE hb 3 hq (g_l21_awake_ok hb he ) fun y6 hy6 hq => ?_
 exact retE hb 2 (injO hq).symm
 refine callE hb 6 hq (g_instances_Keys_ok hb he rr_ v_) fun y7 hy7 hq => ?_
 refine callE hb 11 hq (g_instances_Scope_ok hb he rr_ v_ k_) fun y8 hy8 hq => ?_
 refine ifE hb 13 [44] [] hq (fun hq _ => ?_) (fun hq _ => ?_)
 refine cpE hb 2 [8, 10] (s' := ⟨none, [pick (bodyOf Tryz.f7) [1, 1, 1, 1, 0, 1, 0, 0], pick (bodyOf Tryz.f7) [1, 1, 1, 1, 0, 1, 0, 1], pick (bodyOf Tryz.f7) [1, 1, 1, 1, 1]], [], sl 152 [(8, c1 (vi y7.2)), (10, c1 (vi y8.2))], [bx (aV v_), bx [vi k_.kind, vi k_.num, vS k_.str], bx (aV y8.1)]⟩) ?_
 refine ifE hb 5 [47, 48] [] hq (fun hq _ => ?_) (fun hq _ => ?_)
 refine callE hb 0 hq (g_l21_awake_ok hb he ) fun y11 hy11 hq => ?_
 exact retE hb 3 (injO hq).symm
 exact retE hb 4 (injO hq).symm
 refine cpE hb 3 [5, 7, 9, 10] (s' := ⟨none, [pick (bodyOf Tryz.f7) [1, 1, 1, 1, 1, 0], pick (bodyOf Tryz.f7) [1, 1, 1, 1, 1, 1]], [], sl 152 [(5, pt 1), (7, c1 (vL flKeyG y7.1)), (9, pt 2), (10, c1 (vi y8.2))], [bx (aV v_), bx [vi k_.kind, vi k_.num, vS k_.str], bx (aV y8.1)]⟩) ?_
 refine loopE hb 9 (g_l21_InstancesOnly_L1 k_ y7 y8) (fun s1 => sl 152 [(5, pt 1), (7, c1 (vL flKeyG y7.1)), (9, pt 2), (10, c1 (vi y8.2)), (11, c1 (vB s1.1)), (12, c1 (vi s1.2))]) (fun s1 => [none, bx [vi k_.kind, vi k_.num, vS k_.str], bx (aV y8.1)]) [5, 7, 9, 10, 11, 12] [0] 3 (s0 := (false, 0)) ⟨rfl, (by kernel_rfl), (by kernel_rfl), trivial⟩ hq (fun s1 x1 hq hn1 he1 => ?_)
 refine ifE hb 8 [54] [] hq (fun hq _ => ?_) (fun hq _ => ?_)
 refine drawE hb mixed 4 7 [] ?_
 refine ifE hb 2 [11, 57, 58] [] hq (fun hq _ => ?_) (fun hq _ => ?_)
 exact backE hb 16 [5, 7, 9, 10, 11, 12] [] 3 (hn1 _ (injO hq)) ⟨rfl, (by kernel_rfl), (by kernel_rfl), trivial⟩
 refine idxE hb flKeyG 2 hq fun x14 hx14 hq => ?_
 exact backE hb 13 [5, 7, 9, 10, 11, 12] [] 3 (hn1 _ (injO hq)) ⟨rfl, (by kernel_rfl), (by kernel_rfl), trivial⟩
 refine ifE hb 8 [67, 68] [] hq (fun hq hc15 => ?_) (fun hq hc15 => ?_)
 refine knE hb 9 [11, 66, 72, 73] [] (b := s1.1) (v := false) (not_t hc15) ?_
 refine ifE hb 4 [75, 76, 77] [] hq (fun hq _ => ?_) (fun hq _ => ?_)
 refine callE hb 12 hq (g_l21_awake_ok hb he ) fun y17 hy17 hq => ?_
 exact retE hb 3 (he1 _ (injO hq))
 exact retE hb 16 (he1 _ (injO hq))
 refine ifE hb 4 [70, 71] [] hq (fun hq _ => ?_) (fun hq _ => ?_)
 refine knE hb 5 [11, 66, 72, 73] [] (b := s1.1) (v := true) (not_f hc15) ?_
 refine ifE hb 11 [82, 83, 84] [] hq (fun hq _ => ?_) (fun hq _ => ?_)
 refine callE hb 5 hq (g_l21_awake_ok hb he ) fun y20 hy20 hq => ?_
 exact retE hb 3 (he1 _ (injO hq))
 refine ifE hb 5 [86, 87, 88, 89] [] hq (fun hq _ => ?_) (fun hq _ => ?_)
 refine callE hb 0 hq (g_l21_awake_ok hb he ) fun y22 hy22 hq => ?_
 exact retE hb 3 (he1 _ (injO hq))
 exact retE hb 4 (he1 _ (injO hq))
 refine ifE hb 9 [94] [] hq (fun hq _ => ?_) (fun hq _ => ?_)
 refine callE hb 4 hq (g_value_Get_ok hb he y8.1 (⟨#[101, 97, 99, 104]⟩ : ByteArray)) fun y24 hy24 hq => ?_
 refine callE hb 10 hq (g_value_Get_ok hb he y24.1 (⟨#[107, 101, 121]⟩ : ByteArray)) fun y25 hy25 hq => ?_
 refine drawE hb mixed 8 6 [] ?_
 refine ifE hb 2 [16, 104, 105, 106] [] hq (fun hq _ => ?_) (fun hq _ => ?_)
 refine callE hb 3 hq (g_l21_text_ok hb he k_.str) fun y27 hy27 hq => ?_
 refine callE hb 1 hq (t_value_Equal_ok hb he y25.1 y27) fun y28 hy28 hq => ?_
 refine ifE hb 2 [111, 112, 113] [] hq (fun hq _ => ?_) (fun hq _ => ?_)
 refine callE hb 0 hq (g_l21_awake_ok hb he ) fun y30 hy30 hq => ?_
 exact retE hb 3 (he1 _ (injO hq))
 exact retE hb 4 (he1 _ (injO hq))
 exact retE hb 12 (he1 _ (injO hq))
 refine ifE hb 9 [118] [] hq (fun hq _ => ?_) (fun hq _ => ?_)
 refine callE hb 4 hq (g_value_Get_ok hb he y8.1 (⟨#[99, 111, 117, 110, 116]⟩ : ByteArray)) fun y32 hy32 hq => ?_
 refine callE hb 10 hq (g_value_Get_ok hb he y32.1 (⟨#[105, 110, 100, 101, 120]⟩ : ByteArray)) fun y33 hy33 hq => ?_
 refine cpE hb 8 [5, 19, 20] (s' := ⟨none, [pick (bodyOf Tryz.f7) [1, 1, 1, 1, 1, 1, 1, 1, 1, 0, 1, 0, 1, 1, 0], pick (bodyOf Tryz.f7) [1, 1, 1, 1, 1, 1, 1, 1, 1, 0, 1, 0, 1, 1, 1], pick (bodyOf Tryz.f7) [1, 1, 1, 1, 1, 1, 1, 1, 1, 1]], [], sl 152 [(5, pt 1), (19, pt 4), (20, c1 (vB y33.2))], [none, bx [vi k_.kind, vi k_.num, vS k_.str], bx (aV y8.1), bx (aV y32.1), bx (aV y33.1)]⟩) ?_
 refine drawE hb mixed 0 6 [] ?_
 refine ifE hb 2 [20, 129, 130] [] hq (fun hq _ => ?_) (fun hq _ => ?_)
 refine callE hb 3 hq (g_l21_number_ok hb he k_.num) fun y35 hy35 hq => ?_
 refine callE hb 1 hq (t_value_Equal_ok hb he y33.1 y35) fun y36 hy36 hq => ?_
 refine ifE hb 2 [135, 136, 137] [] hq (fun hq _ => ?_) (fun hq _ => ?_)
 refine callE hb 0 hq (g_l21_awake_ok hb he ) fun y38 hy38 hq => ?_
 exact retE hb 3 (he1 _ (injO hq))
 exact retE hb 4 (he1 _ (injO hq))
 exact retE hb 12 (he1 _ (injO hq))
 refine ifE hb 8 [142, 143] [] hq (fun hq _ => ?_) (fun hq _ => ?_)
 refine ifE hb 6 [147, 148, 149] [] hq (fun hq _ => ?_) (fun hq _ => ?_)
 refine callE hb 0 hq (g_l21_awake_ok hb he ) fun y41 hy41 hq => ?_
 exact retE hb 3 (he1 _ (injO hq))
 exact retE hb 4 (he1 _ (injO hq))
 exact retE hb 10 (he1 _ (injO hq))
noncomputable def g_cmp_Or_L1 (vals_ : List Int) (s1 : Int) : Option ((Int) ⊕ (Int)) :=
  bif (decide (s1 < (vals_.length : Int))) then (idx vals_ s1).bind fun x2 => bif (!decide (x2 = 0)) then some (.inr (x2)) else some (.inl (IntKind.i64.wrap (s1 + 1))) else some (.inr (0))
noncomputable def g_cmp_Or  (vals_ : List Int) : Option (Int) :=
  loopO (g_cmp_Or_L1 vals_) 0
theorem g_cmp_Or_ok (hb : Base E E0 G) (he : ∀ w, E w → EnvV w)   (vals_ : List Int) : ∀ r_ : Int, g_cmp_Or vals_ = some r_ →
 Pure E E0 Tryz.prog 53 [.cell (vL (flI .i64) vals_)] (c1 (vi r_)) := by
 refine fnE hb Tryz.func53 rfl fun r_ hq => ?_
 refine loopE hb 16 (g_cmp_Or_L1 vals_) (fun s1 => sl 18 [(3, c1 (vi 0)), (6, c1 (vL (flI .i64) vals_)), (7, c1 (vi (vals_.length : Int))), (8, c1 (vi s1))]) (fun s1 => []) [3, 6, 7, 8] [] 0 (s0 := 0) trivial hq (fun s1 x1 hq hn1 he1 => ?_)
 refine ifE hb 5 [9] [] hq (fun hq _ => ?_) (fun hq _ => ?_)
 refine idxE hb (flI .i64) 6 hq fun x2 hx2 hq => ?_
 refine ifE hb 9 [14] [] hq (fun hq _ => ?_) (fun hq _ => ?_)
 exact retE hb 6 (he1 _ (injO hq))
 exact backE hb 7 [3, 6, 7, 8] [] 0 (hn1 _ (injO hq)) trivial
 exact retE hb 7 (he1 _ (injO hq))
noncomputable def g_cmp_isNaN_int  (x_ : Int) : Option (Bool) :=
  some (!decide (x_ = x_))
theorem g_cmp_isNaN_int_ok (hb : Base E E0 G) (he : ∀ w, E w → EnvV w)   (x_ : Int) : ∀ r_ : Bool, g_cmp_isNaN_int x_ = some r_ →
 Pure E E0 Tryz.prog 78 [.cell (vi x_)] (c1 (vB r_)) := by
 refine fnE hb Tryz.func78 rfl fun r_ hq => ?_
 exact retE hb 11 (injO hq).symm
noncomputable def g_cmp_Compare  (x_ : Int) (y_ : Int) : Option (Int) :=
  (g_cmp_isNaN_int x_).bind fun y1 => (g_cmp_isNaN_int y_).bind fun y2 => bif y1 then bif y2 then some (0) else some (-1) else bif y2 then some (1) else bif (decide (x_ < y_)) then some (-1) else bif (decide (x_ > y_)) then some (1) else some (0)
theorem g_cmp_Compare_ok (hb : Base E E0 G) (he : ∀ w, E w → EnvV w)   (x_ : Int) (y_ : Int) : ∀ r_ : Int, g_cmp_Compare x_ y_ = some r_ →
 Pure E E0 Tryz.prog 56 [.cell (vi x_), .cell (vi y_)] (c1 (vi r_)) := by
 refine fnE hb Tryz.func56 rfl fun r_ hq => ?_
 refine callE hb 7 hq (g_cmp_isNaN_int_ok hb he x_) fun y1 hy1 hq => ?_
 refine callE hb 5 hq (g_cmp_isNaN_int_ok hb he y_) fun y2 hy2 hq => ?_
 refine ifE hb 7 [5, 8, 11] [] hq (fun hq _ => ?_) (fun hq _ => ?_)
 refine ifE hb 6 [6, 10, 12] [] hq (fun hq _ => ?_) (fun hq _ => ?_)
 exact retE hb 5 (injO hq).symm
 exact retE hb 6 (injO hq).symm
 refine ifE hb 7 [6, 10, 13] [] hq (fun hq _ => ?_) (fun hq _ => ?_)
 exact retE hb 5 (injO hq).symm
 refine ifE hb 9 [16] [] hq (fun hq _ => ?_) (fun hq _ => ?_)
 exact retE hb 5 (injO hq).symm
 refine ifE hb 9 [19] [] hq (fun hq _ => ?_) (fun hq _ => ?_)
 exact retE hb 5 (injO hq).symm
 exact retE hb 6 (injO hq).symm
noncomputable def g_cmp_isNaN_KeyKind  (x_ : Int) : Option (Bool) :=
  some (!decide (x_ = x_))
theorem g_cmp_isNaN_KeyKind_ok (hb : Base E E0 G) (he : ∀ w, E w → EnvV w)   (x_ : Int) : ∀ r_ : Bool, g_cmp_isNaN_KeyKind x_ = some r_ →
 Pure E E0 Tryz.prog 98 [.cell (vi x_)] (c1 (vB r_)) := by
 refine fnE hb Tryz.func98 rfl fun r_ hq => ?_
 exact retE hb 11 (injO hq).symm
noncomputable def g_cmp_Compare_KeyKind  (x_ : Int) (y_ : Int) : Option (Int) :=
  (g_cmp_isNaN_KeyKind x_).bind fun y1 => (g_cmp_isNaN_KeyKind y_).bind fun y2 => bif y1 then bif y2 then some (0) else some (-1) else bif y2 then some (1) else bif (decide (x_ < y_)) then some (-1) else bif (decide (x_ > y_)) then some (1) else some (0)
theorem g_cmp_Compare_KeyKind_ok (hb : Base E E0 G) (he : ∀ w, E w → EnvV w)   (x_ : Int) (y_ : Int) : ∀ r_ : Int, g_cmp_Compare_KeyKind x_ y_ = some r_ →
 Pure E E0 Tryz.prog 77 [.cell (vi x_), .cell (vi y_)] (c1 (vi r_)) := by
 refine fnE hb Tryz.func77 rfl fun r_ hq => ?_
 refine callE hb 7 hq (g_cmp_isNaN_KeyKind_ok hb he x_) fun y1 hy1 hq => ?_
 refine callE hb 5 hq (g_cmp_isNaN_KeyKind_ok hb he y_) fun y2 hy2 hq => ?_
 refine ifE hb 7 [5, 8, 11] [] hq (fun hq _ => ?_) (fun hq _ => ?_)
 refine ifE hb 6 [6, 10, 12] [] hq (fun hq _ => ?_) (fun hq _ => ?_)
 exact retE hb 5 (injO hq).symm
 exact retE hb 6 (injO hq).symm
 refine ifE hb 7 [6, 10, 13] [] hq (fun hq _ => ?_) (fun hq _ => ?_)
 exact retE hb 5 (injO hq).symm
 refine ifE hb 9 [16] [] hq (fun hq _ => ?_) (fun hq _ => ?_)
 exact retE hb 5 (injO hq).symm
 refine ifE hb 9 [19] [] hq (fun hq _ => ?_) (fun hq _ => ?_)
 exact retE hb 5 (injO hq).symm
 exact retE hb 6 (injO hq).symm
noncomputable def g_address_compareKeys  (a_ : KeyG) (b_ : KeyG) : Option (Int) :=
  (g_cmp_Compare_KeyKind a_.kind b_.kind).bind fun y1 => (g_cmp_Compare a_.num b_.num).bind fun y2 => (m_cmpS a_.str b_.str).bind fun y3 => (g_cmp_Or [y1, y2, y3]).bind fun y4 => some (y4)
theorem g_address_compareKeys_ok (hb : Base E E0 G) (he : ∀ w, E w → EnvV w)   (a_ : KeyG) (b_ : KeyG) : ∀ r_ : Int, g_address_compareKeys a_ b_ = some r_ →
 Pure E E0 Tryz.prog 55 [.agg [vi a_.kind, vi a_.num, vS a_.str], .agg [vi b_.kind, vi b_.num, vS b_.str]] (c1 (vi r_)) := by
 refine fnE hb Tryz.func55 rfl fun r_ hq => ?_
 refine drawE hb mixed 7 14 [] ?_
 refine callE hb 4 hq (g_cmp_Compare_KeyKind_ok hb he a_.kind b_.kind) fun y1 hy1 hq => ?_
 refine callE hb 4 hq (g_cmp_Compare_ok hb he a_.num b_.num) fun y2 hy2 hq => ?_
 refine callE hb 5 hq (cmpS_g hb he a_.str b_.str) fun y3 hy3 hq => ?_
 have hp := (g_cmp_Or_ok hb he [y1, y2, y3])
 simp only [aV, aT, kind_mk, num_mk, str_mk, items_mk, keys_mk, Ty.kind_mk, Ty.elems_mk, Ty.names_mk, vL_one, vL_two, vL_three, vL_four, vL_five, vL_six] at hp
 refine callE hb 1 hq hp fun y4 hy4 hq => ?_
 exact retE hb 2 (injO hq).symm
noncomputable def g_address_Compare_1  (s_ : ModuleStepG) (t_ : ModuleStepG) : Option (Int) :=
  (m_cmpS s_.name t_.name).bind fun y1 => (g_address_compareKeys s_.key t_.key).bind fun y2 => (g_cmp_Or [y1, y2]).bind fun y3 => some (y3)
theorem g_address_Compare_1_ok (hb : Base E E0 G) (he : ∀ w, E w → EnvV w)   (s_ : ModuleStepG) (t_ : ModuleStepG) : ∀ r_ : Int, g_address_Compare_1 s_ t_ = some r_ →
 Pure E E0 Tryz.prog 52 [.agg [vS s_.name, vi s_.key.kind, vi s_.key.num, vS s_.key.str], .agg [vS t_.name, vi t_.key.kind, vi t_.key.num, vS t_.key.str]] (c1 (vi r_)) := by
 refine fnE hb Tryz.func52 rfl fun r_ hq => ?_
 refine drawE hb mixed 7 9 [] ?_
 refine callE hb 4 hq (cmpS_g hb he s_.name t_.name) fun y1 hy1 hq => ?_
 refine callE hb 5 hq (g_address_compareKeys_ok hb he s_.key t_.key) fun y2 hy2 hq => ?_
 have hp := (g_cmp_Or_ok hb he [y1, y2])
 simp only [aV, aT, kind_mk, num_mk, str_mk, items_mk, keys_mk, Ty.kind_mk, Ty.elems_mk, Ty.names_mk, vL_one, vL_two, vL_three, vL_four, vL_five, vL_six] at hp
 refine callE hb 1 hq hp fun y3 hy3 hq => ?_
 exact retE hb 2 (injO hq).symm
noncomputable def g_address_flag  (b_ : Bool) : Option (Int) :=
  bif b_ then some (1) else some (0)
theorem g_address_flag_ok (hb : Base E E0 G) (he : ∀ w, E w → EnvV w)   (b_ : Bool) : ∀ r_ : Int, g_address_flag b_ = some r_ →
 Pure E E0 Tryz.prog 57 [.cell (vB b_)] (c1 (vi r_)) := by
 refine fnE hb Tryz.func57 rfl fun r_ hq => ?_
 refine ifE hb 9 [0, 3] [] hq (fun hq _ => ?_) (fun hq _ => ?_)
 exact retE hb 5 (injO hq).symm
 exact retE hb 6 (injO hq).symm
noncomputable def g_slices_CompareFunc_address_Compare_1_L1 (s1_ : List ModuleStepG) (s2_ : List ModuleStepG) (s1 : Int) : Option ((Int) ⊕ (Int)) :=
  bif (decide (s1 < (s1_.length : Int))) then (idx s1_ s1).bind fun x2 => bif (decide (s1 ≥ (s2_.length : Int))) then some (.inr (1)) else (idx s2_ s1).bind fun x4 => (g_address_Compare_1 x2 x4).bind fun y5 => bif (!decide (y5 = 0)) then some (.inr (y5)) else some (.inl (IntKind.i64.wrap (s1 + 1))) else bif (decide ((s1_.length : Int) < (s2_.length : Int))) then some (.inr (-1)) else some (.inr (0))
noncomputable def g_slices_CompareFunc_address_Compare_1  (s1_ : List ModuleStepG) (s2_ : List ModuleStepG) : Option (Int) :=
  loopO (g_slices_CompareFunc_address_Compare_1_L1 s1_ s2_) 0
theorem g_slices_CompareFunc_address_Compare_1_ok (hb : Base E E0 G) (he : ∀ w, E w → EnvV w)   (s1_ : List ModuleStepG) (s2_ : List ModuleStepG) : ∀ r_ : Int, g_slices_CompareFunc_address_Compare_1 s1_ s2_ = some r_ →
 Pure E E0 Tryz.prog 51 [.cell (vL flModuleStepG s1_), .cell (vL flModuleStepG s2_), .cell (.pv (.sc (.func (.func 52) #[] #[])))] (c1 (vi r_)) := by
 refine fnE hb Tryz.func51 rfl fun r_ hq => ?_
 refine loopE hb 12 (g_slices_CompareFunc_address_Compare_1_L1 s1_ s2_) (fun s1 => sl 39 [(0, c1 (vL flModuleStepG s1_)), (1, c1 (vL flModuleStepG s2_)), (2, c1 (.pv (.sc (.func (.func 52) #[] #[])))), (11, c1 (vL flModuleStepG s1_)), (12, c1 (vi (s1_.length : Int))), (13, c1 (vi s1))]) (fun s1 => []) [0, 1, 2, 11, 12, 13] [] 0 (s0 := 0) trivial hq (fun s1 x1 hq hn1 he1 => ?_)
 refine ifE hb 5 [14] [] hq (fun hq _ => ?_) (fun hq _ => ?_)
 refine idxE hb flModuleStepG 7 hq fun x2 hx2 hq => ?_
 refine ifE hb 13 [21] [] hq (fun hq _ => ?_) (fun hq _ => ?_)
 exact retE hb 5 (he1 _ (injO hq))
 refine idxE hb flModuleStepG 6 hq fun x4 hx4 hq => ?_
 refine callE hb 9 hq (g_address_Compare_1_ok hb he x2 x4) fun y5 hy5 hq => ?_
 refine ifE hb 7 [31] [] hq (fun hq _ => ?_) (fun hq _ => ?_)
 exact retE hb 6 (he1 _ (injO hq))
 exact backE hb 7 [0, 1, 2, 11, 12, 13] [] 0 (hn1 _ (injO hq)) trivial
 refine ifE hb 11 [38] [] hq (fun hq _ => ?_) (fun hq _ => ?_)
 exact retE hb 5 (he1 _ (injO hq))
 exact retE hb 6 (he1 _ (injO hq))
noncomputable def g_address_Compare  (a_ : AddressG) (b_ : AddressG) : Option (Int) :=
  (g_slices_CompareFunc_address_Compare_1 a_.module b_.module).bind fun y1 => (g_address_flag a_.data).bind fun y2 => (g_address_flag b_.data).bind fun y3 => (g_cmp_Compare y2 y3).bind fun y4 => (m_cmpS a_.type_ b_.type_).bind fun y5 => (m_cmpS a_.name b_.name).bind fun y6 => (g_address_compareKeys a_.key b_.key).bind fun y7 => (g_cmp_Or [y1, y4, y5, y6, y7]).bind fun y8 => some (y8)
theorem g_address_Compare_ok (hb : Base E E0 G) (he : ∀ w, E w → EnvV w)   (a_ : AddressG) (b_ : AddressG) : ∀ r_ : Int, g_address_Compare a_ b_ = some r_ →
 Pure E E0 Tryz.prog 26 [.agg [vL flModuleStepG a_.module, vB a_.data, vS a_.type_, vS a_.name, vi a_.key.kind, vi a_.key.num, vS a_.key.str], .agg [vL flModuleStepG b_.module, vB b_.data, vS b_.type_, vS b_.name, vi b_.key.kind, vi b_.key.num, vS b_.key.str]] (c1 (vi r_)) := by
 refine fnE hb Tryz.func26 rfl fun r_ hq => ?_
 refine callE hb 12 hq (g_slices_CompareFunc_address_Compare_1_ok hb he a_.module b_.module) fun y1 hy1 hq => ?_
 refine drawE hb mixed 3 22 [0] ?_
 refine callE hb 3 hq (g_address_flag_ok hb he a_.data) fun y2 hy2 hq => ?_
 refine callE hb 2 hq (g_address_flag_ok hb he b_.data) fun y3 hy3 hq => ?_
 refine callE hb 0 hq (g_cmp_Compare_ok hb he y2 y3) fun y4 hy4 hq => ?_
 refine callE hb 4 hq (cmpS_g hb he a_.type_ b_.type_) fun y5 hy5 hq => ?_
 refine callE hb 4 hq (cmpS_g hb he a_.name b_.name) fun y6 hy6 hq => ?_
 refine callE hb 5 hq (g_address_compareKeys_ok hb he a_.key b_.key) fun y7 hy7 hq => ?_
 have hp := (g_cmp_Or_ok hb he [y1, y4, y5, y6, y7])
 simp only [aV, aT, kind_mk, num_mk, str_mk, items_mk, keys_mk, Ty.kind_mk, Ty.elems_mk, Ty.names_mk, vL_one, vL_two, vL_three, vL_four, vL_five, vL_six] at hp
 refine callE hb 1 hq hp fun y8 hy8 hq => ?_
 exact retE hb 2 (injO hq).symm
noncomputable def g_l21_place  (k_ : KeyG) : Option (AddressG) :=
  some (AddressG.mk [] false (⟨#[116]⟩ : ByteArray) (⟨#[110]⟩ : ByteArray) k_)
theorem g_l21_place_ok (hb : Base E E0 G) (he : ∀ w, E w → EnvV w)   (k_ : KeyG) : ∀ r_ : AddressG, g_l21_place k_ = some r_ →
 Pure E E0 Tryz.prog 27 [.agg [vi k_.kind, vi k_.num, vS k_.str]] (.one (.agg [vL flModuleStepG r_.module, vB r_.data, vS r_.type_, vS r_.name, vi r_.key.kind, vi r_.key.num, vS r_.key.str])) := by
 refine fnE hb Tryz.func27 rfl fun r_ hq => ?_
 exact retE hb 11 (injO hq).symm
noncomputable def g_ops_open_1  (v_ : Val) : Option (Bool) :=
  some (decide (v_.kind = 6))
theorem g_ops_open_1_ok (hb : Base E E0 G) (he : ∀ w, E w → EnvV w)   (v_ : Val) : ∀ r_ : Bool, g_ops_open_1 v_ = some r_ →
 Pure E E0 Tryz.prog 83 [.agg (aV v_)] (c1 (vB r_)) := by
 refine fnE hb Tryz.func83 rfl fun r_ hq => ?_
 exact retE hb 12 (injO hq).symm
noncomputable def g_slices_IndexFunc_ops_open_1_L1 (s_ : List Val) (s1 : Int) : Option ((Int) ⊕ (Int)) :=
  bif (decide (s1 < (s_.length : Int))) then (idx s_ s1).bind fun x2 => (g_ops_open_1 x2).bind fun y3 => bif y3 then some (.inr (s1)) else some (.inl (IntKind.i64.wrap (s1 + 1))) else some (.inr (-1))
noncomputable def g_slices_IndexFunc_ops_open_1  (s_ : List Val) : Option (Int) :=
  loopO (g_slices_IndexFunc_ops_open_1_L1 s_) 0
theorem g_slices_IndexFunc_ops_open_1_ok (hb : Base E E0 G) (he : ∀ w, E w → EnvV w)   (s_ : List Val) : ∀ r_ : Int, g_slices_IndexFunc_ops_open_1 s_ = some r_ →
 Pure E E0 Tryz.prog 100 [.cell (vL flV s_), .cell (.pv (.sc (.func (.func 83) #[] #[])))] (c1 (vi r_)) := by
 refine fnE hb Tryz.func100 rfl fun r_ hq => ?_
 refine loopE hb 12 (g_slices_IndexFunc_ops_open_1_L1 s_) (fun s1 => sl 19 [(0, c1 (vL flV s_)), (1, c1 (.pv (.sc (.func (.func 83) #[] #[])))), (7, c1 (vi (s_.length : Int))), (8, c1 (vi s1))]) (fun s1 => []) [0, 1, 7, 8] [] 0 (s0 := 0) trivial hq (fun s1 x1 hq hn1 he1 => ?_)
 refine ifE hb 5 [9] [] hq (fun hq _ => ?_) (fun hq _ => ?_)
 refine idxE hb flV 14 hq fun x2 hx2 hq => ?_
 refine callE hb 1 hq (g_ops_open_1_ok hb he x2) fun y3 hy3 hq => ?_
 refine ifE hb 1 [16] [] hq (fun hq _ => ?_) (fun hq _ => ?_)
 exact retE hb 6 (he1 _ (injO hq))
 exact backE hb 7 [0, 1, 7, 8] [] 0 (hn1 _ (injO hq)) trivial
 exact retE hb 6 (he1 _ (injO hq))
noncomputable def g_slices_ContainsFunc_ops_open_1  (s_ : List Val) : Option (Bool) :=
  (g_slices_IndexFunc_ops_open_1 s_).bind fun y1 => some (decide (y1 ≥ 0))
theorem g_slices_ContainsFunc_ops_open_1_ok (hb : Base E E0 G) (he : ∀ w, E w → EnvV w)   (s_ : List Val) : ∀ r_ : Bool, g_slices_ContainsFunc_ops_open_1 s_ = some r_ →
 Pure E E0 Tryz.prog 82 [.cell (vL flV s_), .cell (.pv (.sc (.func (.func 83) #[] #[])))] (c1 (vB r_)) := by
 refine fnE hb Tryz.func82 rfl fun r_ hq => ?_
 refine callE hb 8 hq (g_slices_IndexFunc_ops_open_1_ok hb he s_) fun y1 hy1 hq => ?_
 exact retE hb 3 (injO hq).symm
noncomputable def g_ops_open  (l_ : List Val) : Option (Bool) :=
  (g_slices_ContainsFunc_ops_open_1 l_).bind fun y1 => some (y1)
theorem g_ops_open_ok (hb : Base E E0 G) (he : ∀ w, E w → EnvV w)   (l_ : List Val) : ∀ r_ : Bool, g_ops_open l_ = some r_ →
 Pure E E0 Tryz.prog 60 [.cell (vL flV l_)] (c1 (vB r_)) := by
 refine fnE hb Tryz.func60 rfl fun r_ hq => ?_
 refine callE hb 7 hq (g_slices_ContainsFunc_ops_open_1_ok hb he l_) fun y1 hy1 hq => ?_
 exact retE hb 2 (injO hq).symm
noncomputable def g_ops_asNumber  (v_ : Val) : Option (Val × Int) :=
  bif (decide (v_.kind = 0)) then some ((Val.mk 0 0 eS [] []), 6) else (g_convert_To v_ (Ty.mk 2 [] [])).bind fun y2 => some (y2.1, y2.2)
theorem g_ops_asNumber_ok (hb : Base E E0 G) (he : ∀ w, E w → EnvV w)   (v_ : Val) : ∀ r_ : Val × Int, g_ops_asNumber v_ = some r_ →
 Pure E E0 Tryz.prog 79 [.agg (aV v_)] (.tup [.agg (aV r_.1), .cell (vi r_.2)]) := by
 refine fnE hb Tryz.func79 rfl fun r_ hq => ?_
 refine ifE hb 13 [6] [] hq (fun hq _ => ?_) (fun hq _ => ?_)
 exact retE hb 7 (injO hq).symm
 refine callE hb 6 hq (g_convert_To_ok hb he v_ (Ty.mk 2 [] [])) fun y2 hy2 hq => ?_
 exact retE hb 5 (injO hq).symm
noncomputable def g_ops_item  (l_ : List Val) (key_ : Val) : Option (Val × Int) :=
  (g_ops_asNumber key_).bind fun y1 => bif (!decide (y1.2 = 0)) then some ((Val.mk 0 0 eS [] []), y1.2) else (g_ops_open [y1.1]).bind fun y3 => bif y3 then some (y1.1, 0) else bif (decide (y1.1.num < 0)) then some ((Val.mk 0 0 eS [] []), 16) else bif (decide (y1.1.num ≥ (l_.length : Int))) then some ((Val.mk 0 0 eS [] []), 16) else (idx l_ y1.1.num).bind fun x7 => (cpy x7).bind fun y8 => some (y8, 0)
theorem g_ops_item_ok (hb : Base E E0 G) (he : ∀ w, E w → EnvV w)   (l_ : List Val) (key_ : Val) : ∀ r_ : Val × Int, g_ops_item l_ key_ = some r_ →
 Pure E E0 Tryz.prog 58 [.cell (vL flV l_), .agg (aV key_)] (.tup [.agg (aV r_.1), .cell (vi r_.2)]) := by
 refine fnE hb Tryz.func58 rfl fun r_ hq => ?_
 refine callE hb 9 hq (g_ops_asNumber_ok hb he key_) fun y1 hy1 hq => ?_
 refine ifE hb 13 [14] [] hq (fun hq _ => ?_) (fun hq _ => ?_)
 exact retE hb 8 (injO hq).symm
 have hp := (g_ops_open_ok hb he [y1.1])
 simp only [aV, aT, kind_mk, num_mk, str_mk, items_mk, keys_mk, Ty.kind_mk, Ty.elems_mk, Ty.names_mk, vL_one, vL_two, vL_three, vL_four, vL_five, vL_six] at hp
 refine callE hb 7 hq hp fun y3 hy3 hq => ?_
 refine ifE hb 1 [19] [] hq (fun hq _ => ?_) (fun hq _ => ?_)
 exact retE hb 7 (injO hq).symm
 refine ifE hb 9 [23, 24] [] hq (fun hq _ => ?_) (fun hq _ => ?_)
 exact retE hb 14 (injO hq).symm
 refine ifE hb 7 [29, 30] [] hq (fun hq _ => ?_) (fun hq _ => ?_)
 exact retE hb 7 (injO hq).symm
 refine idxE hb flV 7 hq fun x7 hx7 hq => ?_
 refine callE hb 1 hq (copied_ops_g hb he x7) fun y8 hy8 hq => ?_
 exact retE hb 3 (injO hq).symm
noncomputable def g_convert_simple  (v_ : Val) (k_ : Int) : Option (Val × Int) :=
  bif (decide (v_.kind = 0)) then some ((Val.mk 0 0 eS [] []), 6) else (g_convert_To v_ (Ty.mk k_ [] [])).bind fun y2 => some (y2.1, y2.2)
theorem g_convert_simple_ok (hb : Base E E0 G) (he : ∀ w, E w → EnvV w)   (v_ : Val) (k_ : Int) : ∀ r_ : Val × Int, g_convert_simple v_ k_ = some r_ →
 Pure E E0 Tryz.prog 81 [.agg (aV v_), .cell (vi k_)] (.tup [.agg (aV r_.1), .cell (vi r_.2)]) := by
 refine fnE hb Tryz.func81 rfl fun r_ hq => ?_
 refine ifE hb 13 [8] [] hq (fun hq _ => ?_) (fun hq _ => ?_)
 exact retE hb 7 (injO hq).symm
 refine callE hb 7 hq (g_convert_To_ok hb he v_ (Ty.mk k_ [] [])) fun y2 hy2 hq => ?_
 exact retE hb 5 (injO hq).symm
noncomputable def g_convert_Text  (v_ : Val) : Option (Val × Int) :=
  (g_convert_simple v_ 3).bind fun y1 => some (y1.1, y1.2)
theorem g_convert_Text_ok (hb : Base E E0 G) (he : ∀ w, E w → EnvV w)   (v_ : Val) : ∀ r_ : Val × Int, g_convert_Text v_ = some r_ →
 Pure E E0 Tryz.prog 59 [.agg (aV v_)] (.tup [.agg (aV r_.1), .cell (vi r_.2)]) := by
 refine fnE hb Tryz.func59 rfl fun r_ hq => ?_
 refine callE hb 9 hq (g_convert_simple_ok hb he v_ 3) fun y1 hy1 hq => ?_
 exact retE hb 5 (injO hq).symm
noncomputable def g_ops_Attr  (v_ : Val) (name_ : ByteArray) : Option (Val × Int) :=
  bif (decide (v_.kind = 6)) then some (v_, 0) else bif (decide (v_.kind = 5)) then (g_value_Get v_ name_).bind fun y3 => bif (!y3.2) then some ((Val.mk 0 0 eS [] []), 16) else some (y3.1, 0) else some ((Val.mk 0 0 eS [] []), 6)
theorem g_ops_Attr_ok (hb : Base E E0 G) (he : ∀ w, E w → EnvV w)   (v_ : Val) (name_ : ByteArray) : ∀ r_ : Val × Int, g_ops_Attr v_ name_ = some r_ →
 Pure E E0 Tryz.prog 61 [.agg (aV v_), .cell (vS name_)] (.tup [.agg (aV r_.1), .cell (vi r_.2)]) := by
 refine fnE hb Tryz.func61 rfl fun r_ hq => ?_
 refine ifE hb 18 [10, 11] [] hq (fun hq _ => ?_) (fun hq _ => ?_)
 exact retE hb 7 (injO hq).symm
 refine ifE hb 6 [13, 14] [] hq (fun hq _ => ?_) (fun hq _ => ?_)
 refine callE hb 5 hq (g_value_Get_ok hb he v_ name_) fun y3 hy3 hq => ?_
 refine ifE hb 13 [22] [] hq (fun hq _ => ?_) (fun hq _ => ?_)
 exact retE hb 7 (injO hq).symm
 exact retE hb 8 (injO hq).symm
 exact retE hb 9 (injO hq).symm
noncomputable def g_ops_Index  (v_ : Val) (key_ : Val) : Option (Val × Int) :=
  bif (decide (v_.kind = 6)) then some (v_, 0) else bif (decide (v_.kind = 4)) then (g_ops_item v_.items key_).bind fun y3 => some (y3.1, y3.2) else bif (decide (v_.kind = 5)) then (g_convert_Text key_).bind fun y5 => bif (!decide (y5.2 = 0)) then some (y5.1, y5.2) else (g_ops_open [y5.1]).bind fun y7 => bif y7 then some (y5.1, y5.2) else (g_ops_Attr v_ y5.1.str).bind fun y9 => some (y9.1, y9.2) else some ((Val.mk 0 0 eS [] []), 6)
theorem g_ops_Index_ok (hb : Base E E0 G) (he : ∀ w, E w → EnvV w)   (v_ : Val) (key_ : Val) : ∀ r_ : Val × Int, g_ops_Index v_ key_ = some r_ →
 Pure E E0 Tryz.prog 28 [.agg (aV v_), .agg (aV key_)] (.tup [.agg (aV r_.1), .cell (vi r_.2)]) := by
 refine fnE hb Tryz.func28 rfl fun r_ hq => ?_
 refine ifE hb 19 [10, 11] [] hq (fun hq _ => ?_) (fun hq _ => ?_)
 exact retE hb 7 (injO hq).symm
 refine ifE hb 6 [13, 14] [] hq (fun hq _ => ?_) (fun hq _ => ?_)
 refine callE hb 6 hq (g_ops_item_ok hb he v_.items key_) fun y3 hy3 hq => ?_
 exact retE hb 5 (injO hq).symm
 refine ifE hb 6 [21, 22] [] hq (fun hq _ => ?_) (fun hq _ => ?_)
 refine callE hb 4 hq (g_convert_Text_ok hb he key_) fun y5 hy5 hq => ?_
 refine ifE hb 13 [29, 30] [] hq (fun hq _ => ?_) (fun hq _ => ?_)
 exact retE hb 13 (injO hq).symm
 have hp := (g_ops_open_ok hb he [y5.1])
 simp only [aV, aT, kind_mk, num_mk, str_mk, items_mk, keys_mk, Ty.kind_mk, Ty.elems_mk, Ty.names_mk, vL_one, vL_two, vL_three, vL_four, vL_five, vL_six] at hp
 refine callE hb 2 hq hp fun y7 hy7 hq => ?_
 refine ifE hb 2 [33, 34] [] hq (fun hq _ => ?_) (fun hq _ => ?_)
 refine cpE hb 2 [4, 6, 7] (s' := ⟨none, [pick (bodyOf Tryz.f28) [1, 0, 1, 0, 1, 1, 1, 1, 1, 0, 1, 0, 1, 0, 0], pick (bodyOf Tryz.f28) [1, 0, 1, 0, 1, 1, 1, 1, 1, 0, 1, 0, 1, 0, 1], pick (bodyOf Tryz.f28) [1, 0, 1, 0, 1, 1, 1, 1, 1, 0, 1, 1]], [(0, [pick (bodyOf Tryz.f28) [1, 1]])], sl 44 [(4, pt 2), (6, pt 3), (7, c1 (vi y5.2))], [bx (aV v_), bx (aV key_), bx zV, bx (aV y5.1)]⟩) ?_
 exact retE hb 6 (injO hq).symm
 refine cpE hb 3 [2, 4, 6] (s' := ⟨none, [pick (bodyOf Tryz.f28) [1, 0, 1, 0, 1, 1, 1, 1, 1, 0, 1, 1, 0], pick (bodyOf Tryz.f28) [1, 0, 1, 0, 1, 1, 1, 1, 1, 0, 1, 1, 1]], [(0, [pick (bodyOf Tryz.f28) [1, 1]])], sl 44 [(2, pt 0), (4, pt 2), (6, pt 3)], [bx (aV v_), bx (aV key_), bx zV, bx (aV y5.1)]⟩) ?_
 refine callE hb 4 hq (g_ops_Attr_ok hb he v_ y5.1.str) fun y9 hy9 hq => ?_
 exact retE hb 5 (injO hq).symm
 exact retE hb 9 (injO hq).symm
noncomputable def g_l21_InstancesKeys_L2 (y13 : List KeyG × Int) (y28 : Val × Int) (s1 : Int × List Val) (s2 : Int) : Option ((Int) ⊕ ((Int × List Val) ⊕ (Bool))) :=
  bif (decide (s2 < (y13.1.length : Int))) then (idx y13.1 s2).bind fun x35 => (g_l21_number x35.num).bind fun y36 => (idx y13.1 s2).bind fun x37 => (g_l21_text x37.str).bind fun y38 => (g_ops_Index y28.1 y38).bind fun y39 => bif (!decide (y39.2 = 0)) then some (.inr (.inr (false))) else (idx s1.2 s2).bind fun x41 => (t_value_Equal y39.1 x41).bind fun y42 => bif (!y42) then some (.inr (.inr (false))) else some (.inl (IntKind.i64.wrap (s2 + 1))) else (g_instances_Keys 2 y28.1).bind fun y44 => bif (decide (y44.2 = 0)) then (g_l21_keys y44.1 y13.1).bind fun y46 => bif y46 then (g_l21_awake).bind fun y48 => some (.inr (.inr (y48))) else some (.inr (.inr (false))) else some (.inr (.inr (false)))
noncomputable def g_l21_InstancesKeys_L1 (rr_ : Int) (x_ : Val) (y13 : List KeyG × Int) (s1 : Int × List Val) : Option ((Int × List Val) ⊕ (Bool)) :=
  bif (decide (s1.1 < (y13.1.length : Int))) then bif (decide (s1.1 > 0)) then (idx y13.1 (IntKind.i64.wrap (s1.1 - 1))).bind fun x18 => (g_l21_place x18).bind fun y19 => (idx y13.1 s1.1).bind fun x20 => (g_l21_place x20).bind fun y21 => (g_address_Compare y19 y21).bind fun y22 => bif (!decide (y22 = (-1))) then some (.inr (false)) else (g_l21_number s1.1).bind fun y24 => (app 80 s1.2 [(Val.mk 4 0 eS [y24, x_] [])]).bind fun l25 => some (.inl ((IntKind.i64.wrap (s1.1 + 1)), l25)) else (g_l21_number s1.1).bind fun y26 => (app 80 s1.2 [(Val.mk 4 0 eS [y26, x_] [])]).bind fun l27 => some (.inl ((IntKind.i64.wrap (s1.1 + 1)), l27)) else (g_instances_Collect rr_ y13.1 s1.2).bind fun y28 => bif (!decide (y28.2 = 0)) then bif (decide (y28.2 = 14)) then (g_l21_awake).bind fun y31 => some (.inr (y31)) else bif (decide (y28.2 = 4)) then (g_l21_awake).bind fun y33 => some (.inr (y33)) else some (.inr (false)) else loopO (g_l21_InstancesKeys_L2 y13 y28 s1) 0
noncomputable def g_l21_InstancesKeys_L4 (rr_ : Int) (y55 : List KeyG × Int) (y70 : Val × Int) (s1 : Int × List Val) (s2 : Int) : Option ((Int) ⊕ ((Int × List Val) ⊕ (Bool))) :=
  bif (decide (s2 < (y55.1.length : Int))) then (idx y55.1 s2).bind fun x77 => (g_l21_number x77.num).bind fun y78 => bif (decide (rr_ = 2)) then (idx y55.1 s2).bind fun x80 => (g_l21_text x80.str).bind fun y81 => (g_ops_Index y70.1 y81).bind fun y82 => bif (!decide (y82.2 = 0)) then some (.inr (.inr (false))) else (idx s1.2 s2).bind fun x84 => (t_value_Equal y82.1 x84).bind fun y85 => bif (!y85) then some (.inr (.inr (false))) else some (.inl (IntKind.i64.wrap (s2 + 1))) else (g_ops_Index y70.1 y78).bind fun y87 => bif (!decide (y87.2 = 0)) then some (.inr (.inr (false))) else (idx s1.2 s2).bind fun x89 => (t_value_Equal y87.1 x89).bind fun y90 => bif (!y90) then some (.inr (.inr (false))) else some (.inl (IntKind.i64.wrap (s2 + 1))) else (g_l21_awake).bind fun y92 => some (.inr (.inr (y92)))
noncomputable def g_l21_InstancesKeys_L3 (rr_ : Int) (x_ : Val) (y55 : List KeyG × Int) (s1 : Int × List Val) : Option ((Int × List Val) ⊕ (Bool)) :=
  bif (decide (s1.1 < (y55.1.length : Int))) then bif (decide (s1.1 > 0)) then (idx y55.1 (IntKind.i64.wrap (s1.1 - 1))).bind fun x60 => (g_l21_place x60).bind fun y61 => (idx y55.1 s1.1).bind fun x62 => (g_l21_place x62).bind fun y63 => (g_address_Compare y61 y63).bind fun y64 => bif (!decide (y64 = (-1))) then some (.inr (false)) else (g_l21_number s1.1).bind fun y66 => (app 80 s1.2 [(Val.mk 4 0 eS [y66, x_] [])]).bind fun l67 => some (.inl ((IntKind.i64.wrap (s1.1 + 1)), l67)) else (g_l21_number s1.1).bind fun y68 => (app 80 s1.2 [(Val.mk 4 0 eS [y68, x_] [])]).bind fun l69 => some (.inl ((IntKind.i64.wrap (s1.1 + 1)), l69)) else (g_instances_Collect rr_ y55.1 s1.2).bind fun y70 => bif (!decide (y70.2 = 0)) then bif (decide (y70.2 = 14)) then (g_l21_awake).bind fun y73 => some (.inr (y73)) else bif (decide (y70.2 = 4)) then (g_l21_awake).bind fun y75 => some (.inr (y75)) else some (.inr (false)) else loopO (g_l21_InstancesKeys_L4 rr_ y55 y70 s1) 0
noncomputable def g_l21_InstancesKeys  (rr_ : Int) (v_ : Val) (x_ : Val) : Option (Bool) :=
  (g_l21_right v_).bind fun y1 => bif (!y1) then (g_l21_awake).bind fun y3 => some (y3) else bif (!decide (rr_ = 1)) then bif (!decide (rr_ = 2)) then (g_l21_awake).bind fun y6 => some (y6) else (m_small x_ 3).bind fun y7 => bif (!y7) then (g_l21_awake).bind fun y9 => some (y9) else (m_checkE x_).bind fun y10 => bif (!decide (y10 = 0)) then (g_l21_awake).bind fun y12 => some (y12) else (g_instances_Keys rr_ v_).bind fun y13 => bif (!decide (y13.2 = 0)) then (g_l21_awake).bind fun y15 => some (y15) else loopO (g_l21_InstancesKeys_L1 rr_ x_ y13) (0, []) else (m_small x_ 3).bind fun y49 => bif (!y49) then (g_l21_awake).bind fun y51 => some (y51) else (m_checkE x_).bind fun y52 => bif (!decide (y52 = 0)) then (g_l21_awake).bind fun y54 => some (y54) else (g_instances_Keys rr_ v_).bind fun y55 => bif (!decide (y55.2 = 0)) then (g_l21_awake).bind fun y57 => some (y57) else loopO (g_l21_InstancesKeys_L3 rr_ x_ y55) (0, [])
theorem g_l21_InstancesKeys_ok (hb : Base E E0 G) (he : ∀ w, E w → EnvV w)   (rr_ : Int) (v_ : Val) (x_ : Val) : ∀ r_ : Bool, g_l21_InstancesKeys rr_ v_ x_ = some r_ →
 Pure E E0 Tryz.prog 8 [.cell (vi rr_), .agg (aV v_), .agg (aV x_)] (c1 (vB r_)) := by
 refine fnE hb Tryz.func8 rfl fun r_ hq => ?_
 refine callE hb 10 hq (g_l21_right_ok hb he v_) fun y1 hy1 hq => ?_
 refine ifE hb 2 [21, 22] [] hq (fun hq _ => ?_) (fun hq _ => ?_)
 refine callE hb 21 hq (g_l21_awake_ok hb he ) fun y3 hy3 hq => ?_
 exact retE hb 2 (injO hq).symm
 refine ifE hb 3 [24, 25] [] hq (fun hq hc4 => ?_) (fun hq hc4 => ?_)
 refine ifE hb 5 [27, 28, 29, 30] [] hq (fun hq _ => ?_) (fun hq hc5 => ?_)
 refine callE hb 13 hq (g_l21_awake_ok hb he ) fun y6 hy6 hq => ?_
 exact retE hb 2 (injO hq).symm
 refine callE hb 1 hq (rSmall_g hb he x_ 3) fun y7 hy7 hq => ?_
 refine ifE hb 3 [33, 34, 35] [] hq (fun hq _ => ?_) (fun hq _ => ?_)
 refine callE hb 8 hq (g_l21_awake_ok hb he ) fun y9 hy9 hq => ?_
 exact retE hb 2 (injO hq).symm
 refine callE hb 1 hq (rCheck_g hb he x_) fun y10 hy10 hq => ?_
 refine cpE hb 3 [0, 4, 5, 39] (s' := ⟨none, [pick (bodyOf Tryz.f8) [1, 0, 1], pick (bodyOf Tryz.f8) [1, 1]], [], sl 154 [(0, c1 (vi rr_)), (4, pt 0), (5, pt 1), (39, c1 (vB (!decide (y10 = 0))))], [bx (aV v_), bx (aV x_)]⟩) ?_
 refine ifE hb 0 [39] [] hq (fun hq _ => ?_) (fun hq _ => ?_)
 refine callE hb 3 hq (g_l21_awake_ok hb he ) fun y12 hy12 hq => ?_
 exact retE hb 2 (injO hq).symm
 refine callE hb 6 hq (g_instances_Keys_ok hb he rr_ v_) fun y13 hy13 hq => ?_
 refine ifE hb 12 [48] [] hq (fun hq _ => ?_) (fun hq _ => ?_)
 refine callE hb 3 hq (g_l21_awake_ok hb he ) fun y15 hy15 hq => ?_
 exact retE hb 2 (injO hq).symm
 refine cpE hb 12 [0, 5, 7, 9, 10] (s' := ⟨none, [pick (bodyOf Tryz.f8) [1, 1, 1, 1, 1, 0, 1, 0]], [(0, [pick (bodyOf Tryz.f8) [1, 1, 1, 1, 1, 1]])], sl 154 [(0, c1 (vi rr_)), (5, pt 1), (7, c1 (vL flKeyG y13.1)), (9, c1 (vN)), (10, c1 (vi 0))], [bx (aV v_), bx (aV x_)]⟩) ?_
 refine ownTE hb 0 9 5 ?_
 refine loopE hb 0 (g_l21_InstancesKeys_L1 rr_ x_ y13) (fun s1 => sl 154 [(0, c1 (vi rr_)), (5, pt 1), (7, c1 (vL flKeyG y13.1)), (9, c1 (vO flV 2 s1.2)), (10, c1 (vi s1.1))]) (fun s1 => [none, bx (aV x_), some (arO true flV.sz 0 (flV.f s1.2))]) [0, 5, 7, 9, 10] [0] 3 (s0 := (0, [])) ⟨rfl, (by kernel_rfl), (under_arO _ _ _ _ _), trivial⟩ hq (fun s1 x1 hq hn1 he1 => ?_)
 refine ifE hb 8 [53] [] hq (fun hq _ => ?_) (fun hq _ => ?_)
 refine drawE hb mixed 6 13 [] ?_
 refine ifE hb 3 [57, 58] [] hq (fun hq _ => ?_) (fun hq _ => ?_)
 refine idxE hb flKeyG 3 hq fun x18 hx18 hq => ?_
 refine callE hb 1 hq (g_l21_place_ok hb he x18) fun y19 hy19 hq => ?_
 refine idxE hb flKeyG 2 hq fun x20 hx20 hq => ?_
 refine callE hb 2 hq (g_l21_place_ok hb he x20) fun y21 hy21 hq => ?_
 refine callE hb 0 hq (g_address_Compare_ok hb he y19 y21) fun y22 hy22 hq => ?_
 refine cpE hb 3 [0, 5, 7, 9, 10, 72] (s' := ⟨none, [pick (bodyOf Tryz.f8) [1, 1, 1, 1, 1, 0, 1, 0, 0, 1, 0, 0, 0, 1], pick (bodyOf Tryz.f8) [1, 1, 1, 1, 1, 0, 1, 0, 0, 1, 0, 0, 1]], [(1, [pick (bodyOf Tryz.f8) [1, 1, 1, 1, 1, 0, 1, 0, 0, 1, 1], pick (bodyOf Tryz.f8) [1, 1, 1, 1, 1, 0, 1, 0]]), (0, [pick (bodyOf Tryz.f8) [1, 1, 1, 1, 1, 1]])], sl 154 [(0, c1 (vi rr_)), (5, pt 1), (7, c1 (vL flKeyG y13.1)), (9, c1 (vO flV 2 s1.2)), (10, c1 (vi s1.1)), (72, c1 (vB (!decide (y22 = (-1)))))], [none, bx (aV x_), some (arO true flV.sz 0 (flV.f s1.2))]⟩) ?_
 refine ifE hb 0 [72] [] hq (fun hq _ => ?_) (fun hq _ => ?_)
 exact retE hb 5 (he1 _ (injO hq))
 refine drawE hb mixed 2 7 [] ?_
 refine callE hb 2 hq (g_l21_number_ok hb he s1.1) fun y24 hy24 hq => ?_
 refine appOwnE flV hb 5 2 true 0 ((flV.one (Val.mk 4 0 eS [y24, x_] [])).trans (congrArg (fun z => [pI .i64 4, pI .i64 0, pS eS, PV.sl false 2 z, pL flS []]) (flV.two y24 x_))) hq fun l25 hl25 hq => ?_
 exact backE hb 8 [0, 5, 7, 9, 10] [] 3 (hn1 _ (injO hq)) ⟨rfl, (by kernel_rfl), (under_arO _ _ _ _ _), trivial⟩
 refine drawE hb mixed 18 7 [] ?_
 refine callE hb 2 hq (g_l21_number_ok hb he s1.1) fun y26 hy26 hq => ?_
 refine appOwnE flV hb 5 2 true 0 ((flV.one (Val.mk 4 0 eS [y26, x_] [])).trans (congrArg (fun z => [pI .i64 4, pI .i64 0, pS eS, PV.sl false 2 z, pL flS []]) (flV.two y26 x_))) hq fun l27 hl27 hq => ?_
 refine cpE hb 3 [0, 5, 7, 9, 10] (s' := ⟨none, [pick (bodyOf Tryz.f8) [1, 1, 1, 1, 1, 0, 1, 0, 0, 1, 1], pick (bodyOf Tryz.f8) [1, 1, 1, 1, 1, 0, 1, 0]], [(0, [pick (bodyOf Tryz.f8) [1, 1, 1, 1, 1, 1]])], sl 154 [(0, c1 (vi rr_)), (5, pt 1), (7, c1 (vL flKeyG y13.1)), (9, c1 (vO flV 2 l27)), (10, c1 (vi s1.1))], [none, bx (aV x_), some (arO true flV.sz 0 (flV.f l27))]⟩) ?_
 exact backE hb 5 [0, 5, 7, 9, 10] [] 3 (hn1 _ (injO hq)) ⟨rfl, (by kernel_rfl), (under_arO _ _ _ _ _), trivial⟩
 refine markE hb 3 2 true (sz := flV.sz) (fr := 0) (cs := flV.f s1.2) (by kernel_rfl) (Nat.zero_le _) ?_
 refine callME hb 4 (vs := [.cell (vi rr_), .cell (vL flKeyG y13.1), .cell (vO flV 2 s1.2)]) hq (frz_cons (by kernel_rfl) (frz_cons (by kernel_rfl) (frz_cons (frz_cell (frz_own flV (b := true) (id := 2) (fr := (flV.f s1.2).length) (xs := s1.2) (by kernel_rfl))) rfl))) (mark_cons (by kernel_rfl) (mark_cons (by kernel_rfl) (mark_cons (mark_cell (mark_own flV (nb := true) (id := 2) (xs := s1.2) (by kernel_rfl))) rfl))) (g_instances_Collect_ok hb he rr_ y13.1 s1.2) fun y28 hy28 hq => ?_
 refine ifE hb 13 [89] [] hq (fun hq _ => ?_) (fun hq _ => ?_)
 refine ifE hb 6 [91, 92] [] hq (fun hq _ => ?_) (fun hq _ => ?_)
 refine callE hb 4 hq (g_l21_awake_ok hb he ) fun y31 hy31 hq => ?_
 exact retE hb 3 (he1 _ (injO hq))
 refine ifE hb 4 [94, 95, 96] [] hq (fun hq _ => ?_) (fun hq _ => ?_)
 refine callE hb 0 hq (g_l21_awake_ok hb he ) fun y33 hy33 hq => ?_
 exact retE hb 3 (he1 _ (injO hq))
 exact retE hb 4 (he1 _ (injO hq))
 refine cpE hb 8 [0, 7, 9, 11, 13] (s' := ⟨none, [pick (bodyOf Tryz.f8) [1, 1, 1, 1, 1, 1, 1, 1, 0, 1, 0]], [(2, [pick (bodyOf Tryz.f8) [1, 1, 1, 1, 1, 1, 1, 1, 1]])], sl 154 [(0, c1 (vi rr_)), (7, c1 (vL flKeyG y13.1)), (9, c1 (vO flV 2 s1.2)), (11, pt 3), (13, c1 (vi 0))], [none, bx (aV x_), some (arO true flV.sz ((flV.f s1.2).length) (flV.f s1.2)), bx (aV y28.1)]⟩) ?_
 refine loopE hb 0 (g_l21_InstancesKeys_L2 y13 y28 s1) (fun s2 => sl 154 [(0, c1 (vi rr_)), (7, c1 (vL flKeyG y13.1)), (9, c1 (vO flV 2 s1.2)), (11, pt 3), (13, c1 (vi s2))]) (fun s2 => [none, none, some (arO true flV.sz ((flV.f s1.2).length) (flV.f s1.2)), bx (aV y28.1)]) [0, 7, 9, 11, 13] [1] 4 (s0 := 0) ⟨rfl, rfl, (under_arO _ _ _ _ _), (by kernel_rfl), trivial⟩ hq (fun s2 x2 hq hn2 he2 => ?_)
 refine ifE hb 8 [102] [] hq (fun hq _ => ?_) (fun hq _ => ?_)
 refine idxE hb flKeyG 8 hq fun x35 hx35 hq => ?_
 refine callE hb 2 hq (g_l21_number_ok hb he x35.num) fun y36 hy36 hq => ?_
 refine knE hb 9 [112] [] (b := (decide (rr_ = 2))) (v := true) (not_f hc5) ?_
 refine idxE hb flKeyG 4 hq fun x37 hx37 hq => ?_
 refine callE hb 2 hq (g_l21_text_ok hb he x37.str) fun y38 hy38 hq => ?_
 refine callE hb 6 hq (g_ops_Index_ok hb he y28.1 y38) fun y39 hy39 hq => ?_
 refine cpE hb 8 [0, 7, 9, 11, 13, 15, 16] (s' := ⟨none, [pick (bodyOf Tryz.f8) [1, 1, 1, 1, 1, 1, 1, 1, 0, 1, 0, 0, 1, 0, 0, 1, 1, 1, 0], pick (bodyOf Tryz.f8) [1, 1, 1, 1, 1, 1, 1, 1, 0, 1, 0, 0, 1, 0, 0, 1, 1, 1, 1]], [(3, [pick (bodyOf Tryz.f8) [1, 1, 1, 1, 1, 1, 1, 1, 0, 1, 0, 0, 1, 1], pick (bodyOf Tryz.f8) [1, 1, 1, 1, 1, 1, 1, 1, 0, 1, 0]]), (2, [pick (bodyOf Tryz.f8) [1, 1, 1, 1, 1, 1, 1, 1, 1]])], sl 154 [(0, c1 (vi rr_)), (7, c1 (vL flKeyG y13.1)), (9, c1 (vO flV 2 s1.2)), (11, pt 3), (13, c1 (vi s2)), (15, pt 5), (16, c1 (vi y39.2))], [none, none, some (arO true flV.sz ((flV.f s1.2).length) (flV.f s1.2)), bx (aV y28.1), bx (aV y38), bx (aV y39.1)]⟩) ?_
 refine drawE hb mixed 0 8 [] ?_
 refine ifE hb 3 [126, 127] [] hq (fun hq _ => ?_) (fun hq _ => ?_)
 exact retE hb 15 (he1 _ ((he2 _ (injO hq)).symm))
 refine idxOwnE flV hb 3 2 true ((flV.f s1.2).length) hq fun x41 hx41 hq => ?_
 refine loadOwnE flV hb 0 2 true ((flV.f s1.2).length) hx41 ?_
 refine callE hb 1 hq (t_value_Equal_ok hb he y39.1 x41) fun y42 hy42 hq => ?_
 refine ifE hb 3 [134, 135] [] hq (fun hq _ => ?_) (fun hq _ => ?_)
 exact retE hb 5 (he1 _ ((he2 _ (injO hq)).symm))
 exact backE hb 8 [0, 7, 9, 11, 13] [] 4 (hn2 _ (injO hq)) ⟨rfl, rfl, (under_arO _ _ _ _ _), (by kernel_rfl), trivial⟩
 refine knE hb 8 [137] [] (b := (decide (rr_ = 1))) (v := false) (not_t hc4) ?_
 refine callE hb 5 hq (g_instances_Keys_ok hb he 2 y28.1) fun y44 hy44 hq => ?_
 refine ifE hb 11 [145, 146] [] hq (fun hq _ => ?_) (fun hq _ => ?_)
 refine callE hb 2 hq (g_l21_keys_ok hb he y44.1 y13.1) fun y46 hy46 hq => ?_
 refine ifE hb 2 [149, 150, 151] [] hq (fun hq _ => ?_) (fun hq _ => ?_)
 refine callE hb 0 hq (g_l21_awake_ok hb he ) fun y48 hy48 hq => ?_
 exact retE hb 3 (he1 _ ((he2 _ (injO hq)).symm))
 exact retE hb 4 (he1 _ ((he2 _ (injO hq)).symm))
 exact retE hb 9 (he1 _ ((he2 _ (injO hq)).symm))
 refine callE hb 6 hq (rSmall_g hb he x_ 3) fun y49 hy49 hq => ?_
 refine ifE hb 3 [33, 34, 35] [] hq (fun hq _ => ?_) (fun hq _ => ?_)
 refine callE hb 8 hq (g_l21_awake_ok hb he ) fun y51 hy51 hq => ?_
 exact retE hb 2 (injO hq).symm
 refine callE hb 1 hq (rCheck_g hb he x_) fun y52 hy52 hq => ?_
 refine ifE hb 3 [38, 39] [] hq (fun hq _ => ?_) (fun hq _ => ?_)
 refine cpE hb 2 [] (s' := ⟨none, [pick (bodyOf Tryz.f8) [1, 0, 1, 0, 0], pick (bodyOf Tryz.f8) [1, 0, 1, 0, 1], pick (bodyOf Tryz.f8) [1, 1]], [], sl 154 [], [bx (aV v_), bx (aV x_)]⟩) ?_
 refine callE hb 1 hq (g_l21_awake_ok hb he ) fun y54 hy54 hq => ?_
 exact retE hb 2 (injO hq).symm
 refine cpE hb 3 [0, 4, 5] (s' := ⟨none, [pick (bodyOf Tryz.f8) [1, 1, 0], pick (bodyOf Tryz.f8) [1, 1, 1]], [], sl 154 [(0, c1 (vi rr_)), (4, pt 0), (5, pt 1)], [bx (aV v_), bx (aV x_)]⟩) ?_
 refine callE hb 3 hq (g_instances_Keys_ok hb he rr_ v_) fun y55 hy55 hq => ?_
 refine ifE hb 12 [48] [] hq (fun hq _ => ?_) (fun hq _ => ?_)
 refine callE hb 3 hq (g_l21_awake_ok hb he ) fun y57 hy57 hq => ?_
 exact retE hb 2 (injO hq).symm
 refine cpE hb 12 [0, 5, 7, 9, 10] (s' := ⟨none, [pick (bodyOf Tryz.f8) [1, 1, 1, 1, 1, 0, 1, 0]], [(0, [pick (bodyOf Tryz.f8) [1, 1, 1, 1, 1, 1]])], sl 154 [(0, c1 (vi rr_)), (5, pt 1), (7, c1 (vL flKeyG y55.1)), (9, c1 (vN)), (10, c1 (vi 0))], [bx (aV v_), bx (aV x_)]⟩) ?_
 refine ownTE hb 0 9 5 ?_
 refine loopE hb 0 (g_l21_InstancesKeys_L3 rr_ x_ y55) (fun s1 => sl 154 [(0, c1 (vi rr_)), (5, pt 1), (7, c1 (vL flKeyG y55.1)), (9, c1 (vO flV 2 s1.2)), (10, c1 (vi s1.1))]) (fun s1 => [none, bx (aV x_), some (arO true flV.sz 0 (flV.f s1.2))]) [0, 5, 7, 9, 10] [0] 3 (s0 := (0, [])) ⟨rfl, (by kernel_rfl), (under_arO _ _ _ _ _), trivial⟩ hq (fun s1 x1 hq hn1 he1 => ?_)
 refine ifE hb 8 [53] [] hq (fun hq _ => ?_) (fun hq _ => ?_)
 refine drawE hb mixed 6 13 [] ?_
 refine ifE hb 3 [57, 58] [] hq (fun hq _ => ?_) (fun hq _ => ?_)
 refine idxE hb flKeyG 3 hq fun x60 hx60 hq => ?_
 refine callE hb 1 hq (g_l21_place_ok hb he x60) fun y61 hy61 hq => ?_
 refine idxE hb flKeyG 2 hq fun x62 hx62 hq => ?_
 refine callE hb 2 hq (g_l21_place_ok hb he x62) fun y63 hy63 hq => ?_
 refine callE hb 0 hq (g_address_Compare_ok hb he y61 y63) fun y64 hy64 hq => ?_
 refine cpE hb 3 [0, 5, 7, 9, 10, 72] (s' := ⟨none, [pick (bodyOf Tryz.f8) [1, 1, 1, 1, 1, 0, 1, 0, 0, 1, 0, 0, 0, 1], pick (bodyOf Tryz.f8) [1, 1, 1, 1, 1, 0, 1, 0, 0, 1, 0, 0, 1]], [(1, [pick (bodyOf Tryz.f8) [1, 1, 1, 1, 1, 0, 1, 0, 0, 1, 1], pick (bodyOf Tryz.f8) [1, 1, 1, 1, 1, 0, 1, 0]]), (0, [pick (bodyOf Tryz.f8) [1, 1, 1, 1, 1, 1]])], sl 154 [(0, c1 (vi rr_)), (5, pt 1), (7, c1 (vL flKeyG y55.1)), (9, c1 (vO flV 2 s1.2)), (10, c1 (vi s1.1)), (72, c1 (vB (!decide (y64 = (-1)))))], [none, bx (aV x_), some (arO true flV.sz 0 (flV.f s1.2))]⟩) ?_
 refine ifE hb 0 [72] [] hq (fun hq _ => ?_) (fun hq _ => ?_)
 exact retE hb 5 (he1 _ (injO hq))
 refine drawE hb mixed 2 7 [] ?_
 refine callE hb 2 hq (g_l21_number_ok hb he s1.1) fun y66 hy66 hq => ?_
 refine appOwnE flV hb 5 2 true 0 ((flV.one (Val.mk 4 0 eS [y66, x_] [])).trans (congrArg (fun z => [pI .i64 4, pI .i64 0, pS eS, PV.sl false 2 z, pL flS []]) (flV.two y66 x_))) hq fun l67 hl67 hq => ?_
 exact backE hb 8 [0, 5, 7, 9, 10] [] 3 (hn1 _ (injO hq)) ⟨rfl, (by kernel_rfl), (under_arO _ _ _ _ _), trivial⟩
 refine drawE hb mixed 18 7 [] ?_
 refine callE hb 2 hq (g_l21_number_ok hb he s1.1) fun y68 hy68 hq => ?_
 refine appOwnE flV hb 5 2 true 0 ((flV.one (Val.mk 4 0 eS [y68, x_] [])).trans (congrArg (fun z => [pI .i64 4, pI .i64 0, pS eS, PV.sl false 2 z, pL flS []]) (flV.two y68 x_))) hq fun l69 hl69 hq => ?_
 refine cpE hb 3 [0, 5, 7, 9, 10] (s' := ⟨none, [pick (bodyOf Tryz.f8) [1, 1, 1, 1, 1, 0, 1, 0, 0, 1, 1], pick (bodyOf Tryz.f8) [1, 1, 1, 1, 1, 0, 1, 0]], [(0, [pick (bodyOf Tryz.f8) [1, 1, 1, 1, 1, 1]])], sl 154 [(0, c1 (vi rr_)), (5, pt 1), (7, c1 (vL flKeyG y55.1)), (9, c1 (vO flV 2 l69)), (10, c1 (vi s1.1))], [none, bx (aV x_), some (arO true flV.sz 0 (flV.f l69))]⟩) ?_
 exact backE hb 5 [0, 5, 7, 9, 10] [] 3 (hn1 _ (injO hq)) ⟨rfl, (by kernel_rfl), (under_arO _ _ _ _ _), trivial⟩
 refine markE hb 3 2 true (sz := flV.sz) (fr := 0) (cs := flV.f s1.2) (by kernel_rfl) (Nat.zero_le _) ?_
 refine callME hb 4 (vs := [.cell (vi rr_), .cell (vL flKeyG y55.1), .cell (vO flV 2 s1.2)]) hq (frz_cons (by kernel_rfl) (frz_cons (by kernel_rfl) (frz_cons (frz_cell (frz_own flV (b := true) (id := 2) (fr := (flV.f s1.2).length) (xs := s1.2) (by kernel_rfl))) rfl))) (mark_cons (by kernel_rfl) (mark_cons (by kernel_rfl) (mark_cons (mark_cell (mark_own flV (nb := true) (id := 2) (xs := s1.2) (by kernel_rfl))) rfl))) (g_instances_Collect_ok hb he rr_ y55.1 s1.2) fun y70 hy70 hq => ?_
 refine ifE hb 13 [89] [] hq (fun hq _ => ?_) (fun hq _ => ?_)
 refine ifE hb 6 [91, 92] [] hq (fun hq _ => ?_) (fun hq _ => ?_)
 refine callE hb 4 hq (g_l21_awake_ok hb he ) fun y73 hy73 hq => ?_
 exact retE hb 3 (he1 _ (injO hq))
 refine ifE hb 4 [94, 95, 96] [] hq (fun hq _ => ?_) (fun hq _ => ?_)
 refine callE hb 0 hq (g_l21_awake_ok hb he ) fun y75 hy75 hq => ?_
 exact retE hb 3 (he1 _ (injO hq))
 exact retE hb 4 (he1 _ (injO hq))
 refine cpE hb 8 [0, 7, 9, 11, 13] (s' := ⟨none, [pick (bodyOf Tryz.f8) [1, 1, 1, 1, 1, 1, 1, 1, 0, 1, 0]], [(2, [pick (bodyOf Tryz.f8) [1, 1, 1, 1, 1, 1, 1, 1, 1]])], sl 154 [(0, c1 (vi rr_)), (7, c1 (vL flKeyG y55.1)), (9, c1 (vO flV 2 s1.2)), (11, pt 3), (13, c1 (vi 0))], [none, bx (aV x_), some (arO true flV.sz ((flV.f s1.2).length) (flV.f s1.2)), bx (aV y70.1)]⟩) ?_
 refine loopE hb 0 (g_l21_InstancesKeys_L4 rr_ y55 y70 s1) (fun s2 => sl 154 [(0, c1 (vi rr_)), (7, c1 (vL flKeyG y55.1)), (9, c1 (vO flV 2 s1.2)), (11, pt 3), (13, c1 (vi s2))]) (fun s2 => [none, none, some (arO true flV.sz ((flV.f s1.2).length) (flV.f s1.2)), bx (aV y70.1)]) [0, 7, 9, 11, 13] [1] 4 (s0 := 0) ⟨rfl, rfl, (under_arO _ _ _ _ _), (by kernel_rfl), trivial⟩ hq (fun s2 x2 hq hn2 he2 => ?_)
 refine ifE hb 8 [102] [] hq (fun hq _ => ?_) (fun hq _ => ?_)
 refine idxE hb flKeyG 8 hq fun x77 hx77 hq => ?_
 refine callE hb 2 hq (g_l21_number_ok hb he x77.num) fun y78 hy78 hq => ?_
 refine ifE hb 9 [112] [] hq (fun hq _ => ?_) (fun hq _ => ?_)
 refine idxE hb flKeyG 4 hq fun x80 hx80 hq => ?_
 refine callE hb 2 hq (g_l21_text_ok hb he x80.str) fun y81 hy81 hq => ?_
 refine callE hb 6 hq (g_ops_Index_ok hb he y70.1 y81) fun y82 hy82 hq => ?_
 refine cpE hb 8 [0, 7, 9, 11, 13, 15, 16] (s' := ⟨none, [pick (bodyOf Tryz.f8) [1, 1, 1, 1, 1, 1, 1, 1, 0, 1, 0, 0, 1, 0, 0, 1, 1, 1, 0], pick (bodyOf Tryz.f8) [1, 1, 1, 1, 1, 1, 1, 1, 0, 1, 0, 0, 1, 0, 0, 1, 1, 1, 1]], [(3, [pick (bodyOf Tryz.f8) [1, 1, 1, 1, 1, 1, 1, 1, 0, 1, 0, 0, 1, 1], pick (bodyOf Tryz.f8) [1, 1, 1, 1, 1, 1, 1, 1, 0, 1, 0]]), (2, [pick (bodyOf Tryz.f8) [1, 1, 1, 1, 1, 1, 1, 1, 1]])], sl 154 [(0, c1 (vi rr_)), (7, c1 (vL flKeyG y55.1)), (9, c1 (vO flV 2 s1.2)), (11, pt 3), (13, c1 (vi s2)), (15, pt 5), (16, c1 (vi y82.2))], [none, none, some (arO true flV.sz ((flV.f s1.2).length) (flV.f s1.2)), bx (aV y70.1), bx (aV y81), bx (aV y82.1)]⟩) ?_
 refine drawE hb mixed 0 8 [] ?_
 refine ifE hb 3 [126, 127] [] hq (fun hq _ => ?_) (fun hq _ => ?_)
 exact retE hb 15 (he1 _ ((he2 _ (injO hq)).symm))
 refine idxOwnE flV hb 3 2 true ((flV.f s1.2).length) hq fun x84 hx84 hq => ?_
 refine loadOwnE flV hb 0 2 true ((flV.f s1.2).length) hx84 ?_
 refine callE hb 1 hq (t_value_Equal_ok hb he y82.1 x84) fun y85 hy85 hq => ?_
 refine ifE hb 3 [134, 135] [] hq (fun hq _ => ?_) (fun hq _ => ?_)
 exact retE hb 5 (he1 _ ((he2 _ (injO hq)).symm))
 exact backE hb 8 [0, 7, 9, 11, 13] [] 4 (hn2 _ (injO hq)) ⟨rfl, rfl, (under_arO _ _ _ _ _), (by kernel_rfl), trivial⟩
 refine callE hb 6 hq (g_ops_Index_ok hb he y70.1 y78) fun y87 hy87 hq => ?_
 refine drawE hb mixed 8 8 [] ?_
 refine ifE hb 3 [126, 127] [] hq (fun hq _ => ?_) (fun hq _ => ?_)
 refine cpE hb 10 [0, 7, 9, 11, 13, 135] (s' := ⟨none, [pick (bodyOf Tryz.f8) [1, 1, 1, 1, 1, 1, 1, 1, 0, 1, 0, 0, 1, 0, 0, 1, 1, 1, 1]], [(3, [pick (bodyOf Tryz.f8) [1, 1, 1, 1, 1, 1, 1, 1, 0, 1, 0, 0, 1, 1], pick (bodyOf Tryz.f8) [1, 1, 1, 1, 1, 1, 1, 1, 0, 1, 0]]), (2, [pick (bodyOf Tryz.f8) [1, 1, 1, 1, 1, 1, 1, 1, 1]])], sl 154 [(0, c1 (vi rr_)), (7, c1 (vL flKeyG y55.1)), (9, c1 (vO flV 2 s1.2)), (11, pt 3), (13, c1 (vi s2)), (135, c1 (vB true))], [none, none, some (arO true flV.sz ((flV.f s1.2).length) (flV.f s1.2)), bx (aV y70.1), bx (aV y78), bx (aV y87.1)]⟩) ?_
 exact retE hb 5 (he1 _ ((he2 _ (injO hq)).symm))
 refine idxOwnE flV hb 3 2 true ((flV.f s1.2).length) hq fun x89 hx89 hq => ?_
 refine loadOwnE flV hb 0 2 true ((flV.f s1.2).length) hx89 ?_
 refine callE hb 1 hq (t_value_Equal_ok hb he y87.1 x89) fun y90 hy90 hq => ?_
 refine cpE hb 3 [0, 7, 9, 11, 13, 135] (s' := ⟨none, [pick (bodyOf Tryz.f8) [1, 1, 1, 1, 1, 1, 1, 1, 0, 1, 0, 0, 1, 0, 0, 1, 1, 1, 1]], [(3, [pick (bodyOf Tryz.f8) [1, 1, 1, 1, 1, 1, 1, 1, 0, 1, 0, 0, 1, 1], pick (bodyOf Tryz.f8) [1, 1, 1, 1, 1, 1, 1, 1, 0, 1, 0]]), (2, [pick (bodyOf Tryz.f8) [1, 1, 1, 1, 1, 1, 1, 1, 1]])], sl 154 [(0, c1 (vi rr_)), (7, c1 (vL flKeyG y55.1)), (9, c1 (vO flV 2 s1.2)), (11, pt 3), (13, c1 (vi s2)), (135, c1 (vB (!y90)))], [none, none, some (arO true flV.sz ((flV.f s1.2).length) (flV.f s1.2)), bx (aV y70.1), bx (aV y78), bx (aV y87.1)]⟩) ?_
 refine ifE hb 0 [135] [] hq (fun hq _ => ?_) (fun hq _ => ?_)
 exact retE hb 5 (he1 _ ((he2 _ (injO hq)).symm))
 exact backE hb 8 [0, 7, 9, 11, 13] [] 4 (hn2 _ (injO hq)) ⟨rfl, rfl, (under_arO _ _ _ _ _), (by kernel_rfl), trivial⟩
 refine knE hb 8 [137] [] (b := (decide (rr_ = 1))) (v := true) (not_f hc4) ?_
 refine callE hb 3 hq (g_l21_awake_ok hb he ) fun y92 hy92 hq => ?_
 exact retE hb 2 (he1 _ ((he2 _ (injO hq)).symm))
end Abs
end Go.Proofs.YtodgepbihbcdbaaGreatDoor
