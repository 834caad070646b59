/-
  Schema: Go functions as functions over plain values, with the proof that the code computes them; printed by gen.py.
-/
import Derived.Test.YtkffpfapfljinaaGreatDoorFnA
import Derived.Test.YtkffpfapfljinaaGreatDoorAbsN
namespace Go.Proofs.YtkffpfapfljinaaGreatDoor
namespace Abs
open Go.RowKit
variable {E : World → Prop} {E0 : Nat} {G : Nat → Option (List PV)}
set_option maxRecDepth 100000
set_option linter.unusedVariables false
set_option linter.unusedSimpArgs false
attribute [local irreducible] adv J KE KO mPut mSto mBool mFrm mDraw hedS unl Pure Ok sl loopO awpL awp asq asqD asqX asqF
noncomputable def gQ75 (r_value_Equal : Val → Val → Option (Bool)) (s1_ : List Val) (s2_ : List Val) (s1 : Int) : Option ((Int) ⊕ (Bool)) :=
 bif (decide (s1 < (s1_.length : Int))) then (idx s1_ s1).bind fun x3 => (idx s2_ s1).bind fun x4 => (r_value_Equal x3 x4).bind fun y5 => bif (!y5) then some (.inr (false)) else some (.inl (IntKind.i64.wrap (s1 + 1))) else some (.inr (true))
noncomputable def gQ74 (r_value_Equal : Val → Val → Option (Bool)) (s1_ : List Val) (s2_ : List Val) : Option (Bool) :=
 bif (!decide ((s1_.length : Int) = (s2_.length : Int))) then some (false) else loopO (gQ75 r_value_Equal s1_ s2_) 0
theorem gQ76 (hb : Base E E0 G) (he : ∀ w, E w → EnvV w) (r_value_Equal : Val → Val → Option (Bool)) (hr_value_Equal : ∀ (a0 : Val) (a1 : Val) (r : Bool), r_value_Equal a0 a1 = some r → Pure E E0 Tryz.prog 20 [.agg (aV a0), .agg (aV a1)] (c1 (vB r))) (s1_ : List Val) (s2_ : List Val) : ∀ r_ : Bool, gQ74 r_value_Equal s1_ s2_ = some r_ →
 Pure E E0 Tryz.prog 67 [.cell (vL flV s1_), .cell (vL flV s2_), .cell (.pv (.sc (.func (.func 20) #[] #[])))] (c1 (vB r_)) := by
 refine fnE hb Tryz.func67 rfl fun r_ hq => ?_
 refine ifE hb 13 [14] [] hq (fun hq _ => ?_) (fun hq _ => ?_)
 exact retE hb 5 (injO hq).symm
 refine loopE hb 10 (gQ75 r_value_Equal s1_ s2_) (fun s1 => sl 32 [(1, c1 (vL flV s2_)), (2, c1 (.pv (.sc (.func (.func 20) #[] #[])))), (15, c1 (vL flV s1_)), (16, c1 (vi (s1_.length : Int))), (17, c1 (vi s1))]) (fun s1 => []) [1, 2, 15, 16, 17] [] 0 (s0 := 0) trivial hq (fun s1 x1 hq hn1 he1 => ?_)
 refine ifE hb 5 [18] [] hq (fun hq _ => ?_) (fun hq _ => ?_)
 refine idxE hb flV 7 hq fun x3 hx3 hq => ?_
 refine idxE hb flV 9 hq fun x4 hx4 hq => ?_
 refine callE hb 9 hq (hr_value_Equal x3 x4) fun y5 hy5 hq => ?_
 refine ifE hb 2 [30] [] hq (fun hq _ => ?_) (fun hq _ => ?_)
 exact retE hb 5 (he1 _ (injO hq))
 exact backE hb 7 [1, 2, 15, 16, 17] [] 0 (hn1 _ (injO hq)) trivial
 exact retE hb 6 (he1 _ (injO hq))
noncomputable def gQ72 (r_value_Equal : Val → Val → Option (Bool)) (a_ : Val) (b_ : Val) : Option (Bool) :=
 bif (decide (a_.kind = b_.kind)) then bif (decide (a_.num = b_.num)) then bif (decide (a_.str = b_.str)) then (gQ63 a_.keys b_.keys).bind fun y4 => bif y4 then (gQ74 r_value_Equal a_.items b_.items).bind fun y6 => some (y6) else some (false) else some (false) else some (false) else some (false)
theorem gQ73 (hb : Base E E0 G) (he : ∀ w, E w → EnvV w) (r_value_Equal : Val → Val → Option (Bool)) (hr_value_Equal : ∀ (a0 : Val) (a1 : Val) (r : Bool), r_value_Equal a0 a1 = some r → Pure E E0 Tryz.prog 20 [.agg (aV a0), .agg (aV a1)] (c1 (vB r))) (a_ : Val) (b_ : Val) : ∀ r_ : Bool, gQ72 r_value_Equal a_ b_ = some r_ →
 Pure E E0 Tryz.prog 20 [.agg (aV a_), .agg (aV b_)] (c1 (vB r_)) := by
 refine fnE hb Tryz.func20 rfl fun r_ hq => ?_
 refine ifE hb 14 [9, 10] [] hq (fun hq _ => ?_) (fun hq _ => ?_)
 refine ifE hb 7 [15, 16, 17] [] hq (fun hq _ => ?_) (fun hq _ => ?_)
 refine ifE hb 7 [22, 23, 24] [] hq (fun hq _ => ?_) (fun hq _ => ?_)
 refine callE hb 4 hq (gQ65 hb he a_.keys b_.keys) fun y4 hy4 hq => ?_
 refine ifE hb 2 [29, 30, 31] [] hq (fun hq _ => ?_) (fun hq _ => ?_)
 refine callE hb 4 hq (gQ76 hb he r_value_Equal hr_value_Equal a_.items b_.items) fun y6 hy6 hq => ?_
 exact retE hb 3 (injO hq).symm
 exact retE hb 8 (injO hq).symm
 exact retE hb 15 (injO hq).symm
 exact retE hb 22 (injO hq).symm
 exact retE hb 29 (injO hq).symm
noncomputable def tQ8y (rec : Val → Val → Option (Bool)) (a : Val) (b : Val) : Option (Bool) :=
 gQ72 (fun a0 a1 => rec a0 a1) a b
noncomputable def tQ8w (a0 : Val) (a1 : Val) : Option (Bool) := tieF relV wfV tQ8y a0 a1
theorem tQ8x (hb : Base E E0 G) (he : ∀ w, E w → EnvV w) (a0 : Val) (a1 : Val) (r : Bool) (hq : tQ8w a0 a1 = some r) : Pure E E0 Tryz.prog 20 [.agg (aV a0), .agg (aV a1)] (c1 (vB r)) :=
 tieF_ok (C := fun a b r => Pure E E0 Tryz.prog 20 [.agg (aV a), .agg (aV b)] (c1 (vB r))) (fun rec hr a b r hq => gQ73 hb he (fun a0 a1 => rec a0 a1) (fun a0 a1 r e => hr a0 a1 r e) a b r hq) a0 a1 r hq
noncomputable def gQ7a (r_value_Known : Val → Option (Bool)) (x_ : Val) : Option (Bool) :=
 (r_value_Known x_).bind fun y1 => some (!y1)
theorem gQ7b (hb : Base E E0 G) (he : ∀ w, E w → EnvV w) (r_value_Known : Val → Option (Bool)) (hr_value_Known : ∀ (a0 : Val) (r : Bool), r_value_Known a0 = some r → Pure E E0 Tryz.prog 33 [.agg (aV a0)] (c1 (vB r))) (x_ : Val) : ∀ r_ : Bool, gQ7a r_value_Known x_ = some r_ →
 Pure E E0 Tryz.prog 83 [.agg (aV x_)] (c1 (vB r_)) := by
 refine fnE hb Tryz.func83 rfl fun r_ hq => ?_
 refine callE hb 8 hq (hr_value_Known x_) fun y1 hy1 hq => ?_
 exact retE hb 3 (injO hq).symm
noncomputable def gQ7g (r_value_Known_1 : Val → Option (Bool)) (s_ : List Val) (s1 : Int) : Option ((Int) ⊕ (Int)) :=
 bif (decide (s1 < (s_.length : Int))) then (idx s_ s1).bind fun x2 => (r_value_Known_1 x2).bind fun y3 => bif y3 then some (.inr (s1)) else some (.inl (IntKind.i64.wrap (s1 + 1))) else some (.inr (-1))
noncomputable def gQ7f (r_value_Known_1 : Val → Option (Bool)) (s_ : List Val) : Option (Int) :=
 loopO (gQ7g r_value_Known_1 s_) 0
theorem gQ7h (hb : Base E E0 G) (he : ∀ w, E w → EnvV w) (r_value_Known_1 : Val → Option (Bool)) (hr_value_Known_1 : ∀ (a0 : Val) (r : Bool), r_value_Known_1 a0 = some r → Pure E E0 Tryz.prog 83 [.agg (aV a0)] (c1 (vB r))) (s_ : List Val) : ∀ r_ : Int, gQ7f r_value_Known_1 s_ = some r_ →
 Pure E E0 Tryz.prog 125 [.cell (vL flV s_), .cell (.pv (.sc (.func (.func 83) #[] #[])))] (c1 (vi r_)) := by
 refine fnE hb Tryz.func125 rfl fun r_ hq => ?_
 refine loopE hb 12 (gQ7g r_value_Known_1 s_) (fun s1 => sl 19 [(0, c1 (vL flV s_)), (1, c1 (.pv (.sc (.func (.func 83) #[] #[])))), (7, c1 (vi (s_.length : Int))), (8, c1 (vi s1))]) (fun s1 => []) [0, 1, 7, 8] [] 0 (s0 := 0) trivial hq (fun s1 x1 hq hn1 he1 => ?_)
 refine ifE hb 5 [9] [] hq (fun hq _ => ?_) (fun hq _ => ?_)
 refine idxE hb flV 14 hq fun x2 hx2 hq => ?_
 refine callE hb 1 hq (hr_value_Known_1 x2) fun y3 hy3 hq => ?_
 refine ifE hb 1 [16] [] hq (fun hq _ => ?_) (fun hq _ => ?_)
 exact retE hb 6 (he1 _ (injO hq))
 exact backE hb 7 [0, 1, 7, 8] [] 0 (hn1 _ (injO hq)) trivial
 exact retE hb 6 (he1 _ (injO hq))
noncomputable def gQ7d (r_value_Known_1 : Val → Option (Bool)) (s_ : List Val) : Option (Bool) :=
 (gQ7f r_value_Known_1 s_).bind fun y1 => some (decide (y1 ≥ 0))
theorem gQ7e (hb : Base E E0 G) (he : ∀ w, E w → EnvV w) (r_value_Known_1 : Val → Option (Bool)) (hr_value_Known_1 : ∀ (a0 : Val) (r : Bool), r_value_Known_1 a0 = some r → Pure E E0 Tryz.prog 83 [.agg (aV a0)] (c1 (vB r))) (s_ : List Val) : ∀ r_ : Bool, gQ7d r_value_Known_1 s_ = some r_ →
 Pure E E0 Tryz.prog 82 [.cell (vL flV s_), .cell (.pv (.sc (.func (.func 83) #[] #[])))] (c1 (vB r_)) := by
 refine fnE hb Tryz.func82 rfl fun r_ hq => ?_
 refine callE hb 8 hq (gQ7h hb he r_value_Known_1 hr_value_Known_1 s_) fun y1 hy1 hq => ?_
 exact retE hb 3 (injO hq).symm
noncomputable def gQ79 (r_value_Known_1 : Val → Option (Bool)) (v_ : Val) : Option (Bool) :=
 bif (!decide (v_.kind = 6)) then (gQ7d r_value_Known_1 v_.items).bind fun y2 => some (!y2) else some (false)
theorem gQ7c (hb : Base E E0 G) (he : ∀ w, E w → EnvV w) (r_value_Known_1 : Val → Option (Bool)) (hr_value_Known_1 : ∀ (a0 : Val) (r : Bool), r_value_Known_1 a0 = some r → Pure E E0 Tryz.prog 83 [.agg (aV a0)] (c1 (vB r))) (v_ : Val) : ∀ r_ : Bool, gQ79 r_value_Known_1 v_ = some r_ →
 Pure E E0 Tryz.prog 33 [.agg (aV v_)] (c1 (vB r_)) := by
 refine fnE hb Tryz.func33 rfl fun r_ hq => ?_
 refine ifE hb 11 [5, 6] [] hq (fun hq _ => ?_) (fun hq _ => ?_)
 refine callE hb 2 hq (gQ7e hb he r_value_Known_1 hr_value_Known_1 v_.items) fun y2 hy2 hq => ?_
 exact retE hb 4 (injO hq).symm
 exact retE hb 7 (injO hq).symm
noncomputable def tQ91 (rec : Val → Unit → Option (Bool)) (a : Val) (b : Unit) : Option (Bool) :=
 gQ79 (gQ7a (fun a0 => rec a0 ())) a
noncomputable def tQ8z (a0 : Val) : Option (Bool) := tieF relV wfV tQ91 a0 ()
theorem tQ90 (hb : Base E E0 G) (he : ∀ w, E w → EnvV w) (a0 : Val) (r : Bool) (hq : tQ8z a0 = some r) : Pure E E0 Tryz.prog 33 [.agg (aV a0)] (c1 (vB r)) :=
 tieF_ok (C := fun a b r => Pure E E0 Tryz.prog 33 [.agg (aV a)] (c1 (vB r))) (fun rec hr a b r hq => gQ7c hb he (gQ7a (fun a0 => rec a0 ())) (gQ7b hb he (fun a0 => rec a0 ()) (fun a0 r e => hr a0 () r e)) a r hq) a0 () r hq
noncomputable def gQ4q  (a_ : Val) (b_ : Val) : Option (Bool) :=
 (tQ8w a_ b_).bind fun y1 => bif (!y1) then some (true) else (tQ8z a_).bind fun y3 => bif (!y3) then some (true) else (tQ8z b_).bind fun y5 => some (!y5)
theorem gQ4r (hb : Base E E0 G) (he : ∀ w, E w → EnvV w)   (a_ : Val) (b_ : Val) : ∀ r_ : Bool, gQ4q a_ b_ = some r_ →
 Pure E E0 Tryz.prog 76 [.agg (aV a_), .agg (aV b_)] (c1 (vB r_)) := by
 refine fnE hb Tryz.func76 rfl fun r_ hq => ?_
 refine callE hb 10 hq (tQ8x hb he a_ b_) fun y1 hy1 hq => ?_
 refine ifE hb 2 [8, 9] [] hq (fun hq _ => ?_) (fun hq _ => ?_)
 exact retE hb 11 (injO hq).symm
 refine callE hb 1 hq (tQ90 hb he a_) fun y3 hy3 hq => ?_
 refine ifE hb 3 [12, 13, 14] [] hq (fun hq _ => ?_) (fun hq _ => ?_)
 exact retE hb 6 (injO hq).symm
 refine callE hb 1 hq (tQ90 hb he b_) fun y5 hy5 hq => ?_
 exact retE hb 4 (injO hq).symm
noncomputable def gQ48 (s1 : Int × Bool × List Val × List ByteArray × List Int) (s2 : Bool × Int × List Val) : Option ((Bool × Int × List Val) ⊕ ((Int × Bool × List Val × List ByteArray × List Int) ⊕ (Val))) :=
 bif (decide (s2.2.1 < (s1.2.2.2.2.length : Int))) then (idx s1.2.2.2.2 s2.2.1).bind fun x50 => bif s2.1 then (gQ7v).bind fun y52 => (idx s2.2.2 x50).bind fun x53 => some (.inl (true, (IntKind.i64.wrap (s2.2.1 + 1)), (upd s2.2.2 x50 y52))) else some (.inl (false, (IntKind.i64.wrap (s2.2.1 + 1)), s2.2.2)) else some (.inr (.inr (Val.mk 5 0 eS s2.2.2 s1.2.2.2.1)))
noncomputable def gQ47 (s_ : SchemaG) (prior_ : Val) (config_ : Val) (y1 : List ByteArray) (s1 : Int × Bool × List Val × List ByteArray × List Int) : Option ((Int × Bool × List Val × List ByteArray × List Int) ⊕ (Val)) :=
 bif (decide (s1.1 < (y1.length : Int))) then (idx y1 s1.1).bind fun x3 => (gQ5i prior_ x3).bind fun y4 => (gQ5i config_ x3).bind fun y5 => (gQ43 s_ x3).bind fun y6 => bif y6.2 then bif (decide (y6.1.mode = 3)) then bif (decide (prior_.kind = 0)) then (gQ7v).bind fun y10 => (app 16 s1.2.2.2.1 [x3]).bind fun l11 => (app 80 s1.2.2.1 [y10]).bind fun l12 => some (.inl ((IntKind.i64.wrap (s1.1 + 1)), s1.2.1, l12, l11, s1.2.2.2.2)) else bif y6.1.volatile then (app 8 s1.2.2.2.2 [s1.1]).bind fun l14 => (app 16 s1.2.2.2.1 [x3]).bind fun l15 => (app 80 s1.2.2.1 [y4]).bind fun l16 => some (.inl ((IntKind.i64.wrap (s1.1 + 1)), s1.2.1, l16, l15, l14)) else (app 16 s1.2.2.2.1 [x3]).bind fun l17 => (app 80 s1.2.2.1 [y4]).bind fun l18 => some (.inl ((IntKind.i64.wrap (s1.1 + 1)), s1.2.1, l18, l17, s1.2.2.2.2)) else bif (decide (y6.1.mode = 4)) then bif (decide (y5.kind = 0)) then bif (decide (prior_.kind = 0)) then (gQ7v).bind fun y22 => (app 16 s1.2.2.2.1 [x3]).bind fun l23 => (app 80 s1.2.2.1 [y22]).bind fun l24 => some (.inl ((IntKind.i64.wrap (s1.1 + 1)), s1.2.1, l24, l23, s1.2.2.2.2)) else bif y6.1.volatile then (app 8 s1.2.2.2.2 [s1.1]).bind fun l26 => (app 16 s1.2.2.2.1 [x3]).bind fun l27 => (app 80 s1.2.2.1 [y4]).bind fun l28 => some (.inl ((IntKind.i64.wrap (s1.1 + 1)), s1.2.1, l28, l27, l26)) else (app 16 s1.2.2.2.1 [x3]).bind fun l29 => (app 80 s1.2.2.1 [y4]).bind fun l30 => some (.inl ((IntKind.i64.wrap (s1.1 + 1)), s1.2.1, l30, l29, s1.2.2.2.2)) else bif s1.2.1 then (app 16 s1.2.2.2.1 [x3]).bind fun l32 => (app 80 s1.2.2.1 [y5]).bind fun l33 => some (.inl ((IntKind.i64.wrap (s1.1 + 1)), true, l33, l32, s1.2.2.2.2)) else (gQ4q y5 y4).bind fun y34 => (app 16 s1.2.2.2.1 [x3]).bind fun l35 => (app 80 s1.2.2.1 [y5]).bind fun l36 => some (.inl ((IntKind.i64.wrap (s1.1 + 1)), y34, l36, l35, s1.2.2.2.2)) else bif s1.2.1 then (app 16 s1.2.2.2.1 [x3]).bind fun l38 => (app 80 s1.2.2.1 [y5]).bind fun l39 => some (.inl ((IntKind.i64.wrap (s1.1 + 1)), true, l39, l38, s1.2.2.2.2)) else (gQ4q y5 y4).bind fun y40 => (app 16 s1.2.2.2.1 [x3]).bind fun l41 => (app 80 s1.2.2.1 [y5]).bind fun l42 => some (.inl ((IntKind.i64.wrap (s1.1 + 1)), y40, l42, l41, s1.2.2.2.2)) else bif s1.2.1 then (app 16 s1.2.2.2.1 [x3]).bind fun l44 => (app 80 s1.2.2.1 [y5]).bind fun l45 => some (.inl ((IntKind.i64.wrap (s1.1 + 1)), true, l45, l44, s1.2.2.2.2)) else (gQ4q y5 y4).bind fun y46 => (app 16 s1.2.2.2.1 [x3]).bind fun l47 => (app 80 s1.2.2.1 [y5]).bind fun l48 => some (.inl ((IntKind.i64.wrap (s1.1 + 1)), y46, l48, l47, s1.2.2.2.2)) else loopO (gQ48 s1) (s1.2.1, 0, s1.2.2.1)
noncomputable def gQ46  (s_ : SchemaG) (prior_ : Val) (config_ : Val) : Option (Val) :=
 (gQ5n s_).bind fun y1 => loopO (gQ47 s_ prior_ config_ y1) (0, false, [], [], [])
theorem gQ49 (hb : Base E E0 G) (he : ∀ w, E w → EnvV w)   (s_ : SchemaG) (prior_ : Val) (config_ : Val) : ∀ r_ : Val, gQ46 s_ prior_ config_ = some r_ →
 Pure E E0 Tryz.prog 25 [.agg [vL flAttrG s_.attrs, vL flNestedG s_.nested], .agg (aV prior_), .agg (aV config_)] (.one (.agg (aV r_))) := by
 refine fnE hb Tryz.func25 rfl fun r_ hq => ?_
 refine callE hb 25 hq (gQ5o hb he s_) fun y1 hy1 hq => ?_
 refine ownSE hb 4 4 3 5 (cs := [vi 5, vi 0, vS eS, vN, vN]) (by kernel_rfl) ?_
 refine ownSE hb 0 4 4 1 (cs := [vi 5, vi 0, vS eS, vO flV 5 [], vN]) (by kernel_rfl) ?_
 refine ownTE hb 0 9 1 ?_
 refine loopE hb 0 (gQ47 s_ prior_ config_ y1) (fun s1 => sl 106 [(3, pt 0), (4, pt 1), (5, pt 2), (6, pt 3), (7, pt 4), (8, c1 (vB s1.2.1)), (9, c1 (vO (flI .i64) 7 s1.2.2.2.2)), (21, c1 (vL flS y1)), (22, c1 (vi (y1.length : Int))), (23, c1 (vi s1.1))]) (fun s1 => [bx [vL flAttrG s_.attrs, vL flNestedG s_.nested], bx (aV prior_), bx (aV config_), bx zV, bx [vi 5, vi 0, vS eS, vO flV 5 s1.2.2.1, vO flS 6 s1.2.2.2.1], some (arO true flV.sz 0 (flV.f s1.2.2.1)), some (arO true flS.sz 0 (flS.f s1.2.2.2.1)), some (arO true (flI .i64).sz 0 ((flI .i64).f s1.2.2.2.2))]) [3, 4, 5, 6, 7, 8, 9, 21, 22, 23] [] 8 (s0 := (0, false, [], [], [])) ⟨(by kernel_rfl), (by kernel_rfl), (by kernel_rfl), (by kernel_rfl), (by kernel_rfl), (under_arO _ _ _ _ _), (under_arO _ _ _ _ _), (under_arO _ _ _ _ _), trivial⟩ hq (fun s1 x1 hq hn1 he1 => ?_)
 refine ifE hb 5 [24] [] hq (fun hq _ => ?_) (fun hq _ => ?_)
 refine idxE hb flS 7 hq fun x3 hx3 hq => ?_
 refine drawE hb mixed 5 8 [] ?_
 refine callE hb 2 hq (gQ5j hb he prior_ x3) fun y4 hy4 hq => ?_
 refine callE hb 2 hq (gQ5j hb he config_ x3) fun y5 hy5 hq => ?_
 refine cpE hb 7 [3, 4, 5, 6, 7, 8, 9, 10, 11, 12, 13, 21, 22, 23] (s' := ⟨none, [pick (bodyOf Tryz.f25) [1, 1, 1, 1, 0, 1, 0, 0, 1, 1, 0, 0, 1, 1, 0], pick (bodyOf Tryz.f25) [1, 1, 1, 1, 0, 1, 0, 0, 1, 1, 0, 0, 1, 1, 1]], [(1, [pick (bodyOf Tryz.f25) [1, 1, 1, 1, 0, 1, 0, 0, 1, 1, 1], pick (bodyOf Tryz.f25) [1, 1, 1, 1, 0, 1, 0]]), (0, [pick (bodyOf Tryz.f25) [1, 1, 1, 1, 1]])], sl 106 [(3, pt 0), (4, pt 1), (5, pt 2), (6, pt 3), (7, pt 4), (8, c1 (vB s1.2.1)), (9, c1 (vO (flI .i64) 7 s1.2.2.2.2)), (10, c1 (vi s1.1)), (11, c1 (vS x3)), (12, pt 8), (13, pt 9), (21, c1 (vL flS y1)), (22, c1 (vi (y1.length : Int))), (23, c1 (vi s1.1))], [bx [vL flAttrG s_.attrs, vL flNestedG s_.nested], bx (aV prior_), bx (aV config_), bx zV, bx [vi 5, vi 0, vS eS, vO flV 5 s1.2.2.1, vO flS 6 s1.2.2.2.1], some (arO true flV.sz 0 (flV.f s1.2.2.1)), some (arO true flS.sz 0 (flS.f s1.2.2.2.1)), some (arO true (flI .i64).sz 0 ((flI .i64).f s1.2.2.2.2)), bx (aV y4), bx (aV y5)]⟩) ?_
 refine callE hb 3 hq (gQ45 hb he s_ x3) fun y6 hy6 hq => ?_
 refine ifE hb 11 [15, 39, 40, 41] [] hq (fun hq _ => ?_) (fun hq _ => ?_)
 refine ifE hb 4 [44, 45] [] hq (fun hq _ => ?_) (fun hq _ => ?_)
 refine ifE hb 24 [62, 67, 68] [] hq (fun hq _ => ?_) (fun hq _ => ?_)
 refine callE hb 2 hq (gQ7w hb he ) fun y10 hy10 hq => ?_
 refine appOwnE flS hb 9 6 true 0 (flS.one x3) hq fun l11 hl11 hq => ?_
 refine appOwnE flV hb 8 5 true 0 (flV.one y10) hq fun l12 hl12 hq => ?_
 refine cpE hb 4 [3, 4, 5, 6, 7, 8, 9, 21, 22, 23] (s' := ⟨none, [pick (bodyOf Tryz.f25) [1, 1, 1, 1, 0, 1, 0, 0, 1, 1, 1], pick (bodyOf Tryz.f25) [1, 1, 1, 1, 0, 1, 0]], [(0, [pick (bodyOf Tryz.f25) [1, 1, 1, 1, 1]])], sl 106 [(3, pt 0), (4, pt 1), (5, pt 2), (6, pt 3), (7, pt 4), (8, c1 (vB s1.2.1)), (9, c1 (vO (flI .i64) 7 s1.2.2.2.2)), (21, c1 (vL flS y1)), (22, c1 (vi (y1.length : Int))), (23, c1 (vi s1.1))], [bx [vL flAttrG s_.attrs, vL flNestedG s_.nested], bx (aV prior_), bx (aV config_), bx zV, bx [vi 5, vi 0, vS eS, vO flV 5 l12, vO flS 6 l11], some (arO true flV.sz 0 (flV.f l12)), some (arO true flS.sz 0 (flS.f l11)), some (arO true (flI .i64).sz 0 ((flI .i64).f s1.2.2.2.2)), bx (aV y4), bx (aV y10), bx [vS y6.1.name, vi y6.1.type_.kind, vL flT y6.1.type_.elems, vL flS y6.1.type_.names, vi y6.1.mode, vB y6.1.replace, vB y6.1.sensitive, vB y6.1.volatile]]⟩) ?_
 exact backE hb 4 [3, 4, 5, 6, 7, 8, 9, 21, 22, 23] [] 8 (hn1 _ (injO hq)) ⟨(by kernel_rfl), (by kernel_rfl), (by kernel_rfl), (by kernel_rfl), (by kernel_rfl), (under_arO _ _ _ _ _), (under_arO _ _ _ _ _), (under_arO _ _ _ _ _), trivial⟩
 refine ifE hb 17 [74] [] hq (fun hq _ => ?_) (fun hq _ => ?_)
 refine appOwnE (flI .i64) hb 5 7 true 0 ((flI .i64).one s1.1) hq fun l14 hl14 hq => ?_
 refine appOwnE flS hb 9 6 true 0 (flS.one x3) hq fun l15 hl15 hq => ?_
 refine cpE hb 3 [3, 4, 5, 6, 7, 8, 9, 13, 21, 22, 23] (s' := ⟨none, [pick (bodyOf Tryz.f25) [1, 1, 1, 1, 0, 1, 0, 0, 1, 1, 0, 0, 1, 1, 1, 1, 1, 1]], [(1, [pick (bodyOf Tryz.f25) [1, 1, 1, 1, 0, 1, 0, 0, 1, 1, 1], pick (bodyOf Tryz.f25) [1, 1, 1, 1, 0, 1, 0]]), (0, [pick (bodyOf Tryz.f25) [1, 1, 1, 1, 1]])], sl 106 [(3, pt 0), (4, pt 1), (5, pt 2), (6, pt 3), (7, pt 4), (8, c1 (vB s1.2.1)), (9, c1 (vO (flI .i64) 7 l14)), (13, pt 9), (21, c1 (vL flS y1)), (22, c1 (vi (y1.length : Int))), (23, c1 (vi s1.1))], [bx [vL flAttrG s_.attrs, vL flNestedG s_.nested], bx (aV prior_), bx (aV config_), bx zV, bx [vi 5, vi 0, vS eS, vO flV 5 s1.2.2.1, vO flS 6 l15], some (arO true flV.sz 0 (flV.f s1.2.2.1)), some (arO true flS.sz 0 (flS.f l15)), some (arO true (flI .i64).sz 0 ((flI .i64).f l14)), bx (aV y4), bx (aV y4), bx [vS y6.1.name, vi y6.1.type_.kind, vL flT y6.1.type_.elems, vL flS y6.1.type_.names, vi y6.1.mode, vB y6.1.replace, vB y6.1.sensitive, vB y6.1.volatile]]⟩) ?_
 refine appOwnE flV hb 5 5 true 0 (flV.one y4) hq fun l16 hl16 hq => ?_
 exact backE hb 8 [3, 4, 5, 6, 7, 8, 9, 21, 22, 23] [] 8 (hn1 _ (injO hq)) ⟨(by kernel_rfl), (by kernel_rfl), (by kernel_rfl), (by kernel_rfl), (by kernel_rfl), (under_arO _ _ _ _ _), (under_arO _ _ _ _ _), (under_arO _ _ _ _ _), trivial⟩
 refine appOwnE flS hb 9 6 true 0 (flS.one x3) hq fun l17 hl17 hq => ?_
 refine appOwnE flV hb 8 5 true 0 (flV.one y4) hq fun l18 hl18 hq => ?_
 refine cpE hb 4 [3, 4, 5, 6, 7, 8, 9, 21, 22, 23] (s' := ⟨none, [pick (bodyOf Tryz.f25) [1, 1, 1, 1, 0, 1, 0, 0, 1, 1, 1], pick (bodyOf Tryz.f25) [1, 1, 1, 1, 0, 1, 0]], [(0, [pick (bodyOf Tryz.f25) [1, 1, 1, 1, 1]])], sl 106 [(3, pt 0), (4, pt 1), (5, pt 2), (6, pt 3), (7, pt 4), (8, c1 (vB s1.2.1)), (9, c1 (vO (flI .i64) 7 s1.2.2.2.2)), (21, c1 (vL flS y1)), (22, c1 (vi (y1.length : Int))), (23, c1 (vi s1.1))], [bx [vL flAttrG s_.attrs, vL flNestedG s_.nested], bx (aV prior_), bx (aV config_), bx zV, bx [vi 5, vi 0, vS eS, vO flV 5 l18, vO flS 6 l17], some (arO true flV.sz 0 (flV.f l18)), some (arO true flS.sz 0 (flS.f l17)), some (arO true (flI .i64).sz 0 ((flI .i64).f s1.2.2.2.2)), bx (aV y4), bx (aV y4), bx [vS y6.1.name, vi y6.1.type_.kind, vL flT y6.1.type_.elems, vL flS y6.1.type_.names, vi y6.1.mode, vB y6.1.replace, vB y6.1.sensitive, vB y6.1.volatile]]⟩) ?_
 exact backE hb 4 [3, 4, 5, 6, 7, 8, 9, 21, 22, 23] [] 8 (hn1 _ (injO hq)) ⟨(by kernel_rfl), (by kernel_rfl), (by kernel_rfl), (by kernel_rfl), (by kernel_rfl), (under_arO _ _ _ _ _), (under_arO _ _ _ _ _), (under_arO _ _ _ _ _), trivial⟩
 refine ifE hb 4 [48, 49] [] hq (fun hq _ => ?_) (fun hq _ => ?_)
 refine ifE hb 14 [16, 52, 53, 54, 55, 63, 64] [] hq (fun hq _ => ?_) (fun hq _ => ?_)
 refine ifE hb 6 [62, 67, 68] [] hq (fun hq _ => ?_) (fun hq _ => ?_)
 refine callE hb 2 hq (gQ7w hb he ) fun y22 hy22 hq => ?_
 refine cpE hb 4 [3, 4, 5, 6, 7, 8, 9, 11, 13, 21, 22, 23] (s' := ⟨none, [pick (bodyOf Tryz.f25) [1, 1, 1, 1, 0, 1, 0, 0, 1, 1, 0, 0, 1, 1, 1, 1, 1, 0], pick (bodyOf Tryz.f25) [1, 1, 1, 1, 0, 1, 0, 0, 1, 1, 0, 0, 1, 1, 1, 1, 1, 1]], [(1, [pick (bodyOf Tryz.f25) [1, 1, 1, 1, 0, 1, 0, 0, 1, 1, 1], pick (bodyOf Tryz.f25) [1, 1, 1, 1, 0, 1, 0]]), (0, [pick (bodyOf Tryz.f25) [1, 1, 1, 1, 1]])], sl 106 [(3, pt 0), (4, pt 1), (5, pt 2), (6, pt 3), (7, pt 4), (8, c1 (vB s1.2.1)), (9, c1 (vO (flI .i64) 7 s1.2.2.2.2)), (11, c1 (vS x3)), (13, pt 9), (21, c1 (vL flS y1)), (22, c1 (vi (y1.length : Int))), (23, c1 (vi s1.1))], [bx [vL flAttrG s_.attrs, vL flNestedG s_.nested], bx (aV prior_), bx (aV config_), bx zV, bx [vi 5, vi 0, vS eS, vO flV 5 s1.2.2.1, vO flS 6 s1.2.2.2.1], some (arO true flV.sz 0 (flV.f s1.2.2.1)), some (arO true flS.sz 0 (flS.f s1.2.2.2.1)), some (arO true (flI .i64).sz 0 ((flI .i64).f s1.2.2.2.2)), bx (aV y4), bx (aV y22), bx [vS y6.1.name, vi y6.1.type_.kind, vL flT y6.1.type_.elems, vL flS y6.1.type_.names, vi y6.1.mode, vB y6.1.replace, vB y6.1.sensitive, vB y6.1.volatile]]⟩) ?_
 refine appOwnE flS hb 5 6 true 0 (flS.one x3) hq fun l23 hl23 hq => ?_
 refine appOwnE flV hb 8 5 true 0 (flV.one y22) hq fun l24 hl24 hq => ?_
 exact backE hb 8 [3, 4, 5, 6, 7, 8, 9, 21, 22, 23] [] 8 (hn1 _ (injO hq)) ⟨(by kernel_rfl), (by kernel_rfl), (by kernel_rfl), (by kernel_rfl), (by kernel_rfl), (under_arO _ _ _ _ _), (under_arO _ _ _ _ _), (under_arO _ _ _ _ _), trivial⟩
 refine ifE hb 17 [74] [] hq (fun hq _ => ?_) (fun hq _ => ?_)
 refine cpE hb 1 [3, 4, 5, 6, 7, 8, 9, 10, 11, 13, 21, 22, 23] (s' := ⟨none, [pick (bodyOf Tryz.f25) [1, 1, 1, 1, 0, 1, 0, 0, 1, 1, 0, 0, 1, 1, 1, 1, 0, 0, 1, 1, 1, 0, 1, 1, 0]], [(2, [pick (bodyOf Tryz.f25) [1, 1, 1, 1, 0, 1, 0, 0, 1, 1, 0, 0, 1, 1, 1, 1, 1]]), (1, [pick (bodyOf Tryz.f25) [1, 1, 1, 1, 0, 1, 0, 0, 1, 1, 1], pick (bodyOf Tryz.f25) [1, 1, 1, 1, 0, 1, 0]]), (0, [pick (bodyOf Tryz.f25) [1, 1, 1, 1, 1]])], sl 106 [(3, pt 0), (4, pt 1), (5, pt 2), (6, pt 3), (7, pt 4), (8, c1 (vB s1.2.1)), (9, c1 (vO (flI .i64) 7 s1.2.2.2.2)), (10, c1 (vi s1.1)), (11, c1 (vS x3)), (13, pt 9), (21, c1 (vL flS y1)), (22, c1 (vi (y1.length : Int))), (23, c1 (vi s1.1))], [bx [vL flAttrG s_.attrs, vL flNestedG s_.nested], bx (aV prior_), bx (aV config_), bx zV, bx [vi 5, vi 0, vS eS, vO flV 5 s1.2.2.1, vO flS 6 s1.2.2.2.1], some (arO true flV.sz 0 (flV.f s1.2.2.1)), some (arO true flS.sz 0 (flS.f s1.2.2.2.1)), some (arO true (flI .i64).sz 0 ((flI .i64).f s1.2.2.2.2)), bx (aV y4), bx (aV y4), bx [vS y6.1.name, vi y6.1.type_.kind, vL flT y6.1.type_.elems, vL flS y6.1.type_.names, vi y6.1.mode, vB y6.1.replace, vB y6.1.sensitive, vB y6.1.volatile]]⟩) ?_
 refine appOwnE (flI .i64) hb 4 7 true 0 ((flI .i64).one s1.1) hq fun l26 hl26 hq => ?_
 refine appOwnE flS hb 9 6 true 0 (flS.one x3) hq fun l27 hl27 hq => ?_
 refine appOwnE flV hb 8 5 true 0 (flV.one y4) hq fun l28 hl28 hq => ?_
 exact backE hb 8 [3, 4, 5, 6, 7, 8, 9, 21, 22, 23] [] 8 (hn1 _ (injO hq)) ⟨(by kernel_rfl), (by kernel_rfl), (by kernel_rfl), (by kernel_rfl), (by kernel_rfl), (under_arO _ _ _ _ _), (under_arO _ _ _ _ _), (under_arO _ _ _ _ _), trivial⟩
 refine cpE hb 4 [3, 4, 5, 6, 7, 8, 9, 11, 13, 21, 22, 23] (s' := ⟨none, [pick (bodyOf Tryz.f25) [1, 1, 1, 1, 0, 1, 0, 0, 1, 1, 0, 0, 1, 1, 1, 1, 1, 0], pick (bodyOf Tryz.f25) [1, 1, 1, 1, 0, 1, 0, 0, 1, 1, 0, 0, 1, 1, 1, 1, 1, 1]], [(1, [pick (bodyOf Tryz.f25) [1, 1, 1, 1, 0, 1, 0, 0, 1, 1, 1], pick (bodyOf Tryz.f25) [1, 1, 1, 1, 0, 1, 0]]), (0, [pick (bodyOf Tryz.f25) [1, 1, 1, 1, 1]])], sl 106 [(3, pt 0), (4, pt 1), (5, pt 2), (6, pt 3), (7, pt 4), (8, c1 (vB s1.2.1)), (9, c1 (vO (flI .i64) 7 s1.2.2.2.2)), (11, c1 (vS x3)), (13, pt 9), (21, c1 (vL flS y1)), (22, c1 (vi (y1.length : Int))), (23, c1 (vi s1.1))], [bx [vL flAttrG s_.attrs, vL flNestedG s_.nested], bx (aV prior_), bx (aV config_), bx zV, bx [vi 5, vi 0, vS eS, vO flV 5 s1.2.2.1, vO flS 6 s1.2.2.2.1], some (arO true flV.sz 0 (flV.f s1.2.2.1)), some (arO true flS.sz 0 (flS.f s1.2.2.2.1)), some (arO true (flI .i64).sz 0 ((flI .i64).f s1.2.2.2.2)), bx (aV y4), bx (aV y4), bx [vS y6.1.name, vi y6.1.type_.kind, vL flT y6.1.type_.elems, vL flS y6.1.type_.names, vi y6.1.mode, vB y6.1.replace, vB y6.1.sensitive, vB y6.1.volatile]]⟩) ?_
 refine appOwnE flS hb 5 6 true 0 (flS.one x3) hq fun l29 hl29 hq => ?_
 refine appOwnE flV hb 8 5 true 0 (flV.one y4) hq fun l30 hl30 hq => ?_
 exact backE hb 8 [3, 4, 5, 6, 7, 8, 9, 21, 22, 23] [] 8 (hn1 _ (injO hq)) ⟨(by kernel_rfl), (by kernel_rfl), (by kernel_rfl), (by kernel_rfl), (by kernel_rfl), (under_arO _ _ _ _ _), (under_arO _ _ _ _ _), (under_arO _ _ _ _ _), trivial⟩
 refine ifE hb 16 [8, 56, 57] [] hq (fun hq _ => ?_) (fun hq _ => ?_)
 refine appOwnE flS hb 13 6 true 0 (flS.one x3) hq fun l32 hl32 hq => ?_
 refine cpE hb 3 [3, 4, 5, 6, 7, 8, 9, 13, 21, 22, 23] (s' := ⟨none, [pick (bodyOf Tryz.f25) [1, 1, 1, 1, 0, 1, 0, 0, 1, 1, 0, 0, 1, 1, 1, 1, 1, 1]], [(1, [pick (bodyOf Tryz.f25) [1, 1, 1, 1, 0, 1, 0, 0, 1, 1, 1], pick (bodyOf Tryz.f25) [1, 1, 1, 1, 0, 1, 0]]), (0, [pick (bodyOf Tryz.f25) [1, 1, 1, 1, 1]])], sl 106 [(3, pt 0), (4, pt 1), (5, pt 2), (6, pt 3), (7, pt 4), (8, c1 (vB true)), (9, c1 (vO (flI .i64) 7 s1.2.2.2.2)), (13, pt 9), (21, c1 (vL flS y1)), (22, c1 (vi (y1.length : Int))), (23, c1 (vi s1.1))], [bx [vL flAttrG s_.attrs, vL flNestedG s_.nested], bx (aV prior_), bx (aV config_), bx zV, bx [vi 5, vi 0, vS eS, vO flV 5 s1.2.2.1, vO flS 6 l32], some (arO true flV.sz 0 (flV.f s1.2.2.1)), some (arO true flS.sz 0 (flS.f l32)), some (arO true (flI .i64).sz 0 ((flI .i64).f s1.2.2.2.2)), bx (aV y4), bx (aV y5), bx [vS y6.1.name, vi y6.1.type_.kind, vL flT y6.1.type_.elems, vL flS y6.1.type_.names, vi y6.1.mode, vB y6.1.replace, vB y6.1.sensitive, vB y6.1.volatile]]⟩) ?_
 refine appOwnE flV hb 5 5 true 0 (flV.one y5) hq fun l33 hl33 hq => ?_
 exact backE hb 8 [3, 4, 5, 6, 7, 8, 9, 21, 22, 23] [] 8 (hn1 _ (injO hq)) ⟨(by kernel_rfl), (by kernel_rfl), (by kernel_rfl), (by kernel_rfl), (by kernel_rfl), (under_arO _ _ _ _ _), (under_arO _ _ _ _ _), (under_arO _ _ _ _ _), trivial⟩
 refine callE hb 2 hq (gQ4r hb he y5 y4) fun y34 hy34 hq => ?_
 refine cpE hb 5 [3, 4, 5, 6, 7, 8, 9, 11, 13, 21, 22, 23] (s' := ⟨none, [pick (bodyOf Tryz.f25) [1, 1, 1, 1, 0, 1, 0, 0, 1, 1, 0, 0, 1, 1, 1, 1, 1, 0], pick (bodyOf Tryz.f25) [1, 1, 1, 1, 0, 1, 0, 0, 1, 1, 0, 0, 1, 1, 1, 1, 1, 1]], [(1, [pick (bodyOf Tryz.f25) [1, 1, 1, 1, 0, 1, 0, 0, 1, 1, 1], pick (bodyOf Tryz.f25) [1, 1, 1, 1, 0, 1, 0]]), (0, [pick (bodyOf Tryz.f25) [1, 1, 1, 1, 1]])], sl 106 [(3, pt 0), (4, pt 1), (5, pt 2), (6, pt 3), (7, pt 4), (8, c1 (vB y34)), (9, c1 (vO (flI .i64) 7 s1.2.2.2.2)), (11, c1 (vS x3)), (13, pt 9), (21, c1 (vL flS y1)), (22, c1 (vi (y1.length : Int))), (23, c1 (vi s1.1))], [bx [vL flAttrG s_.attrs, vL flNestedG s_.nested], bx (aV prior_), bx (aV config_), bx zV, bx [vi 5, vi 0, vS eS, vO flV 5 s1.2.2.1, vO flS 6 s1.2.2.2.1], some (arO true flV.sz 0 (flV.f s1.2.2.1)), some (arO true flS.sz 0 (flS.f s1.2.2.2.1)), some (arO true (flI .i64).sz 0 ((flI .i64).f s1.2.2.2.2)), bx (aV y4), bx (aV y5), bx [vS y6.1.name, vi y6.1.type_.kind, vL flT y6.1.type_.elems, vL flS y6.1.type_.names, vi y6.1.mode, vB y6.1.replace, vB y6.1.sensitive, vB y6.1.volatile]]⟩) ?_
 refine appOwnE flS hb 5 6 true 0 (flS.one x3) hq fun l35 hl35 hq => ?_
 refine appOwnE flV hb 8 5 true 0 (flV.one y5) hq fun l36 hl36 hq => ?_
 exact backE hb 8 [3, 4, 5, 6, 7, 8, 9, 21, 22, 23] [] 8 (hn1 _ (injO hq)) ⟨(by kernel_rfl), (by kernel_rfl), (by kernel_rfl), (by kernel_rfl), (by kernel_rfl), (under_arO _ _ _ _ _), (under_arO _ _ _ _ _), (under_arO _ _ _ _ _), trivial⟩
 refine ifE hb 30 [8, 56, 57] [] hq (fun hq _ => ?_) (fun hq _ => ?_)
 refine appOwnE flS hb 13 6 true 0 (flS.one x3) hq fun l38 hl38 hq => ?_
 refine appOwnE flV hb 8 5 true 0 (flV.one y5) hq fun l39 hl39 hq => ?_
 refine cpE hb 4 [3, 4, 5, 6, 7, 8, 9, 21, 22, 23] (s' := ⟨none, [pick (bodyOf Tryz.f25) [1, 1, 1, 1, 0, 1, 0, 0, 1, 1, 1], pick (bodyOf Tryz.f25) [1, 1, 1, 1, 0, 1, 0]], [(0, [pick (bodyOf Tryz.f25) [1, 1, 1, 1, 1]])], sl 106 [(3, pt 0), (4, pt 1), (5, pt 2), (6, pt 3), (7, pt 4), (8, c1 (vB true)), (9, c1 (vO (flI .i64) 7 s1.2.2.2.2)), (21, c1 (vL flS y1)), (22, c1 (vi (y1.length : Int))), (23, c1 (vi s1.1))], [bx [vL flAttrG s_.attrs, vL flNestedG s_.nested], bx (aV prior_), bx (aV config_), bx zV, bx [vi 5, vi 0, vS eS, vO flV 5 l39, vO flS 6 l38], some (arO true flV.sz 0 (flV.f l39)), some (arO true flS.sz 0 (flS.f l38)), some (arO true (flI .i64).sz 0 ((flI .i64).f s1.2.2.2.2)), bx (aV y4), bx (aV y5), bx [vS y6.1.name, vi y6.1.type_.kind, vL flT y6.1.type_.elems, vL flS y6.1.type_.names, vi y6.1.mode, vB y6.1.replace, vB y6.1.sensitive, vB y6.1.volatile]]⟩) ?_
 exact backE hb 4 [3, 4, 5, 6, 7, 8, 9, 21, 22, 23] [] 8 (hn1 _ (injO hq)) ⟨(by kernel_rfl), (by kernel_rfl), (by kernel_rfl), (by kernel_rfl), (by kernel_rfl), (under_arO _ _ _ _ _), (under_arO _ _ _ _ _), (under_arO _ _ _ _ _), trivial⟩
 refine callE hb 2 hq (gQ4r hb he y5 y4) fun y40 hy40 hq => ?_
 refine appOwnE flS hb 10 6 true 0 (flS.one x3) hq fun l41 hl41 hq => ?_
 refine cpE hb 3 [3, 4, 5, 6, 7, 8, 9, 13, 21, 22, 23] (s' := ⟨none, [pick (bodyOf Tryz.f25) [1, 1, 1, 1, 0, 1, 0, 0, 1, 1, 0, 0, 1, 1, 1, 1, 1, 1]], [(1, [pick (bodyOf Tryz.f25) [1, 1, 1, 1, 0, 1, 0, 0, 1, 1, 1], pick (bodyOf Tryz.f25) [1, 1, 1, 1, 0, 1, 0]]), (0, [pick (bodyOf Tryz.f25) [1, 1, 1, 1, 1]])], sl 106 [(3, pt 0), (4, pt 1), (5, pt 2), (6, pt 3), (7, pt 4), (8, c1 (vB y40)), (9, c1 (vO (flI .i64) 7 s1.2.2.2.2)), (13, pt 9), (21, c1 (vL flS y1)), (22, c1 (vi (y1.length : Int))), (23, c1 (vi s1.1))], [bx [vL flAttrG s_.attrs, vL flNestedG s_.nested], bx (aV prior_), bx (aV config_), bx zV, bx [vi 5, vi 0, vS eS, vO flV 5 s1.2.2.1, vO flS 6 l41], some (arO true flV.sz 0 (flV.f s1.2.2.1)), some (arO true flS.sz 0 (flS.f l41)), some (arO true (flI .i64).sz 0 ((flI .i64).f s1.2.2.2.2)), bx (aV y4), bx (aV y5), bx [vS y6.1.name, vi y6.1.type_.kind, vL flT y6.1.type_.elems, vL flS y6.1.type_.names, vi y6.1.mode, vB y6.1.replace, vB y6.1.sensitive, vB y6.1.volatile]]⟩) ?_
 refine appOwnE flV hb 5 5 true 0 (flV.one y5) hq fun l42 hl42 hq => ?_
 exact backE hb 8 [3, 4, 5, 6, 7, 8, 9, 21, 22, 23] [] 8 (hn1 _ (injO hq)) ⟨(by kernel_rfl), (by kernel_rfl), (by kernel_rfl), (by kernel_rfl), (by kernel_rfl), (under_arO _ _ _ _ _), (under_arO _ _ _ _ _), (under_arO _ _ _ _ _), trivial⟩
 refine ifE hb 38 [8, 56, 57] [] hq (fun hq _ => ?_) (fun hq _ => ?_)
 refine appOwnE flS hb 13 6 true 0 (flS.one x3) hq fun l44 hl44 hq => ?_
 refine appOwnE flV hb 8 5 true 0 (flV.one y5) hq fun l45 hl45 hq => ?_
 exact backE hb 8 [3, 4, 5, 6, 7, 8, 9, 21, 22, 23] [] 8 (hn1 _ (injO hq)) ⟨(by kernel_rfl), (by kernel_rfl), (by kernel_rfl), (by kernel_rfl), (by kernel_rfl), (under_arO _ _ _ _ _), (under_arO _ _ _ _ _), (under_arO _ _ _ _ _), trivial⟩
 refine callE hb 2 hq (gQ4r hb he y5 y4) fun y46 hy46 hq => ?_
 refine appOwnE flS hb 10 6 true 0 (flS.one x3) hq fun l47 hl47 hq => ?_
 refine appOwnE flV hb 8 5 true 0 (flV.one y5) hq fun l48 hl48 hq => ?_
 exact backE hb 8 [3, 4, 5, 6, 7, 8, 9, 21, 22, 23] [] 8 (hn1 _ (injO hq)) ⟨(by kernel_rfl), (by kernel_rfl), (by kernel_rfl), (by kernel_rfl), (by kernel_rfl), (under_arO _ _ _ _ _), (under_arO _ _ _ _ _), (under_arO _ _ _ _ _), trivial⟩
 refine lenOwnE (flI .i64) hb 6 7 true 0 s1.2.2.2.2 ?_
 refine cpE hb 3 [6, 7, 8, 92, 93, 94] (s' := ⟨none, [pick (bodyOf Tryz.f25) [1, 1, 1, 1, 1, 0, 1, 0]], [(3, [pick (bodyOf Tryz.f25) [1, 1, 1, 1, 1, 1]])], sl 106 [(6, pt 3), (7, pt 4), (8, c1 (vB s1.2.1)), (92, c1 (vO (flI .i64) 7 s1.2.2.2.2)), (93, c1 (vi (s1.2.2.2.2.length : Int))), (94, c1 (vi 0))], [bx [vL flAttrG s_.attrs, vL flNestedG s_.nested], bx (aV prior_), bx (aV config_), bx zV, bx [vi 5, vi 0, vS eS, vO flV 5 s1.2.2.1, vO flS 6 s1.2.2.2.1], some (arO true flV.sz 0 (flV.f s1.2.2.1)), some (arO true flS.sz 0 (flS.f s1.2.2.2.1)), some (arO true (flI .i64).sz 0 ((flI .i64).f s1.2.2.2.2))]⟩) ?_
 refine loopE hb 0 (gQ48 s1) (fun s2 => sl 106 [(6, pt 3), (7, pt 4), (8, c1 (vB s2.1)), (92, c1 (vO (flI .i64) 7 s1.2.2.2.2)), (93, c1 (vi (s1.2.2.2.2.length : Int))), (94, c1 (vi s2.2.1))]) (fun s2 => [none, none, none, bx zV, bx [vi 5, vi 0, vS eS, vO flV 5 s2.2.2, vO flS 6 s1.2.2.2.1], some (arO true flV.sz 0 (flV.f s2.2.2)), some (arO true flS.sz 0 (flS.f s1.2.2.2.1)), some (arO true (flI .i64).sz 0 ((flI .i64).f s1.2.2.2.2))]) [6, 7, 8, 92, 93, 94] [0, 1, 2] 8 (s0 := (s1.2.1, 0, s1.2.2.1)) ⟨rfl, rfl, rfl, (by kernel_rfl), (by kernel_rfl), (under_arO _ _ _ _ _), (under_arO _ _ _ _ _), (under_arO _ _ _ _ _), trivial⟩ hq (fun s2 x2 hq hn2 he2 => ?_)
 refine ifE hb 5 [95] [] hq (fun hq _ => ?_) (fun hq _ => ?_)
 refine idxOwnE (flI .i64) hb 6 7 true 0 hq fun x50 hx50 hq => ?_
 refine loadOwn1E (flI .i64) hb 0 7 true 0 hx50 rfl ?_
 refine ifE hb 6 [8, 98] [] hq (fun hq _ => ?_) (fun hq _ => ?_)
 refine drawE hb mixed 1 4 [] ?_
 refine callE hb 3 hq (gQ7w hb he ) fun y52 hy52 hq => ?_
 refine idxOwnE flV hb 1 5 true 0 hq fun x53 hx53 hq => ?_
 refine storeOwnNE flV hb 0 5 true hx53 y52 ?_
 refine cellSE hb 2 4 3 (cs := [vi 5, vi 0, vS eS, vO flV 5 s2.2.2, vO flS 6 s1.2.2.2.1]) (c := vO flV 5 s2.2.2) (conv_eq (vO_eq flV (upd_len s2.2.2 x50 y52))) (by kernel_rfl) ?_
 refine cpE hb 0 [6, 7, 8, 92, 93, 94] (s' := ⟨none, [pick (bodyOf Tryz.f25) [1, 1, 1, 1, 1, 0, 1, 0, 0, 1, 1, 1], pick (bodyOf Tryz.f25) [1, 1, 1, 1, 1, 0, 1, 0]], [(3, [pick (bodyOf Tryz.f25) [1, 1, 1, 1, 1, 1]])], sl 106 [(6, pt 3), (7, pt 4), (8, c1 (vB true)), (92, c1 (vO (flI .i64) 7 s1.2.2.2.2)), (93, c1 (vi (s1.2.2.2.2.length : Int))), (94, c1 (vi s2.2.1))], [none, none, none, bx zV, bx [vi 5, vi 0, vS eS, vO flV 5 (upd s2.2.2 x50 y52), vO flS 6 s1.2.2.2.1], some (arO true flV.sz 0 (flV.f (upd s2.2.2 x50 y52))), some (arO true flS.sz 0 (flS.f s1.2.2.2.1)), some (arO true (flI .i64).sz 0 ((flI .i64).f s1.2.2.2.2))]⟩) ?_
 exact backE hb 4 [6, 7, 8, 92, 93, 94] [] 8 (hn2 _ (injO hq)) ⟨rfl, rfl, rfl, (by kernel_rfl), (by kernel_rfl), (under_arO _ _ _ _ _), (under_arO _ _ _ _ _), (under_arO _ _ _ _ _), trivial⟩
 exact backE hb 7 [6, 7, 8, 92, 93, 94] [] 8 (hn2 _ (injO hq)) ⟨rfl, rfl, rfl, (by kernel_rfl), (by kernel_rfl), (under_arO _ _ _ _ _), (under_arO _ _ _ _ _), (under_arO _ _ _ _ _), trivial⟩
 refine markE hb 7 5 true (sz := flV.sz) (fr := 0) (cs := flV.f s2.2.2) (by kernel_rfl) (Nat.zero_le _) ?_
 refine cellSE hb 0 3 3 (cs := [vi 5, vi 0, vS eS, vO flV 5 s2.2.2, vO flS 6 s1.2.2.2.1]) (c := vO flV 5 s2.2.2) (conv_own flV (nb := true) (id := 5) (xs := s2.2.2) (by kernel_rfl)) (by kernel_rfl) ?_
 refine markE hb 0 6 true (sz := flS.sz) (fr := 0) (cs := flS.f s1.2.2.2.1) (by kernel_rfl) (Nat.zero_le _) ?_
 refine cellSE hb 0 3 4 (cs := [vi 5, vi 0, vS eS, vL flV s2.2.2, vO flS 6 s1.2.2.2.1]) (c := vO flS 6 s1.2.2.2.1) (conv_own flS (nb := true) (id := 6) (xs := s1.2.2.2.1) (by kernel_rfl)) (by kernel_rfl) ?_
 exact retE hb 0 (he1 _ ((he2 _ (injO hq)).symm))
noncomputable def gQ3u (before_ : Val) (after_ : Val) (y1 : List ByteArray) (s1 : Int × List ByteArray) : Option ((Int × List ByteArray) ⊕ (List ByteArray)) :=
 bif (decide (s1.1 < (y1.length : Int))) then (idx y1 s1.1).bind fun x3 => (gQ5i before_ x3).bind fun y4 => (gQ5i after_ x3).bind fun y5 => (gQ4q y4 y5).bind fun y6 => bif y6 then (app 16 s1.2 [x3]).bind fun l8 => some (.inl ((IntKind.i64.wrap (s1.1 + 1)), l8)) else some (.inl ((IntKind.i64.wrap (s1.1 + 1)), s1.2)) else some (.inr (s1.2))
noncomputable def gQ3t  (s_ : SchemaG) (before_ : Val) (after_ : Val) : Option (List ByteArray) :=
 (gQ5n s_).bind fun y1 => loopO (gQ3u before_ after_ y1) (0, [])
theorem gQ3v (hb : Base E E0 G) (he : ∀ w, E w → EnvV w)   (s_ : SchemaG) (before_ : Val) (after_ : Val) : ∀ r_ : List ByteArray, gQ3t s_ before_ after_ = some r_ →
 Pure E E0 Tryz.prog 28 [.agg [vL flAttrG s_.attrs, vL flNestedG s_.nested], .agg (aV before_), .agg (aV after_)] (c1 (vL flS r_)) := by
 refine fnE hb Tryz.func28 rfl fun r_ hq => ?_
 refine callE hb 15 hq (gQ5o hb he s_) fun y1 hy1 hq => ?_
 refine ownTE hb 4 7 1 ?_
 refine loopE hb 0 (gQ3u before_ after_ y1) (fun s1 => sl 30 [(4, pt 1), (5, pt 2), (7, c1 (vO flS 3 s1.2)), (11, c1 (vL flS y1)), (12, c1 (vi (y1.length : Int))), (13, c1 (vi s1.1))]) (fun s1 => [none, bx (aV before_), bx (aV after_), some (arO true flS.sz 0 (flS.f s1.2))]) [4, 5, 7, 11, 12, 13] [0] 4 (s0 := (0, [])) ⟨rfl, (by kernel_rfl), (by kernel_rfl), (under_arO _ _ _ _ _), trivial⟩ hq (fun s1 x1 hq hn1 he1 => ?_)
 refine ifE hb 5 [14] [] hq (fun hq _ => ?_) (fun hq _ => ?_)
 refine idxE hb flS 6 hq fun x3 hx3 hq => ?_
 refine drawE hb mixed 4 5 [] ?_
 refine callE hb 2 hq (gQ5j hb he before_ x3) fun y4 hy4 hq => ?_
 refine callE hb 3 hq (gQ5j hb he after_ x3) fun y5 hy5 hq => ?_
 refine callE hb 0 hq (gQ4r hb he y4 y5) fun y6 hy6 hq => ?_
 refine cpE hb 1 [4, 5, 7, 9, 11, 12, 13, 23] (s' := ⟨none, [pick (bodyOf Tryz.f28) [1, 1, 0, 1, 0, 0, 1, 1, 0, 0, 1, 1]], [(1, [pick (bodyOf Tryz.f28) [1, 1, 0, 1, 0, 0, 1, 1, 1], pick (bodyOf Tryz.f28) [1, 1, 0, 1, 0]]), (0, [pick (bodyOf Tryz.f28) [1, 1, 1]])], sl 30 [(4, pt 1), (5, pt 2), (7, c1 (vO flS 3 s1.2)), (9, c1 (vS x3)), (11, c1 (vL flS y1)), (12, c1 (vi (y1.length : Int))), (13, c1 (vi s1.1)), (23, c1 (vB y6))], [none, bx (aV before_), bx (aV after_), some (arO true flS.sz 0 (flS.f s1.2))]⟩) ?_
 refine ifE hb 0 [23] [] hq (fun hq _ => ?_) (fun hq _ => ?_)
 refine appOwnE flS hb 5 3 true 0 (flS.one x3) hq fun l8 hl8 hq => ?_
 exact backE hb 7 [4, 5, 7, 11, 12, 13] [] 4 (hn1 _ (injO hq)) ⟨rfl, (by kernel_rfl), (by kernel_rfl), (under_arO _ _ _ _ _), trivial⟩
 exact backE hb 7 [4, 5, 7, 11, 12, 13] [] 4 (hn1 _ (injO hq)) ⟨rfl, (by kernel_rfl), (by kernel_rfl), (under_arO _ _ _ _ _), trivial⟩
 refine markE hb 7 3 true (sz := flS.sz) (fr := 0) (cs := flS.f s1.2) (by kernel_rfl) (Nat.zero_le _) ?_
 refine cellTE hb 0 6 (c := vO flS 3 s1.2) (conv_own flS (nb := true) (id := 3) (xs := s1.2) (by kernel_rfl)) ?_
 exact retE hb 0 (he1 _ (injO hq))
noncomputable def gQ5l (s_ : SchemaG) (name_ : ByteArray) (s1 : Int) : Option ((Int) ⊕ (NestedG × Bool)) :=
 bif (decide (s1 < (s_.nested.length : Int))) then (idx s_.nested s1).bind fun x2 => bif (decide (x2.name = name_)) then some (.inr (x2, true)) else some (.inl (IntKind.i64.wrap (s1 + 1))) else some (.inr ((NestedG.mk eS 0 0 [] false), false))
noncomputable def gQ5k  (s_ : SchemaG) (name_ : ByteArray) : Option (NestedG × Bool) :=
 loopO (gQ5l s_ name_) 0
theorem gQ5m (hb : Base E E0 G) (he : ∀ w, E w → EnvV w)   (s_ : SchemaG) (name_ : ByteArray) : ∀ r_ : NestedG × Bool, gQ5k s_ name_ = some r_ →
 Pure E E0 Tryz.prog 79 [.agg [vL flAttrG s_.attrs, vL flNestedG s_.nested], .cell (vS name_)] (.tup [.agg [vS r_.1.name, vi r_.1.min, vi r_.1.max, vL flAttrG r_.1.attrs, vB r_.1.replace], .cell (vB r_.2)]) := by
 refine fnE hb Tryz.func79 rfl fun r_ hq => ?_
 refine loopE hb 15 (gQ5l s_ name_) (fun s1 => sl 22 [(1, c1 (vS name_)), (4, pt 1), (9, c1 (vL flNestedG s_.nested)), (10, c1 (vi (s_.nested.length : Int))), (11, c1 (vi s1))]) (fun s1 => [none, bx [vS eS, vi 0, vi 0, vN, vB false]]) [1, 4, 9, 10, 11] [0] 2 (s0 := 0) ⟨rfl, (by kernel_rfl), trivial⟩ hq (fun s1 x1 hq hn1 he1 => ?_)
 refine ifE hb 5 [12] [] hq (fun hq _ => ?_) (fun hq _ => ?_)
 refine idxE hb flNestedG 6 hq fun x2 hx2 hq => ?_
 refine ifE hb 11 [18] [] hq (fun hq _ => ?_) (fun hq _ => ?_)
 exact retE hb 7 (he1 _ (injO hq))
 exact backE hb 7 [1, 4, 9, 10, 11] [] 2 (hn1 _ (injO hq)) ⟨rfl, (by kernel_rfl), trivial⟩
 exact retE hb 8 (he1 _ (injO hq))
noncomputable def gQ4b (s_ : SchemaG) (y1 : List ByteArray) (s1 : Int × List ByteArray) : Option ((Int × List ByteArray) ⊕ (List ByteArray)) :=
 bif (decide (s1.1 < (y1.length : Int))) then (idx y1 s1.1).bind fun x3 => (gQ43 s_ x3).bind fun y4 => (gQ5k s_ x3).bind fun y5 => bif y4.1.replace then (app 16 s1.2 [x3]).bind fun l7 => some (.inl ((IntKind.i64.wrap (s1.1 + 1)), l7)) else bif y5.1.replace then (app 16 s1.2 [x3]).bind fun l9 => some (.inl ((IntKind.i64.wrap (s1.1 + 1)), l9)) else some (.inl ((IntKind.i64.wrap (s1.1 + 1)), s1.2)) else some (.inr (s1.2))
noncomputable def gQ4a  (s_ : SchemaG) (before_ : Val) (after_ : Val) : Option (List ByteArray) :=
 (gQ3t s_ before_ after_).bind fun y1 => loopO (gQ4b s_ y1) (0, [])
theorem gQ4c (hb : Base E E0 G) (he : ∀ w, E w → EnvV w)   (s_ : SchemaG) (before_ : Val) (after_ : Val) : ∀ r_ : List ByteArray, gQ4a s_ before_ after_ = some r_ →
 Pure E E0 Tryz.prog 30 [.agg [vL flAttrG s_.attrs, vL flNestedG s_.nested], .agg (aV before_), .agg (aV after_)] (c1 (vL flS r_)) := by
 refine fnE hb Tryz.func30 rfl fun r_ hq => ?_
 refine callE hb 17 hq (gQ3v hb he s_ before_ after_) fun y1 hy1 hq => ?_
 refine ownTE hb 4 7 1 ?_
 refine loopE hb 0 (gQ4b s_ y1) (fun s1 => sl 47 [(3, pt 0), (7, c1 (vO flS 3 s1.2)), (17, c1 (vL flS y1)), (18, c1 (vi (y1.length : Int))), (19, c1 (vi s1.1))]) (fun s1 => [bx [vL flAttrG s_.attrs, vL flNestedG s_.nested], none, none, some (arO true flS.sz 0 (flS.f s1.2))]) [3, 7, 17, 18, 19] [1, 2] 4 (s0 := (0, [])) ⟨(by kernel_rfl), rfl, rfl, (under_arO _ _ _ _ _), trivial⟩ hq (fun s1 x1 hq hn1 he1 => ?_)
 refine ifE hb 5 [20] [] hq (fun hq _ => ?_) (fun hq _ => ?_)
 refine idxE hb flS 6 hq fun x3 hx3 hq => ?_
 refine callE hb 7 hq (gQ45 hb he s_ x3) fun y4 hy4 hq => ?_
 refine callE hb 11 hq (gQ5m hb he s_ x3) fun y5 hy5 hq => ?_
 refine ifE hb 12 [36, 37] [] hq (fun hq _ => ?_) (fun hq _ => ?_)
 refine cpE hb 4 [3, 7, 9, 17, 18, 19, 40] (s' := ⟨none, [pick (bodyOf Tryz.f30) [1, 1, 0, 1, 0, 0, 1, 1, 0, 0, 1, 1, 1, 1]], [(1, [pick (bodyOf Tryz.f30) [1, 1, 0, 1, 0, 0, 1, 1, 1], pick (bodyOf Tryz.f30) [1, 1, 0, 1, 0]]), (0, [pick (bodyOf Tryz.f30) [1, 1, 1]])], sl 47 [(3, pt 0), (7, c1 (vO flS 3 s1.2)), (9, c1 (vS x3)), (17, c1 (vL flS y1)), (18, c1 (vi (y1.length : Int))), (19, c1 (vi s1.1)), (40, c1 (vB true))], [bx [vL flAttrG s_.attrs, vL flNestedG s_.nested], none, none, some (arO true flS.sz 0 (flS.f s1.2)), bx [vS y4.1.name, vi y4.1.type_.kind, vL flT y4.1.type_.elems, vL flS y4.1.type_.names, vi y4.1.mode, vB y4.1.replace, vB y4.1.sensitive, vB y4.1.volatile], bx [vS y5.1.name, vi y5.1.min, vi y5.1.max, vL flAttrG y5.1.attrs, vB y5.1.replace]]⟩) ?_
 refine appOwnE flS hb 5 3 true 0 (flS.one x3) hq fun l7 hl7 hq => ?_
 exact backE hb 7 [3, 7, 17, 18, 19] [] 4 (hn1 _ (injO hq)) ⟨(by kernel_rfl), rfl, rfl, (under_arO _ _ _ _ _), trivial⟩
 refine cpE hb 4 [3, 7, 9, 17, 18, 19, 40] (s' := ⟨none, [pick (bodyOf Tryz.f30) [1, 1, 0, 1, 0, 0, 1, 1, 0, 0, 1, 1, 1, 1]], [(1, [pick (bodyOf Tryz.f30) [1, 1, 0, 1, 0, 0, 1, 1, 1], pick (bodyOf Tryz.f30) [1, 1, 0, 1, 0]]), (0, [pick (bodyOf Tryz.f30) [1, 1, 1]])], sl 47 [(3, pt 0), (7, c1 (vO flS 3 s1.2)), (9, c1 (vS x3)), (17, c1 (vL flS y1)), (18, c1 (vi (y1.length : Int))), (19, c1 (vi s1.1)), (40, c1 (vB y5.1.replace))], [bx [vL flAttrG s_.attrs, vL flNestedG s_.nested], none, none, some (arO true flS.sz 0 (flS.f s1.2)), bx [vS y4.1.name, vi y4.1.type_.kind, vL flT y4.1.type_.elems, vL flS y4.1.type_.names, vi y4.1.mode, vB y4.1.replace, vB y4.1.sensitive, vB y4.1.volatile], bx [vS y5.1.name, vi y5.1.min, vi y5.1.max, vL flAttrG y5.1.attrs, vB y5.1.replace]]⟩) ?_
 refine ifE hb 0 [40] [] hq (fun hq _ => ?_) (fun hq _ => ?_)
 refine appOwnE flS hb 5 3 true 0 (flS.one x3) hq fun l9 hl9 hq => ?_
 exact backE hb 7 [3, 7, 17, 18, 19] [] 4 (hn1 _ (injO hq)) ⟨(by kernel_rfl), rfl, rfl, (under_arO _ _ _ _ _), trivial⟩
 exact backE hb 7 [3, 7, 17, 18, 19] [] 4 (hn1 _ (injO hq)) ⟨(by kernel_rfl), rfl, rfl, (under_arO _ _ _ _ _), trivial⟩
 refine markE hb 7 3 true (sz := flS.sz) (fr := 0) (cs := flS.f s1.2) (by kernel_rfl) (Nat.zero_le _) ?_
 refine cellTE hb 0 6 (c := vO flS 3 s1.2) (conv_own flS (nb := true) (id := 3) (xs := s1.2) (by kernel_rfl)) ?_
 exact retE hb 0 (he1 _ (injO hq))
noncomputable def gQ6v (r_types_Fits : Val → Ty → Option (Bool)) (t_ : List Ty) (x3 : Val) : Option (Bool) :=
 (idx t_ 0).bind fun x4 => (r_types_Fits x3 x4).bind fun y5 => some (!y5)
theorem gQ6w (hb : Base E E0 G) (he : ∀ w, E w → EnvV w) (r_types_Fits : Val → Ty → Option (Bool)) (hr_types_Fits : ∀ (a0 : Val) (a1 : Ty) (r : Bool), r_types_Fits a0 a1 = some r → Pure E E0 Tryz.prog 21 [.agg (aV a0), .agg (aT a1)] (c1 (vB r))) (t_ : List Ty) (x3 : Val) : ∀ r_ : Bool, gQ6v r_types_Fits t_ x3 = some r_ →
 Ok E E0 Tryz.prog 114 [.agg (aV x3), .cell (.ptr 0 0 0)] [bx [vL flT t_]] (c1 (vB r_)) [bx [vL flT t_]] := by
 refine fnO hb Tryz.func114 rfl fun r_ hq => ?_
 refine drawE hb mixed 6 4 [] ?_
 refine idxE hb flT 2 hq fun x4 hx4 hq => ?_
 refine callE hb 2 hq (hr_types_Fits x3 x4) fun y5 hy5 hq => ?_
 exact retOE hb 3 [3] [] 1 (injO hq).symm ⟨(by kernel_rfl), trivial⟩
noncomputable def gQ6t (r_types_Fits : Val → Ty → Option (Bool)) (l_ : List Val) (t_ : List Ty) (s1 : Int) : Option ((Int) ⊕ (Int)) :=
 bif (decide (s1 < (l_.length : Int))) then (idx l_ s1).bind fun x3 => (gQ6v r_types_Fits t_ x3).bind fun y6 => bif y6 then some (.inr (s1)) else some (.inl (IntKind.i64.wrap (s1 + 1))) else some (.inr (-1))
noncomputable def gQ6s (r_types_Fits : Val → Ty → Option (Bool)) (l_ : List Val) (t_ : List Ty) : Option (Int) :=
 loopO (gQ6t r_types_Fits l_ t_) 0
theorem gQ6u (hb : Base E E0 G) (he : ∀ w, E w → EnvV w) (r_types_Fits : Val → Ty → Option (Bool)) (hr_types_Fits : ∀ (a0 : Val) (a1 : Ty) (r : Bool), r_types_Fits a0 a1 = some r → Pure E E0 Tryz.prog 21 [.agg (aV a0), .agg (aT a1)] (c1 (vB r))) (l_ : List Val) (t_ : List Ty) : ∀ r_ : Int, gQ6s r_types_Fits l_ t_ = some r_ →
 Ok E E0 Tryz.prog 125 [.cell (vL flV l_), .cell (.fn 114 [(0, 0, 0)])] [bx [vL flT t_]] (c1 (vi r_)) [bx [vL flT t_]] := by
 refine fnO hb Tryz.func125 rfl fun r_ hq => ?_
 refine loopE hb 12 (gQ6t r_types_Fits l_ t_) (fun s1 => sl 19 [(0, c1 (vL flV l_)), (1, c1 (.fn 114 [(0, 0, 0)])), (7, c1 (vi (l_.length : Int))), (8, c1 (vi s1))]) (fun s1 => [bx [vL flT t_]]) [0, 1, 7, 8] [] 1 (s0 := 0) ⟨(by kernel_rfl), trivial⟩ hq (fun s1 x1 hq hn1 he1 => ?_)
 refine ifE hb 5 [9] [] hq (fun hq _ => ?_) (fun hq _ => ?_)
 refine idxE hb flV 14 hq fun x3 hx3 hq => ?_
 refine callOE hb 1 hq (gQ6w hb he r_types_Fits hr_types_Fits t_ x3) fun y6 hy6 hq => ?_
 refine ifE hb 1 [16] [] hq (fun hq _ => ?_) (fun hq _ => ?_)
 exact retOE hb 6 [4] [] 1 (he1 _ (injO hq)) ⟨(by kernel_rfl), trivial⟩
 exact backE hb 7 [0, 1, 7, 8] [] 1 (hn1 _ (injO hq)) ⟨(by kernel_rfl), trivial⟩
 exact retOE hb 6 [4] [] 1 (he1 _ (injO hq)) ⟨(by kernel_rfl), trivial⟩
noncomputable def gQ6q (r_types_Fits : Val → Ty → Option (Bool)) (l_ : List Val) (t_ : List Ty) : Option (Bool) :=
 (gQ6s r_types_Fits l_ t_).bind fun y8 => some (decide (y8 ≥ 0))
theorem gQ6r (hb : Base E E0 G) (he : ∀ w, E w → EnvV w) (r_types_Fits : Val → Ty → Option (Bool)) (hr_types_Fits : ∀ (a0 : Val) (a1 : Ty) (r : Bool), r_types_Fits a0 a1 = some r → Pure E E0 Tryz.prog 21 [.agg (aV a0), .agg (aT a1)] (c1 (vB r))) (l_ : List Val) (t_ : List Ty) : ∀ r_ : Bool, gQ6q r_types_Fits l_ t_ = some r_ →
 Ok E E0 Tryz.prog 82 [.cell (vL flV l_), .cell (.fn 114 [(0, 0, 0)])] [bx [vL flT t_]] (c1 (vB r_)) [bx [vL flT t_]] := by
 refine fnO hb Tryz.func82 rfl fun r_ hq => ?_
 refine callOE hb 8 hq (gQ6u hb he r_types_Fits hr_types_Fits l_ t_) fun y8 hy8 hq => ?_
 exact retOE hb 3 [4] [] 1 (injO hq).symm ⟨(by kernel_rfl), trivial⟩
noncomputable def gQ6p (r_types_Fits : Val → Ty → Option (Bool)) (l_ : List Val) (t_ : List Ty) : Option (Bool) :=
 bif (decide ((t_.length : Int) > 0)) then (gQ6q r_types_Fits l_ t_).bind fun y9 => some (!y9) else some (false)
theorem gQ6x (hb : Base E E0 G) (he : ∀ w, E w → EnvV w) (r_types_Fits : Val → Ty → Option (Bool)) (hr_types_Fits : ∀ (a0 : Val) (a1 : Ty) (r : Bool), r_types_Fits a0 a1 = some r → Pure E E0 Tryz.prog 21 [.agg (aV a0), .agg (aT a1)] (c1 (vB r))) (l_ : List Val) (t_ : List Ty) : ∀ r_ : Bool, gQ6p r_types_Fits l_ t_ = some r_ →
 Pure E E0 Tryz.prog 68 [.cell (vL flV l_), .cell (vL flT t_)] (c1 (vB r_)) := by
 refine fnE hb Tryz.func68 rfl fun r_ hq => ?_
 refine ifE hb 11 [7, 8] [] hq (fun hq _ => ?_) (fun hq _ => ?_)
 refine callOE hb 2 hq (gQ6r hb he r_types_Fits hr_types_Fits l_ t_) fun y9 hy9 hq => ?_
 exact retE hb 4 (injO hq).symm
 exact retE hb 7 (injO hq).symm
noncomputable def gQ6j (r_types_Fits : Val → Ty → Option (Bool)) (v_ : Val) (t_ : Ty) (s1 : Int) : Option ((Int) ⊕ (Bool)) :=
 bif (decide (s1 < (v_.items.length : Int))) then (idx v_.items s1).bind fun x18 => (idx t_.elems s1).bind fun x19 => (r_types_Fits x18 x19).bind fun y20 => bif (!y20) then some (.inr (false)) else some (.inl (IntKind.i64.wrap (s1 + 1))) else some (.inr (true))
noncomputable def gQ6i (r_types_every : List Val → List Ty → Option (Bool)) (r_types_Fits : Val → Ty → Option (Bool)) (v_ : Val) (t_ : Ty) : Option (Bool) :=
 bif (decide (v_.kind = 0)) then some (true) else bif (decide (v_.kind = 6)) then some (true) else bif (decide (t_.kind = 0)) then some (true) else bif (decide (t_.kind = 1)) then some (decide (v_.kind = 1)) else bif (decide (t_.kind = 2)) then some (decide (v_.kind = 2)) else bif (decide (t_.kind = 3)) then some (decide (v_.kind = 3)) else bif (decide (t_.kind = 4)) then bif (decide (v_.kind = 4)) then (r_types_every v_.items t_.elems).bind fun y9 => some (y9) else some (false) else bif (decide (t_.kind = 5)) then bif (decide (v_.kind = 5)) then (r_types_every v_.items t_.elems).bind fun y12 => some (y12) else some (false) else bif (!decide (v_.kind = 5)) then some (false) else (gQ63 v_.keys t_.names).bind fun y14 => bif (!y14) then some (false) else bif (!decide ((v_.items.length : Int) = (t_.elems.length : Int))) then some (false) else loopO (gQ6j r_types_Fits v_ t_) 0
theorem gQ6k (hb : Base E E0 G) (he : ∀ w, E w → EnvV w) (r_types_every : List Val → List Ty → Option (Bool)) (r_types_Fits : Val → Ty → Option (Bool)) (hr_types_every : ∀ (a0 : List Val) (a1 : List Ty) (r : Bool), r_types_every a0 a1 = some r → Pure E E0 Tryz.prog 68 [.cell (vL flV a0), .cell (vL flT a1)] (c1 (vB r))) (hr_types_Fits : ∀ (a0 : Val) (a1 : Ty) (r : Bool), r_types_Fits a0 a1 = some r → Pure E E0 Tryz.prog 21 [.agg (aV a0), .agg (aT a1)] (c1 (vB r))) (v_ : Val) (t_ : Ty) : ∀ r_ : Bool, gQ6i r_types_every r_types_Fits v_ t_ = some r_ →
 Pure E E0 Tryz.prog 21 [.agg (aV v_), .agg (aT t_)] (c1 (vB r_)) := by
 refine fnE hb Tryz.func21 rfl fun r_ hq => ?_
 refine ifE hb 13 [9, 10] [] hq (fun hq _ => ?_) (fun hq _ => ?_)
 exact retE hb 10 (injO hq).symm
 refine ifE hb 5 [13, 14] [] hq (fun hq _ => ?_) (fun hq _ => ?_)
 exact retE hb 5 (injO hq).symm
 refine ifE hb 14 [17, 18] [] hq (fun hq _ => ?_) (fun hq _ => ?_)
 exact retE hb 5 (injO hq).symm
 refine ifE hb 6 [19, 20] [] hq (fun hq _ => ?_) (fun hq _ => ?_)
 exact retE hb 8 (injO hq).symm
 refine ifE hb 6 [24, 25] [] hq (fun hq _ => ?_) (fun hq _ => ?_)
 exact retE hb 8 (injO hq).symm
 refine ifE hb 6 [29, 30] [] hq (fun hq _ => ?_) (fun hq _ => ?_)
 exact retE hb 8 (injO hq).symm
 refine ifE hb 6 [34, 35] [] hq (fun hq _ => ?_) (fun hq _ => ?_)
 refine cpE hb 2 [2, 3] (s' := ⟨none, [pick (bodyOf Tryz.f21) [1, 1, 0, 1, 0, 1, 1, 1, 1, 1, 1, 1, 1, 1, 0, 0], pick (bodyOf Tryz.f21) [1, 1, 0, 1, 0, 1, 1, 1, 1, 1, 1, 1, 1, 1, 0, 1]], [(0, [pick (bodyOf Tryz.f21) [1, 1, 1]])], sl 95 [(2, pt 0), (3, pt 1)], [bx (aV v_), bx (aT t_)]⟩) ?_
 refine ifE hb 5 [38, 39] [] hq (fun hq _ => ?_) (fun hq _ => ?_)
 refine callE hb 4 hq (hr_types_every v_.items t_.elems) fun y9 hy9 hq => ?_
 exact retE hb 3 (injO hq).symm
 exact retE hb 8 (injO hq).symm
 refine cpE hb 2 [2, 3, 16] (s' := ⟨none, [pick (bodyOf Tryz.f21) [1, 1, 0, 1, 0, 1, 1, 1, 1, 1, 1, 1, 1, 1, 1, 0], pick (bodyOf Tryz.f21) [1, 1, 0, 1, 0, 1, 1, 1, 1, 1, 1, 1, 1, 1, 1, 1]], [(0, [pick (bodyOf Tryz.f21) [1, 1, 1]])], sl 95 [(2, pt 0), (3, pt 1), (16, c1 (vi t_.kind))], [bx (aV v_), bx (aT t_)]⟩) ?_
 refine ifE hb 4 [46, 47] [] hq (fun hq _ => ?_) (fun hq _ => ?_)
 refine ifE hb 7 [50, 51] [] hq (fun hq _ => ?_) (fun hq _ => ?_)
 refine callE hb 4 hq (hr_types_every v_.items t_.elems) fun y12 hy12 hq => ?_
 exact retE hb 3 (injO hq).symm
 exact retE hb 8 (injO hq).symm
 refine ifE hb 10 [60, 61] [] hq (fun hq _ => ?_) (fun hq _ => ?_)
 exact retE hb 22 (injO hq).symm
 refine callE hb 4 hq (gQ65 hb he v_.keys t_.names) fun y14 hy14 hq => ?_
 refine ifE hb 3 [67, 68, 69] [] hq (fun hq _ => ?_) (fun hq _ => ?_)
 exact retE hb 14 (injO hq).symm
 refine ifE hb 9 [76, 77] [] hq (fun hq _ => ?_) (fun hq _ => ?_)
 exact retE hb 5 (injO hq).symm
 refine cpE hb 11 [3, 79, 80, 81] (s' := ⟨none, [pick (bodyOf Tryz.f21) [1, 1, 1, 1, 0, 1, 0]], [(1, [pick (bodyOf Tryz.f21) [1, 1, 1, 1, 1]])], sl 95 [(3, pt 1), (79, c1 (vL flV v_.items)), (80, c1 (vi (v_.items.length : Int))), (81, c1 (vi 0))], [bx (aV v_), bx (aT t_)]⟩) ?_
 refine loopE hb 0 (gQ6j r_types_Fits v_ t_) (fun s1 => sl 95 [(3, pt 1), (79, c1 (vL flV v_.items)), (80, c1 (vi (v_.items.length : Int))), (81, c1 (vi s1))]) (fun s1 => [none, bx (aT t_)]) [3, 79, 80, 81] [0] 2 (s0 := 0) ⟨rfl, (by kernel_rfl), trivial⟩ hq (fun s1 x1 hq hn1 he1 => ?_)
 refine ifE hb 5 [82] [] hq (fun hq _ => ?_) (fun hq _ => ?_)
 refine idxE hb flV 7 hq fun x18 hx18 hq => ?_
 refine drawE hb mixed 6 6 [] ?_
 refine idxE hb flT 4 hq fun x19 hx19 hq => ?_
 refine callE hb 2 hq (hr_types_Fits x18 x19) fun y20 hy20 hq => ?_
 refine ifE hb 2 [93] [] hq (fun hq _ => ?_) (fun hq _ => ?_)
 exact retE hb 5 (he1 _ (injO hq))
 exact backE hb 7 [3, 79, 80, 81] [] 2 (hn1 _ (injO hq)) ⟨rfl, (by kernel_rfl), trivial⟩
 exact retE hb 6 (he1 _ (injO hq))
noncomputable def tQ8s (rec : Val → Ty → Option (Bool)) (a : Val) (b : Ty) : Option (Bool) :=
 gQ6i (gQ6p (fun a0 a1 => rec a0 a1)) (fun a0 a1 => rec a0 a1) a b
noncomputable def tQ8q (a0 : Val) (a1 : Ty) : Option (Bool) := tieF relV wfV tQ8s a0 a1
theorem tQ8r (hb : Base E E0 G) (he : ∀ w, E w → EnvV w) (a0 : Val) (a1 : Ty) (r : Bool) (hq : tQ8q a0 a1 = some r) : Pure E E0 Tryz.prog 21 [.agg (aV a0), .agg (aT a1)] (c1 (vB r)) :=
 tieF_ok (C := fun a b r => Pure E E0 Tryz.prog 21 [.agg (aV a), .agg (aT b)] (c1 (vB r))) (fun rec hr a b r hq => gQ6k hb he (gQ6p (fun a0 a1 => rec a0 a1)) (fun a0 a1 => rec a0 a1) (gQ6x hb he (fun a0 a1 => rec a0 a1) (fun a0 a1 r e => hr a0 a1 r e)) (fun a0 a1 r e => hr a0 a1 r e) a b r hq) a0 a1 r hq
noncomputable def gQ7r (r_value_Refines : Val → Val → Option (Bool)) (s1_ : List Val) (s2_ : List Val) (s1 : Int) : Option ((Int) ⊕ (Bool)) :=
 bif (decide (s1 < (s1_.length : Int))) then (idx s1_ s1).bind fun x3 => (idx s2_ s1).bind fun x4 => (r_value_Refines x3 x4).bind fun y5 => bif (!y5) then some (.inr (false)) else some (.inl (IntKind.i64.wrap (s1 + 1))) else some (.inr (true))
noncomputable def gQ7q (r_value_Refines : Val → Val → Option (Bool)) (s1_ : List Val) (s2_ : List Val) : Option (Bool) :=
 bif (!decide ((s1_.length : Int) = (s2_.length : Int))) then some (false) else loopO (gQ7r r_value_Refines s1_ s2_) 0
theorem gQ7s (hb : Base E E0 G) (he : ∀ w, E w → EnvV w) (r_value_Refines : Val → Val → Option (Bool)) (hr_value_Refines : ∀ (a0 : Val) (a1 : Val) (r : Bool), r_value_Refines a0 a1 = some r → Pure E E0 Tryz.prog 34 [.agg (aV a0), .agg (aV a1)] (c1 (vB r))) (s1_ : List Val) (s2_ : List Val) : ∀ r_ : Bool, gQ7q r_value_Refines s1_ s2_ = some r_ →
 Pure E E0 Tryz.prog 67 [.cell (vL flV s1_), .cell (vL flV s2_), .cell (.pv (.sc (.func (.func 34) #[] #[])))] (c1 (vB r_)) := by
 refine fnE hb Tryz.func67 rfl fun r_ hq => ?_
 refine ifE hb 13 [14] [] hq (fun hq _ => ?_) (fun hq _ => ?_)
 exact retE hb 5 (injO hq).symm
 refine loopE hb 10 (gQ7r r_value_Refines s1_ s2_) (fun s1 => sl 32 [(1, c1 (vL flV s2_)), (2, c1 (.pv (.sc (.func (.func 34) #[] #[])))), (15, c1 (vL flV s1_)), (16, c1 (vi (s1_.length : Int))), (17, c1 (vi s1))]) (fun s1 => []) [1, 2, 15, 16, 17] [] 0 (s0 := 0) trivial hq (fun s1 x1 hq hn1 he1 => ?_)
 refine ifE hb 5 [18] [] hq (fun hq _ => ?_) (fun hq _ => ?_)
 refine idxE hb flV 7 hq fun x3 hx3 hq => ?_
 refine idxE hb flV 9 hq fun x4 hx4 hq => ?_
 refine callE hb 9 hq (hr_value_Refines x3 x4) fun y5 hy5 hq => ?_
 refine ifE hb 2 [30] [] hq (fun hq _ => ?_) (fun hq _ => ?_)
 exact retE hb 5 (he1 _ (injO hq))
 exact backE hb 7 [1, 2, 15, 16, 17] [] 0 (hn1 _ (injO hq)) trivial
 exact retE hb 6 (he1 _ (injO hq))
noncomputable def gQ7o (r_value_Refines : Val → Val → Option (Bool)) (a_ : Val) (b_ : Val) : Option (Bool) :=
 bif (decide (b_.kind = 6)) then some (true) else bif (decide (a_.kind = b_.kind)) then bif (decide (a_.num = b_.num)) then bif (decide (a_.str = b_.str)) then (gQ63 a_.keys b_.keys).bind fun y5 => bif y5 then (gQ7q r_value_Refines a_.items b_.items).bind fun y7 => some (y7) else some (false) else some (false) else some (false) else some (false)
theorem gQ7p (hb : Base E E0 G) (he : ∀ w, E w → EnvV w) (r_value_Refines : Val → Val → Option (Bool)) (hr_value_Refines : ∀ (a0 : Val) (a1 : Val) (r : Bool), r_value_Refines a0 a1 = some r → Pure E E0 Tryz.prog 34 [.agg (aV a0), .agg (aV a1)] (c1 (vB r))) (a_ : Val) (b_ : Val) : ∀ r_ : Bool, gQ7o r_value_Refines a_ b_ = some r_ →
 Pure E E0 Tryz.prog 34 [.agg (aV a_), .agg (aV b_)] (c1 (vB r_)) := by
 refine fnE hb Tryz.func34 rfl fun r_ hq => ?_
 refine ifE hb 13 [7] [] hq (fun hq _ => ?_) (fun hq _ => ?_)
 exact retE hb 5 (injO hq).symm
 refine ifE hb 10 [12, 13] [] hq (fun hq _ => ?_) (fun hq _ => ?_)
 refine ifE hb 7 [18, 19, 20] [] hq (fun hq _ => ?_) (fun hq _ => ?_)
 refine ifE hb 7 [25, 26, 27] [] hq (fun hq _ => ?_) (fun hq _ => ?_)
 refine callE hb 4 hq (gQ65 hb he a_.keys b_.keys) fun y5 hy5 hq => ?_
 refine ifE hb 2 [32, 33, 34] [] hq (fun hq _ => ?_) (fun hq _ => ?_)
 refine callE hb 4 hq (gQ7s hb he r_value_Refines hr_value_Refines a_.items b_.items) fun y7 hy7 hq => ?_
 exact retE hb 3 (injO hq).symm
 exact retE hb 8 (injO hq).symm
 exact retE hb 15 (injO hq).symm
 exact retE hb 22 (injO hq).symm
 exact retE hb 29 (injO hq).symm
noncomputable def tQ94 (rec : Val → Val → Option (Bool)) (a : Val) (b : Val) : Option (Bool) :=
 gQ7o (fun a0 a1 => rec a0 a1) a b
noncomputable def tQ92 (a0 : Val) (a1 : Val) : Option (Bool) := tieF relV wfV tQ94 a0 a1
theorem tQ93 (hb : Base E E0 G) (he : ∀ w, E w → EnvV w) (a0 : Val) (a1 : Val) (r : Bool) (hq : tQ92 a0 a1 = some r) : Pure E E0 Tryz.prog 34 [.agg (aV a0), .agg (aV a1)] (c1 (vB r)) :=
 tieF_ok (C := fun a b r => Pure E E0 Tryz.prog 34 [.agg (aV a), .agg (aV b)] (c1 (vB r))) (fun rec hr a b r hq => gQ7p hb he (fun a0 a1 => rec a0 a1) (fun a0 a1 r e => hr a0 a1 r e) a b r hq) a0 a1 r hq
noncomputable def gQ3r  (s_ : SchemaG) (planned_ : Val) (final_ : Val) : Option (Bool) :=
 (m_checkE final_).bind fun y1 => bif (decide (y1 = 0)) then (tQ8z final_).bind fun y3 => bif y3 then (gQ4d s_).bind fun y5 => (tQ8q final_ y5).bind fun y6 => bif y6 then (tQ92 final_ planned_).bind fun y8 => some (y8) else some (false) else some (false) else some (false)
theorem gQ3s (hb : Base E E0 G) (he : ∀ w, E w → EnvV w)   (s_ : SchemaG) (planned_ : Val) (final_ : Val) : ∀ r_ : Bool, gQ3r s_ planned_ final_ = some r_ →
 Pure E E0 Tryz.prog 35 [.agg [vL flAttrG s_.attrs, vL flNestedG s_.nested], .agg (aV planned_), .agg (aV final_)] (c1 (vB r_)) := by
 refine fnE hb Tryz.func35 rfl fun r_ hq => ?_
 refine drawE hb mixed 8 16 [] ?_
 refine callE hb 1 hq (pCheck_g hb he final_) fun y1 hy1 hq => ?_
 refine ifE hb 2 [9, 10] [] hq (fun hq _ => ?_) (fun hq _ => ?_)
 refine callE hb 1 hq (tQ90 hb he final_) fun y3 hy3 hq => ?_
 refine ifE hb 2 [12, 13, 14] [] hq (fun hq _ => ?_) (fun hq _ => ?_)
 refine callE hb 2 hq (gQ4i hb he s_) fun y5 hy5 hq => ?_
 refine callE hb 0 hq (tQ8r hb he final_ y5) fun y6 hy6 hq => ?_
 refine ifE hb 2 [18, 19, 20] [] hq (fun hq _ => ?_) (fun hq _ => ?_)
 refine callE hb 3 hq (tQ93 hb he final_ planned_) fun y8 hy8 hq => ?_
 exact retE hb 3 (injO hq).symm
 exact retE hb 7 (injO hq).symm
 exact retE hb 13 (injO hq).symm
 exact retE hb 17 (injO hq).symm
noncomputable def gQ1t   : Option (Ty) :=
 some (Ty.mk 3 [] [])
theorem gQ1u (hb : Base E E0 G) (he : ∀ w, E w → EnvV w)    : ∀ r_ : Ty, gQ1t = some r_ →
 Pure E E0 Tryz.prog 101 [] (.one (.agg (aT r_))) := by
 refine fnE hb Tryz.func101 rfl fun r_ hq => ?_
 exact retE hb 9 (injO hq).symm
noncomputable def gQ1j   : Option (SchemaG) :=
 (gQ1t).bind fun y1 => (gQ1t).bind fun y2 => some (SchemaG.mk [(AttrG.mk (⟨#[105, 100]⟩ : ByteArray) y1 3 false false false), (AttrG.mk (⟨#[110]⟩ : ByteArray) (Ty.mk 2 [] []) 2 false false false), (AttrG.mk (⟨#[110, 97, 109, 101]⟩ : ByteArray) y2 1 true false false)] [])
theorem gQ1k (hb : Base E E0 G) (he : ∀ w, E w → EnvV w)    : ∀ r_ : SchemaG, gQ1j = some r_ →
 Pure E E0 Tryz.prog 52 [] (.one (.agg [vL flAttrG r_.attrs, vL flNestedG r_.nested])) := by
 refine fnE hb Tryz.func52 rfl fun r_ hq => ?_
 refine callE hb 6 hq (gQ1u hb he ) fun y1 hy1 hq => ?_
 refine callE hb 3 hq (gQ1u hb he ) fun y2 hy2 hq => ?_
 refine cellSE hb 5 0 0 (cs := [.pv (.sl true 3 [pS (⟨#[105, 100]⟩ : ByteArray), pI .i64 y1.kind, pL flT y1.elems, pL flS y1.names, pI .i64 3, pB false, pB false, pB false, pS (⟨#[110]⟩ : ByteArray), pI .i64 2, pL flT [], pL flS [], pI .i64 2, pB false, pB false, pB false, pS (⟨#[110, 97, 109, 101]⟩ : ByteArray), pI .i64 y2.kind, pL flT y2.elems, pL flS y2.names, pI .i64 1, pB true, pB false, pB false]), vN]) (c := .pv (.sl true 3 [pS (⟨#[105, 100]⟩ : ByteArray), pI .i64 y1.kind, pL flT y1.elems, pL flS y1.names, pI .i64 3, pB false, pB false, pB false, pS (⟨#[110]⟩ : ByteArray), pI .i64 2, pL flT [], pL flS [], pI .i64 2, pB false, pB false, pB false, pS (⟨#[110, 97, 109, 101]⟩ : ByteArray), pI .i64 y2.kind, pL flT y2.elems, pL flS y2.names, pI .i64 1, pB true, pB false, pB false])) (conv_lit flAttrG (flAttrG.three (AttrG.mk (⟨#[105, 100]⟩ : ByteArray) y1 3 false false false) (AttrG.mk (⟨#[110]⟩ : ByteArray) (Ty.mk 2 [] []) 2 false false false) (AttrG.mk (⟨#[110, 97, 109, 101]⟩ : ByteArray) y2 1 true false false)).symm) (by kernel_rfl) ?_
 exact retE hb 0 (injO hq).symm
noncomputable def gQ22  (s_ : ByteArray) : Option (Val) :=
 some (Val.mk 3 0 s_ [] [])
theorem gQ23 (hb : Base E E0 G) (he : ∀ w, E w → EnvV w)   (s_ : ByteArray) : ∀ r_ : Val, gQ22 s_ = some r_ →
 Pure E E0 Tryz.prog 53 [.cell (vS s_)] (.one (.agg (aV r_))) := by
 refine fnE hb Tryz.func53 rfl fun r_ hq => ?_
 exact retE hb 10 (injO hq).symm
noncomputable def gQ1y  (id_ : Val) (n_ : Val) (name_ : Val) : Option (Val) :=
 some (Val.mk 5 0 eS [id_, n_, name_] [(⟨#[105, 100]⟩ : ByteArray), (⟨#[110]⟩ : ByteArray), (⟨#[110, 97, 109, 101]⟩ : ByteArray)])
theorem gQ1z (hb : Base E E0 G) (he : ∀ w, E w → EnvV w)   (id_ : Val) (n_ : Val) (name_ : Val) : ∀ r_ : Val, gQ1y id_ n_ name_ = some r_ →
 Pure E E0 Tryz.prog 54 [.agg (aV id_), .agg (aV n_), .agg (aV name_)] (.one (.agg (aV r_))) := by
 refine fnE hb Tryz.func54 rfl fun r_ hq => ?_
 refine cellSE hb 17 3 3 (cs := [vi 5, vi 0, vS eS, .pv (.sl true 3 [pI .i64 id_.kind, pI .i64 id_.num, pS id_.str, pL flV id_.items, pL flS id_.keys, pI .i64 n_.kind, pI .i64 n_.num, pS n_.str, pL flV n_.items, pL flS n_.keys, pI .i64 name_.kind, pI .i64 name_.num, pS name_.str, pL flV name_.items, pL flS name_.keys]), .pv (.sl true 3 [pS (⟨#[105, 100]⟩ : ByteArray), pS (⟨#[110]⟩ : ByteArray), pS (⟨#[110, 97, 109, 101]⟩ : ByteArray)])]) (c := .pv (.sl true 3 [pI .i64 id_.kind, pI .i64 id_.num, pS id_.str, pL flV id_.items, pL flS id_.keys, pI .i64 n_.kind, pI .i64 n_.num, pS n_.str, pL flV n_.items, pL flS n_.keys, pI .i64 name_.kind, pI .i64 name_.num, pS name_.str, pL flV name_.items, pL flS name_.keys])) (conv_lit flV (flV.three id_ n_ name_).symm) (by kernel_rfl) ?_
 refine cellSE hb 0 3 4 (cs := [vi 5, vi 0, vS eS, vL flV [id_, n_, name_], .pv (.sl true 3 [pS (⟨#[105, 100]⟩ : ByteArray), pS (⟨#[110]⟩ : ByteArray), pS (⟨#[110, 97, 109, 101]⟩ : ByteArray)])]) (c := .pv (.sl true 3 [pS (⟨#[105, 100]⟩ : ByteArray), pS (⟨#[110]⟩ : ByteArray), pS (⟨#[110, 97, 109, 101]⟩ : ByteArray)])) (conv_lit flS (flS.three (⟨#[105, 100]⟩ : ByteArray) (⟨#[110]⟩ : ByteArray) (⟨#[110, 97, 109, 101]⟩ : ByteArray)).symm) (by kernel_rfl) ?_
 exact retE hb 0 (injO hq).symm
noncomputable def gQ1h  (z1 : Bool) : Option (Bool) :=
 some (z1)
noncomputable def gQ1g   : Option (Bool) :=
 (gQ1j).bind fun y1 => (gQ22 (⟨#[53]⟩ : ByteArray)).bind fun y2 => (gQ22 (⟨#[120]⟩ : ByteArray)).bind fun y3 => (gQ3z y1 (Val.mk 5 0 eS [y2, y3] [(⟨#[110]⟩ : ByteArray), (⟨#[110, 97, 109, 101]⟩ : ByteArray)])).bind fun y4 => (gQ3z y1 (Val.mk 5 0 eS [] [])).bind fun y5 => (gQ46 y1 (Val.mk 0 0 eS [] []) y4.1).bind fun y6 => (gQ22 (⟨#[49]⟩ : ByteArray)).bind fun y7 => (gQ22 (⟨#[120]⟩ : ByteArray)).bind fun y8 => (gQ1y y7 (Val.mk 2 5 eS [] []) y8).bind fun y9 => (gQ22 (⟨#[49]⟩ : ByteArray)).bind fun y10 => (gQ22 (⟨#[121]⟩ : ByteArray)).bind fun y11 => (gQ1y y10 (Val.mk 2 5 eS [] []) y11).bind fun y12 => (gQ4a y1 y9 y12).bind fun y13 => (gQ3w y1).bind fun y14 => bif (decide (y14 = 0)) then (gQ3w (SchemaG.mk [] [])).bind fun y16 => bif (decide (y16 = 12)) then bif (decide ((y4.2.kind : Int) = 0) && (decide ((y4.2.at_ : Int) = 0) && (decide (y4.2.name = eS) && true))) then (gQ22 (⟨#[120]⟩ : ByteArray)).bind fun y19 => (gQ1y (Val.mk 0 0 eS [] []) (Val.mk 2 5 eS [] []) y19).bind fun y20 => (tQ85 y4.1 y20).bind fun y21 => bif y21 then bif (decide ((y5.2.kind : Int) = 12) && (decide ((y5.2.at_ : Int) = 0) && (decide (y5.2.name = (⟨#[110, 97, 109, 101]⟩ : ByteArray)) && true))) then (gQ22 (⟨#[120]⟩ : ByteArray)).bind fun y24 => (gQ1y (Val.mk 6 0 eS [] []) (Val.mk 2 5 eS [] []) y24).bind fun y25 => (tQ85 y6 y25).bind fun y26 => bif y26 then bif (decide ((y13.length : Int) = 1)) then (idx y13 0).bind fun x29 => bif (decide (x29 = (⟨#[110, 97, 109, 101]⟩ : ByteArray))) then (gQ22 (⟨#[49]⟩ : ByteArray)).bind fun y31 => (gQ22 (⟨#[120]⟩ : ByteArray)).bind fun y32 => (gQ1y y31 (Val.mk 2 5 eS [] []) y32).bind fun y33 => (gQ3r y1 y6 y33).bind fun y34 => gQ1h y34 else gQ1h false else gQ1h false else gQ1h false else gQ1h false else gQ1h false else gQ1h false else gQ1h false else gQ1h false
theorem gQ1i (hb : Base E E0 G) (he : ∀ w, E w → EnvV w)    : ∀ r_ : Bool, gQ1g = some r_ →
 Pure E E0 Tryz.prog 14 [] (c1 (vB r_)) := by
 refine fnE hb Tryz.func14 rfl fun r_ hq => ?_
 refine callE hb 6 hq (gQ1k hb he ) fun y1 hy1 hq => ?_
 refine drawE hb mixed 4 12 [9] ?_
 refine callE hb 2 hq (gQ23 hb he (⟨#[53]⟩ : ByteArray)) fun y2 hy2 hq => ?_
 refine callE hb 0 hq (gQ23 hb he (⟨#[120]⟩ : ByteArray)) fun y3 hy3 hq => ?_
 have hp := (gQ42 hb he y1 (Val.mk 5 0 eS [y2, y3] [(⟨#[110]⟩ : ByteArray), (⟨#[110, 97, 109, 101]⟩ : ByteArray)]))
 simp only [aV, aT, kind_mk, num_mk, str_mk, items_mk, keys_mk, Ty.kind_mk, Ty.elems_mk, Ty.names_mk, vL_one, vL_two, vL_three, vL_four, vL_five, vL_six] at hp
 refine callE hb 2 hq hp fun y4 hy4 hq => ?_
 refine callE hb 13 hq (gQ42 hb he y1 (Val.mk 5 0 eS [] [])) fun y5 hy5 hq => ?_
 refine callE hb 19 hq (gQ49 hb he y1 (Val.mk 0 0 eS [] []) y4.1) fun y6 hy6 hq => ?_
 refine cpE hb 4 [1, 2, 3, 5, 6, 7] (s' := ⟨none, [pick (bodyOf Tryz.f14) [1, 1, 1, 1, 1, 1, 0], pick (bodyOf Tryz.f14) [1, 1, 1, 1, 1, 1, 1]], [], sl 95 [(1, pt 0), (2, pt 1), (3, pt 2), (5, pt 4), (6, pt 5), (7, pt 6)], [bx [vL flAttrG y1.attrs, vL flNestedG y1.nested], bx (aV y4.1), bx [vi y4.2.kind, vi y4.2.at_, vS y4.2.name], bx (aV y5.1), bx [vi y5.2.kind, vi y5.2.at_, vS y5.2.name], bx [vi 2, vi 5, vS eS, vN, vN], bx (aV y6)]⟩) ?_
 refine drawE hb mixed 0 9 [] ?_
 refine callE hb 1 hq (gQ23 hb he (⟨#[49]⟩ : ByteArray)) fun y7 hy7 hq => ?_
 refine callE hb 1 hq (gQ23 hb he (⟨#[120]⟩ : ByteArray)) fun y8 hy8 hq => ?_
 refine callE hb 0 hq (gQ1z hb he y7 (Val.mk 2 5 eS [] []) y8) fun y9 hy9 hq => ?_
 refine callE hb 0 hq (gQ23 hb he (⟨#[49]⟩ : ByteArray)) fun y10 hy10 hq => ?_
 refine callE hb 1 hq (gQ23 hb he (⟨#[121]⟩ : ByteArray)) fun y11 hy11 hq => ?_
 refine callE hb 0 hq (gQ1z hb he y10 (Val.mk 2 5 eS [] []) y11) fun y12 hy12 hq => ?_
 refine callE hb 1 hq (gQ4c hb he y1 y9 y12) fun y13 hy13 hq => ?_
 refine cpE hb 3 [1, 2, 3, 5, 6, 7, 8] (s' := ⟨none, [pick (bodyOf Tryz.f14) [1, 1, 1, 1, 1, 1, 1, 0], pick (bodyOf Tryz.f14) [1, 1, 1, 1, 1, 1, 1, 1]], [], sl 95 [(1, pt 0), (2, pt 1), (3, pt 2), (5, pt 4), (6, pt 5), (7, pt 6), (8, c1 (vL flS y13))], [bx [vL flAttrG y1.attrs, vL flNestedG y1.nested], bx (aV y4.1), bx [vi y4.2.kind, vi y4.2.at_, vS y4.2.name], bx (aV y5.1), bx [vi y5.2.kind, vi y5.2.at_, vS y5.2.name], bx [vi 2, vi 5, vS eS, vN, vN], bx (aV y6)]⟩) ?_
 refine joinE hb gQ1h (fun z1 => ⟨none, [pick (bodyOf Tryz.f14) [1, 1, 1, 1, 1, 1, 1, 1]], [], sl 95 [(0, c1 (vB z1))], [bx [vL flAttrG y1.attrs, vL flNestedG y1.nested], bx (aV y4.1), bx [vi y4.2.kind, vi y4.2.at_, vS y4.2.name], bx (aV y5.1), bx [vi y5.2.kind, vi y5.2.at_, vS y5.2.name], bx [vi 2, vi 5, vS eS, vN, vN], bx (aV y6)]⟩) (x := r_) (fun z1 hq => ?_) (fun KJ1 => ?_)
 exact retE hb 0 (injO hq).symm
 refine drawE hb mixed 0 52 [] ?_
 refine callE hb 1 hq (gQ3y hb he y1) fun y14 hy14 hq => ?_
 refine ifE hb 2 [43, 44] [] hq (fun hq _ => ?_) (fun hq _ => ?_)
 refine callE hb 1 hq (gQ3y hb he (SchemaG.mk [] [])) fun y16 hy16 hq => ?_
 refine ifE hb 3 [47, 48, 49] [] hq (fun hq _ => ?_) (fun hq _ => ?_)
 refine ifE hb 5 [52, 53, 54] [] hq (fun hq _ => ?_) (fun hq _ => ?_)
 refine callE hb 3 hq (gQ23 hb he (⟨#[120]⟩ : ByteArray)) fun y19 hy19 hq => ?_
 refine callE hb 0 hq (gQ1z hb he (Val.mk 0 0 eS [] []) (Val.mk 2 5 eS [] []) y19) fun y20 hy20 hq => ?_
 refine callE hb 0 hq (tQ86 hb he y4.1 y20) fun y21 hy21 hq => ?_
 refine ifE hb 2 [60, 61, 62] [] hq (fun hq _ => ?_) (fun hq _ => ?_)
 refine ifE hb 5 [65, 66, 67] [] hq (fun hq _ => ?_) (fun hq _ => ?_)
 refine callE hb 3 hq (gQ23 hb he (⟨#[120]⟩ : ByteArray)) fun y24 hy24 hq => ?_
 refine callE hb 0 hq (gQ1z hb he (Val.mk 6 0 eS [] []) (Val.mk 2 5 eS [] []) y24) fun y25 hy25 hq => ?_
 refine callE hb 0 hq (tQ86 hb he y6 y25) fun y26 hy26 hq => ?_
 refine ifE hb 2 [73, 74, 75] [] hq (fun hq _ => ?_) (fun hq _ => ?_)
 refine ifE hb 5 [78, 79, 80] [] hq (fun hq _ => ?_) (fun hq _ => ?_)
 refine idxE hb flS 1 hq fun x29 hx29 hq => ?_
 refine ifE hb 4 [84, 85, 86] [] hq (fun hq _ => ?_) (fun hq _ => ?_)
 refine callE hb 2 hq (gQ23 hb he (⟨#[49]⟩ : ByteArray)) fun y31 hy31 hq => ?_
 refine callE hb 1 hq (gQ23 hb he (⟨#[120]⟩ : ByteArray)) fun y32 hy32 hq => ?_
 refine callE hb 0 hq (gQ1z hb he y31 (Val.mk 2 5 eS [] []) y32) fun y33 hy33 hq => ?_
 refine callE hb 1 hq (gQ3s hb he y1 y6 y33) fun y34 hy34 hq => ?_
 exact cpE hb 3 [0] (KJ1 y34 hq)
 exact cpE hb 11 [0] (KJ1 false hq)
 exact cpE hb 17 [0] (KJ1 false hq)
 exact cpE hb 22 [0] (KJ1 false hq)
 exact cpE hb 30 [0] (KJ1 false hq)
 exact cpE hb 35 [0] (KJ1 false hq)
 exact cpE hb 43 [0] (KJ1 false hq)
 exact cpE hb 48 [0] (KJ1 false hq)
 exact cpE hb 53 [0] (KJ1 false hq)
noncomputable def gQ0u  (s_ : SchemaG) : Option (Bool) :=
 (gQ1l s_).bind fun y1 => bif (!y1) then (gQ1g).bind fun y3 => some (y3) else (gQ3w s_).bind fun y4 => (gQ35 s_).bind fun y5 => bif (decide (y4 = y5)) then (gQ1g).bind fun y7 => some (y7) else some (false)
theorem gQ0v (hb : Base E E0 G) (he : ∀ w, E w → EnvV w)   (s_ : SchemaG) : ∀ r_ : Bool, gQ0u s_ = some r_ →
 Pure E E0 Tryz.prog 3 [.agg [vL flAttrG s_.attrs, vL flNestedG s_.nested]] (c1 (vB r_)) := by
 refine fnE hb Tryz.func3 rfl fun r_ hq => ?_
 refine drawE hb mixed 6 7 [] ?_
 refine callE hb 1 hq (gQ1n hb he s_) fun y1 hy1 hq => ?_
 refine ifE hb 2 [5, 6] [] hq (fun hq _ => ?_) (fun hq _ => ?_)
 refine callE hb 8 hq (gQ1i hb he ) fun y3 hy3 hq => ?_
 exact retE hb 3 (injO hq).symm
 refine callE hb 1 hq (gQ3y hb he s_) fun y4 hy4 hq => ?_
 refine callE hb 2 hq (gQ37 hb he s_) fun y5 hy5 hq => ?_
 refine ifE hb 3 [11, 12, 13] [] hq (fun hq _ => ?_) (fun hq _ => ?_)
 refine callE hb 0 hq (gQ1i hb he ) fun y7 hy7 hq => ?_
 exact retE hb 3 (injO hq).symm
 exact retE hb 4 (injO hq).symm
noncomputable def gQ20  (s_ : SchemaG) : Option (Bool) :=
 (gQ1l s_).bind fun y1 => bif y1 then (gQ35 s_).bind fun y3 => some (decide (y3 = 0)) else some (false)
theorem gQ21 (hb : Base E E0 G) (he : ∀ w, E w → EnvV w)   (s_ : SchemaG) : ∀ r_ : Bool, gQ20 s_ = some r_ →
 Pure E E0 Tryz.prog 15 [.agg [vL flAttrG s_.attrs, vL flNestedG s_.nested]] (c1 (vB r_)) := by
 refine fnE hb Tryz.func15 rfl fun r_ hq => ?_
 refine callE hb 8 hq (gQ1n hb he s_) fun y1 hy1 hq => ?_
 refine ifE hb 1 [4, 5] [] hq (fun hq _ => ?_) (fun hq _ => ?_)
 refine callE hb 1 hq (gQ37 hb he s_) fun y3 hy3 hq => ?_
 exact retE hb 4 (injO hq).symm
 exact retE hb 6 (injO hq).symm
noncomputable def gQ2e (v_ : Val) (key_ : ByteArray) (s1 : Int) : Option ((Int) ⊕ (Val × Bool)) :=
 bif (decide (s1 < (v_.keys.length : Int))) then bif (decide (s1 < (v_.items.length : Int))) then (idx v_.keys s1).bind fun x4 => bif (decide (x4 = key_)) then (idx v_.items s1).bind fun x6 => some (.inr (x6, true)) else some (.inl (IntKind.i64.wrap (s1 + 1))) else some (.inr ((Val.mk 0 0 eS [] []), false)) else some (.inr ((Val.mk 0 0 eS [] []), false))
noncomputable def gQ2d  (v_ : Val) (key_ : ByteArray) : Option (Val × Bool) :=
 bif (!decide (v_.kind = 5)) then some ((Val.mk 0 0 eS [] []), false) else loopO (gQ2e v_ key_) 0
theorem gQ2f (hb : Base E E0 G) (he : ∀ w, E w → EnvV w)   (v_ : Val) (key_ : ByteArray) : ∀ r_ : Val × Bool, gQ2d v_ key_ = some r_ →
 Pure E E0 Tryz.prog 84 [.agg (aV v_), .cell (vS key_)] (.tup [.agg (aV r_.1), .cell (vB r_.2)]) := by
 refine fnE hb Tryz.func84 rfl fun r_ hq => ?_
 refine ifE hb 13 [9] [] hq (fun hq _ => ?_) (fun hq _ => ?_)
 exact retE hb 7 (injO hq).symm
 refine loopE hb 8 (gQ2e v_ key_) (fun s1 => sl 38 [(1, c1 (vS key_)), (2, pt 0), (4, pt 1), (6, c1 (vi s1))]) (fun s1 => [bx (aV v_), bx zV]) [1, 2, 4, 6] [] 2 (s0 := 0) ⟨(by kernel_rfl), (by kernel_rfl), trivial⟩ hq (fun s1 x1 hq hn1 he1 => ?_)
 refine ifE hb 9 [15, 16] [] hq (fun hq _ => ?_) (fun hq _ => ?_)
 refine ifE hb 7 [21, 22] [] hq (fun hq _ => ?_) (fun hq _ => ?_)
 refine idxE hb flS 9 hq fun x4 hx4 hq => ?_
 refine ifE hb 4 [31] [] hq (fun hq _ => ?_) (fun hq _ => ?_)
 refine idxE hb flV 6 hq fun x6 hx6 hq => ?_
 exact retE hb 4 (he1 _ (injO hq))
 exact backE hb 8 [1, 2, 4, 6] [] 2 (hn1 _ (injO hq)) ⟨(by kernel_rfl), (by kernel_rfl), trivial⟩
 exact retE hb 8 (he1 _ (injO hq))
 exact retE hb 15 (he1 _ (injO hq))
noncomputable def gQ3c  (v_ : Val) (name_ : ByteArray) : Option (Val) :=
 bif (!decide (v_.kind = 5)) then some (Val.mk 0 0 eS [] []) else (gQ2d v_ name_).bind fun y2 => bif (!y2.2) then some (Val.mk 0 0 eS [] []) else some (y2.1)
theorem gQ3d (hb : Base E E0 G) (he : ∀ w, E w → EnvV w)   (v_ : Val) (name_ : ByteArray) : ∀ r_ : Val, gQ3c v_ name_ = some r_ →
 Pure E E0 Tryz.prog 36 [.agg (aV v_), .cell (vS name_)] (.one (.agg (aV r_))) := by
 refine fnE hb Tryz.func36 rfl fun r_ hq => ?_
 refine ifE hb 12 [9] [] hq (fun hq _ => ?_) (fun hq _ => ?_)
 exact retE hb 6 (injO hq).symm
 refine callE hb 6 hq (gQ2f hb he v_ name_) fun y2 hy2 hq => ?_
 refine ifE hb 13 [18] [] hq (fun hq _ => ?_) (fun hq _ => ?_)
 exact retE hb 6 (injO hq).symm
 exact retE hb 7 (injO hq).symm
noncomputable def gQ0o  (s_ : SchemaG) (v_ : Val) : Option (Bool) :=
 (gQ20 s_).bind fun y1 => bif (!y1) then (gQ1g).bind fun y3 => some (y3) else (m_small v_ 150).bind fun y4 => bif (!y4) then (gQ1g).bind fun y6 => some (y6) else (gQ3z s_ v_).bind fun y7 => bif (!decide (y7.2.kind = 0)) then (gQ1g).bind fun y9 => some (y9) else (gQ3z s_ y7.1).bind fun y10 => bif (decide ((y10.2.kind : Int) = 0) && (decide ((y10.2.at_ : Int) = 0) && (decide (y10.2.name = eS) && true))) then (tQ8w y7.1 y10.1).bind fun y12 => bif y12 then (gQ4d s_).bind fun y14 => (tQ8q y7.1 y14).bind fun y15 => bif y15 then (gQ1g).bind fun y17 => some (y17) else some (false) else some (false) else some (false)
theorem gQ0p (hb : Base E E0 G) (he : ∀ w, E w → EnvV w)   (s_ : SchemaG) (v_ : Val) : ∀ r_ : Bool, gQ0o s_ v_ = some r_ →
 Pure E E0 Tryz.prog 5 [.agg [vL flAttrG s_.attrs, vL flNestedG s_.nested], .agg (aV v_)] (c1 (vB r_)) := by
 refine fnE hb Tryz.func5 rfl fun r_ hq => ?_
 refine callE hb 10 hq (gQ21 hb he s_) fun y1 hy1 hq => ?_
 refine ifE hb 2 [11, 12] [] hq (fun hq _ => ?_) (fun hq _ => ?_)
 refine callE hb 8 hq (gQ1i hb he ) fun y3 hy3 hq => ?_
 exact retE hb 2 (injO hq).symm
 refine callE hb 1 hq (rSmall_g hb he v_ 150) fun y4 hy4 hq => ?_
 refine ifE hb 3 [15, 16] [] hq (fun hq _ => ?_) (fun hq _ => ?_)
 refine callE hb 3 hq (gQ1i hb he ) fun y6 hy6 hq => ?_
 exact retE hb 2 (injO hq).symm
 refine callE hb 6 hq (gQ42 hb he s_ v_) fun y7 hy7 hq => ?_
 refine ifE hb 15 [26] [] hq (fun hq _ => ?_) (fun hq _ => ?_)
 refine callE hb 3 hq (gQ1i hb he ) fun y9 hy9 hq => ?_
 exact retE hb 2 (injO hq).symm
 refine callE hb 6 hq (gQ42 hb he s_ y7.1) fun y10 hy10 hq => ?_
 refine cpE hb 9 [2, 5, 7, 8] (s' := ⟨none, [pick (bodyOf Tryz.f5) [1, 1, 1, 1, 1, 0], pick (bodyOf Tryz.f5) [1, 1, 1, 1, 1, 1]], [], sl 51 [(2, pt 0), (5, pt 2), (7, pt 4), (8, pt 5)], [bx [vL flAttrG s_.attrs, vL flNestedG s_.nested], bx (aV v_), bx (aV y7.1), bx [vi y7.2.kind, vi y7.2.at_, vS y7.2.name], bx (aV y10.1), bx [vi y10.2.kind, vi y10.2.at_, vS y10.2.name]]⟩) ?_
 refine drawE hb mixed 0 12 [] ?_
 refine ifE hb 4 [36, 37] [] hq (fun hq _ => ?_) (fun hq _ => ?_)
 refine callE hb 2 hq (tQ8x hb he y7.1 y10.1) fun y12 hy12 hq => ?_
 refine ifE hb 2 [40, 41, 42] [] hq (fun hq _ => ?_) (fun hq _ => ?_)
 refine callE hb 2 hq (gQ4i hb he s_) fun y14 hy14 hq => ?_
 refine callE hb 1 hq (tQ8r hb he y7.1 y14) fun y15 hy15 hq => ?_
 refine ifE hb 2 [46, 47, 48] [] hq (fun hq _ => ?_) (fun hq _ => ?_)
 refine callE hb 0 hq (gQ1i hb he ) fun y17 hy17 hq => ?_
 exact retE hb 3 (injO hq).symm
 exact retE hb 4 (injO hq).symm
 exact retE hb 11 (injO hq).symm
 exact retE hb 16 (injO hq).symm
noncomputable def gQ1r  (v_ : Val) : Option (Bool) :=
 (m_small v_ 150).bind fun y1 => bif y1 then (m_checkE v_).bind fun y3 => some (decide (y3 = 0)) else some (false)
theorem gQ1s (hb : Base E E0 G) (he : ∀ w, E w → EnvV w)   (v_ : Val) : ∀ r_ : Bool, gQ1r v_ = some r_ →
 Pure E E0 Tryz.prog 23 [.agg (aV v_)] (c1 (vB r_)) := by
 refine fnE hb Tryz.func23 rfl fun r_ hq => ?_
 refine callE hb 8 hq (rSmall_g hb he v_ 150) fun y1 hy1 hq => ?_
 refine ifE hb 1 [4, 5] [] hq (fun hq _ => ?_) (fun hq _ => ?_)
 refine callE hb 1 hq (rCheck_g hb he v_) fun y3 hy3 hq => ?_
 exact retE hb 4 (injO hq).symm
 exact retE hb 6 (injO hq).symm
noncomputable def gQ3a  (s_ : SchemaG) : Option (List ByteArray) :=
 (gQ3e s_).bind fun y1 => some (y1.names)
theorem gQ3b (hb : Base E E0 G) (he : ∀ w, E w → EnvV w)   (s_ : SchemaG) : ∀ r_ : List ByteArray, gQ3a s_ = some r_ →
 Pure E E0 Tryz.prog 73 [.agg [vL flAttrG s_.attrs, vL flNestedG s_.nested]] (c1 (vL flS r_)) := by
 refine fnE hb Tryz.func73 rfl fun r_ hq => ?_
 refine callE hb 8 hq (gQ3g hb he s_) fun y1 hy1 hq => ?_
 exact retE hb 3 (injO hq).symm
noncomputable def gQ1p (v_ : Val) (y1 : List ByteArray) (s1 : Int) : Option ((Int) ⊕ (Bool)) :=
 bif (decide (s1 < (y1.length : Int))) then (idx v_.keys s1).bind fun x5 => (idx y1 s1).bind fun x6 => bif (!decide (x5 = x6)) then some (.inr (false)) else some (.inl (IntKind.i64.wrap (s1 + 1))) else some (.inr (true))
noncomputable def gQ1o  (s_ : SchemaG) (v_ : Val) : Option (Bool) :=
 (gQ3a s_).bind fun y1 => bif (!decide (v_.kind = 5)) then some (false) else bif (!decide ((v_.keys.length : Int) = (y1.length : Int))) then some (false) else loopO (gQ1p v_ y1) 0
theorem gQ1q (hb : Base E E0 G) (he : ∀ w, E w → EnvV w)   (s_ : SchemaG) (v_ : Val) : ∀ r_ : Bool, gQ1o s_ v_ = some r_ →
 Pure E E0 Tryz.prog 24 [.agg [vL flAttrG s_.attrs, vL flNestedG s_.nested], .agg (aV v_)] (c1 (vB r_)) := by
 refine fnE hb Tryz.func24 rfl fun r_ hq => ?_
 refine callE hb 9 hq (gQ3b hb he s_) fun y1 hy1 hq => ?_
 refine ifE hb 9 [11, 12] [] hq (fun hq _ => ?_) (fun hq _ => ?_)
 exact retE hb 13 (injO hq).symm
 refine ifE hb 8 [18, 19] [] hq (fun hq _ => ?_) (fun hq _ => ?_)
 exact retE hb 5 (injO hq).symm
 refine cpE hb 8 [3, 5, 6] (s' := ⟨none, [pick (bodyOf Tryz.f24) [1, 1, 1, 0, 1, 0]], [(0, [pick (bodyOf Tryz.f24) [1, 1, 1, 1]])], sl 36 [(3, pt 1), (5, c1 (vL flS y1)), (6, c1 (vi 0))], [bx [vL flAttrG s_.attrs, vL flNestedG s_.nested], bx (aV v_)]⟩) ?_
 refine loopE hb 0 (gQ1p v_ y1) (fun s1 => sl 36 [(3, pt 1), (5, c1 (vL flS y1)), (6, c1 (vi s1))]) (fun s1 => [none, bx (aV v_)]) [3, 5, 6] [0] 2 (s0 := 0) ⟨rfl, (by kernel_rfl), trivial⟩ hq (fun s1 x1 hq hn1 he1 => ?_)
 refine ifE hb 8 [23] [] hq (fun hq _ => ?_) (fun hq _ => ?_)
 refine drawE hb mixed 5 9 [] ?_
 refine idxE hb flS 3 hq fun x5 hx5 hq => ?_
 refine idxE hb flS 3 hq fun x6 hx6 hq => ?_
 refine ifE hb 4 [35] [] hq (fun hq _ => ?_) (fun hq _ => ?_)
 exact retE hb 5 (he1 _ (injO hq))
 exact backE hb 8 [3, 5, 6] [] 2 (hn1 _ (injO hq)) ⟨rfl, (by kernel_rfl), trivial⟩
 exact retE hb 6 (he1 _ (injO hq))
noncomputable def gQ1w (a_ : List ByteArray) (b_ : List ByteArray) (s1 : Int) : Option ((Int) ⊕ (Bool)) :=
 bif (decide (s1 < (a_.length : Int))) then (idx a_ s1).bind fun x3 => (idx b_ s1).bind fun x4 => bif (!decide (x3 = x4)) then some (.inr (false)) else some (.inl (IntKind.i64.wrap (s1 + 1))) else some (.inr (true))
noncomputable def gQ1v  (a_ : List ByteArray) (b_ : List ByteArray) : Option (Bool) :=
 bif (!decide ((a_.length : Int) = (b_.length : Int))) then some (false) else loopO (gQ1w a_ b_) 0
theorem gQ1x (hb : Base E E0 G) (he : ∀ w, E w → EnvV w)   (a_ : List ByteArray) (b_ : List ByteArray) : ∀ r_ : Bool, gQ1v a_ b_ = some r_ →
 Pure E E0 Tryz.prog 27 [.cell (vL flS a_), .cell (vL flS b_)] (c1 (vB r_)) := by
 refine fnE hb Tryz.func27 rfl fun r_ hq => ?_
 refine ifE hb 13 [10] [] hq (fun hq _ => ?_) (fun hq _ => ?_)
 exact retE hb 5 (injO hq).symm
 refine loopE hb 8 (gQ1w a_ b_) (fun s1 => sl 26 [(0, c1 (vL flS a_)), (1, c1 (vL flS b_)), (5, c1 (vi s1))]) (fun s1 => []) [0, 1, 5] [] 0 (s0 := 0) trivial hq (fun s1 x1 hq hn1 he1 => ?_)
 refine ifE hb 8 [14] [] hq (fun hq _ => ?_) (fun hq _ => ?_)
 refine drawE hb mixed 5 8 [] ?_
 refine idxE hb flS 2 hq fun x3 hx3 hq => ?_
 refine idxE hb flS 3 hq fun x4 hx4 hq => ?_
 refine ifE hb 4 [25] [] hq (fun hq _ => ?_) (fun hq _ => ?_)
 exact retE hb 5 (he1 _ (injO hq))
 exact backE hb 8 [0, 1, 5] [] 0 (hn1 _ (injO hq)) trivial
 exact retE hb 6 (he1 _ (injO hq))
end Abs
end Go.Proofs.YtkffpfapfljinaaGreatDoor
