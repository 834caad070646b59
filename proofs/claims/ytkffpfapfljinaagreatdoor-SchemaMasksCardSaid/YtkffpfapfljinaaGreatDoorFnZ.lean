/-
  Schema: Go functions as functions over plain values, with the proof that the code computes them; printed by gen.py.
-/
import Derived.Test.YtkffpfapfljinaaGreatDoorFnA
import Derived.Test.YtkffpfapfljinaaGreatDoorAbsN
namespace Go.Proofs.YtkffpfapfljinaaGreatDoor
namespace Abs
open Go.RowKit
variable {E : World → Prop} {E0 : Nat} {G : Nat → Option (List PV)}
set_option maxRecDepth 100000
set_option linter.unusedVariables false
set_option linter.unusedSimpArgs false
attribute [local irreducible] adv J KE KO mPut mSto q5a mFrm qb5 hedS unl Pure Ok sl qb awpL awp asq asqD asqX asqF
noncomputable def gQ8p (r_types_Fits : Val → Ty → Option (Bool)) (t_ : List Ty) (x3 : Val) : Option (Bool) :=
 (idx t_ 0).bind fun x4 => (r_types_Fits x3 x4).bind fun y5 => some (!y5)
theorem gQ8q (hb : Base E E0 G) (he : ∀ w, E w → EnvV w) (r_types_Fits : Val → Ty → Option (Bool)) (hr_types_Fits : ∀ (a0 : Val) (a1 : Ty) (r : Bool), r_types_Fits a0 a1 = some r → Pure E E0 Tryz.prog 21 [.agg (aV a0), .agg (aT a1)] (c1 (vB r))) (t_ : List Ty) (x3 : Val) : ∀ r_ : Bool, gQ8p r_types_Fits t_ x3 = some r_ →
 Ok E E0 Tryz.prog 114 [.agg (aV x3), .cell (.ptr 0 0 0)] [bx [vL flT t_]] (c1 (vB r_)) [bx [vL flT t_]] := by
 refine fnO hb Tryz.func114 rfl fun r_ hq => ?_
 refine qe hb mixed 6 4 [] ?_
 refine idxE hb flT 2 hq fun x4 hx4 hq => ?_
 refine q6 hb 2 hq (hr_types_Fits x3 x4) fun y5 hy5 hq => ?_
 exact q4u hb 3 [3] [] 1 (injO hq).symm ⟨(by kernel_rfl), trivial⟩
noncomputable def gQ8n (r_types_Fits : Val → Ty → Option (Bool)) (l_ : List Val) (t_ : List Ty) (s1ii : Int) : Option ((Int) ⊕ (Int)) :=
 bif (decide (s1ii < (l_.length : Int))) then (idx l_ s1ii).bind fun x3 => (gQ8p r_types_Fits t_ x3).bind fun y6 => bif y6 then some (.inr (s1ii)) else some (.inl (IntKind.i64.wrap (s1ii + 1))) else some (.inr (-1))
noncomputable def gQ8m (r_types_Fits : Val → Ty → Option (Bool)) (l_ : List Val) (t_ : List Ty) : Option (Int) :=
 qb (gQ8n r_types_Fits l_ t_) 0
theorem gQ8o (hb : Base E E0 G) (he : ∀ w, E w → EnvV w) (r_types_Fits : Val → Ty → Option (Bool)) (hr_types_Fits : ∀ (a0 : Val) (a1 : Ty) (r : Bool), r_types_Fits a0 a1 = some r → Pure E E0 Tryz.prog 21 [.agg (aV a0), .agg (aT a1)] (c1 (vB r))) (l_ : List Val) (t_ : List Ty) : ∀ r_ : Int, gQ8m r_types_Fits l_ t_ = some r_ →
 Ok E E0 Tryz.prog 125 [.cell (vL flV l_), .cell (.fn 114 [(0, 0, 0)])] [bx [vL flT t_]] (c1 (vi r_)) [bx [vL flT t_]] := by
 refine fnO hb Tryz.func125 rfl fun r_ hq => ?_
 refine qj hb 12 (gQ8n r_types_Fits l_ t_) (fun s1ii => sl 19 [(0, c1 (vL flV l_)), (1, c1 (.fn 114 [(0, 0, 0)])), (7, c1 (vi (l_.length : Int))), (8, c1 (vi s1ii))]) (fun s1ii => [bx [vL flT t_]]) [0, 1, 7, 8] [] 1 (s0 := 0) ⟨(by kernel_rfl), trivial⟩ hq (fun s1ii x1 hq hn1 he1 => ?_)
 refine ifE hb 5 [9] [] hq (fun hq _ => ?_) (fun hq _ => ?_)
 refine idxE hb flV 14 hq fun x3 hx3 hq => ?_
 refine q6v hb 1 hq (gQ8q hb he r_types_Fits hr_types_Fits t_ x3) fun y6 hy6 hq => ?_
 refine ifE hb 1 [16] [] hq (fun hq _ => ?_) (fun hq _ => ?_)
 exact q4u hb 6 [4] [] 1 (he1 _ (injO hq)) ⟨(by kernel_rfl), trivial⟩
 exact q9 hb 7 [0, 1, 7, 8] [] 1 (hn1 _ (injO hq)) ⟨(by kernel_rfl), trivial⟩
 exact q4u hb 6 [4] [] 1 (he1 _ (injO hq)) ⟨(by kernel_rfl), trivial⟩
noncomputable def gQ8k (r_types_Fits : Val → Ty → Option (Bool)) (l_ : List Val) (t_ : List Ty) : Option (Bool) :=
 (gQ8m r_types_Fits l_ t_).bind fun y8 => some (decide (y8 ≥ 0))
theorem gQ8l (hb : Base E E0 G) (he : ∀ w, E w → EnvV w) (r_types_Fits : Val → Ty → Option (Bool)) (hr_types_Fits : ∀ (a0 : Val) (a1 : Ty) (r : Bool), r_types_Fits a0 a1 = some r → Pure E E0 Tryz.prog 21 [.agg (aV a0), .agg (aT a1)] (c1 (vB r))) (l_ : List Val) (t_ : List Ty) : ∀ r_ : Bool, gQ8k r_types_Fits l_ t_ = some r_ →
 Ok E E0 Tryz.prog 82 [.cell (vL flV l_), .cell (.fn 114 [(0, 0, 0)])] [bx [vL flT t_]] (c1 (vB r_)) [bx [vL flT t_]] := by
 refine fnO hb Tryz.func82 rfl fun r_ hq => ?_
 refine q6v hb 8 hq (gQ8o hb he r_types_Fits hr_types_Fits l_ t_) fun y8 hy8 hq => ?_
 exact q4u hb 3 [4] [] 1 (injO hq).symm ⟨(by kernel_rfl), trivial⟩
noncomputable def gQ8j (r_types_Fits : Val → Ty → Option (Bool)) (l_ : List Val) (t_ : List Ty) : Option (Bool) :=
 bif (decide ((t_.length : Int) > 0)) then (gQ8k r_types_Fits l_ t_).bind fun y9 => some (!y9) else some (false)
theorem gQ8r (hb : Base E E0 G) (he : ∀ w, E w → EnvV w) (r_types_Fits : Val → Ty → Option (Bool)) (hr_types_Fits : ∀ (a0 : Val) (a1 : Ty) (r : Bool), r_types_Fits a0 a1 = some r → Pure E E0 Tryz.prog 21 [.agg (aV a0), .agg (aT a1)] (c1 (vB r))) (l_ : List Val) (t_ : List Ty) : ∀ r_ : Bool, gQ8j r_types_Fits l_ t_ = some r_ →
 Pure E E0 Tryz.prog 68 [.cell (vL flV l_), .cell (vL flT t_)] (c1 (vB r_)) := by
 refine fnE hb Tryz.func68 rfl fun r_ hq => ?_
 refine ifE hb 11 [7, 8] [] hq (fun hq _ => ?_) (fun hq _ => ?_)
 refine q6v hb 2 hq (gQ8l hb he r_types_Fits hr_types_Fits l_ t_) fun y9 hy9 hq => ?_
 exact retE hb 4 (injO hq).symm
 exact retE hb 7 (injO hq).symm
noncomputable def gQ8d (r_types_Fits : Val → Ty → Option (Bool)) (v_ : Val) (t_ : Ty) (s1 : Int) : Option ((Int) ⊕ (Bool)) :=
 bif (decide (s1 < (v_.items.length : Int))) then (idx v_.items s1).bind fun x18 => (idx t_.elems s1).bind fun x19 => (r_types_Fits x18 x19).bind fun y20 => bif (!y20) then some (.inr (false)) else some (.inl (IntKind.i64.wrap (s1 + 1))) else some (.inr (true))
noncomputable def gQ8c (r_types_every : List Val → List Ty → Option (Bool)) (r_types_Fits : Val → Ty → Option (Bool)) (v_ : Val) (t_ : Ty) : Option (Bool) :=
 bif (decide (v_.kind = 0)) then some (true) else bif (decide (v_.kind = 6)) then some (true) else bif (decide (t_.kind = 0)) then some (true) else bif (decide (t_.kind = 1)) then some (decide (v_.kind = 1)) else bif (decide (t_.kind = 2)) then some (decide (v_.kind = 2)) else bif (decide (t_.kind = 3)) then some (decide (v_.kind = 3)) else bif (decide (t_.kind = 4)) then bif (decide (v_.kind = 4)) then (r_types_every v_.items t_.elems).bind fun y9 => some (y9) else some (false) else bif (decide (t_.kind = 5)) then bif (decide (v_.kind = 5)) then (r_types_every v_.items t_.elems).bind fun y12 => some (y12) else some (false) else bif (!decide (v_.kind = 5)) then some (false) else (gQ82 v_.keys t_.names).bind fun y14 => bif (!y14) then some (false) else bif (!decide ((v_.items.length : Int) = (t_.elems.length : Int))) then some (false) else qb (gQ8d r_types_Fits v_ t_) 0
theorem gQ8e (hb : Base E E0 G) (he : ∀ w, E w → EnvV w) (r_types_every : List Val → List Ty → Option (Bool)) (r_types_Fits : Val → Ty → Option (Bool)) (hr_types_every : ∀ (a0 : List Val) (a1 : List Ty) (r : Bool), r_types_every a0 a1 = some r → Pure E E0 Tryz.prog 68 [.cell (vL flV a0), .cell (vL flT a1)] (c1 (vB r))) (hr_types_Fits : ∀ (a0 : Val) (a1 : Ty) (r : Bool), r_types_Fits a0 a1 = some r → Pure E E0 Tryz.prog 21 [.agg (aV a0), .agg (aT a1)] (c1 (vB r))) (v_ : Val) (t_ : Ty) : ∀ r_ : Bool, gQ8c r_types_every r_types_Fits v_ t_ = some r_ →
 Pure E E0 Tryz.prog 21 [.agg (aV v_), .agg (aT t_)] (c1 (vB r_)) := by
 refine fnE hb Tryz.func21 rfl fun r_ hq => ?_
 refine ifE hb 13 [9, 10] [] hq (fun hq _ => ?_) (fun hq _ => ?_)
 exact retE hb 10 (injO hq).symm
 refine ifE hb 5 [13, 14] [] hq (fun hq _ => ?_) (fun hq _ => ?_)
 exact retE hb 5 (injO hq).symm
 refine ifE hb 14 [17, 18] [] hq (fun hq _ => ?_) (fun hq _ => ?_)
 exact retE hb 5 (injO hq).symm
 refine ifE hb 6 [19, 20] [] hq (fun hq _ => ?_) (fun hq _ => ?_)
 exact retE hb 8 (injO hq).symm
 refine ifE hb 6 [24, 25] [] hq (fun hq _ => ?_) (fun hq _ => ?_)
 exact retE hb 8 (injO hq).symm
 refine ifE hb 6 [29, 30] [] hq (fun hq _ => ?_) (fun hq _ => ?_)
 exact retE hb 8 (injO hq).symm
 refine ifE hb 6 [34, 35] [] hq (fun hq _ => ?_) (fun hq _ => ?_)
 refine ifE hb 7 [38, 39] [] hq (fun hq _ => ?_) (fun hq _ => ?_)
 refine q6 hb 4 hq (hr_types_every v_.items t_.elems) fun y9 hy9 hq => ?_
 exact retE hb 3 (injO hq).symm
 exact retE hb 8 (injO hq).symm
 refine ifE hb 6 [46, 47] [] hq (fun hq _ => ?_) (fun hq _ => ?_)
 refine ifE hb 7 [50, 51] [] hq (fun hq _ => ?_) (fun hq _ => ?_)
 refine q6 hb 4 hq (hr_types_every v_.items t_.elems) fun y12 hy12 hq => ?_
 exact retE hb 3 (injO hq).symm
 exact retE hb 8 (injO hq).symm
 refine ifE hb 10 [60, 61] [] hq (fun hq _ => ?_) (fun hq _ => ?_)
 exact retE hb 22 (injO hq).symm
 refine q6 hb 4 hq (gQ84 hb he v_.keys t_.names) fun y14 hy14 hq => ?_
 refine ifE hb 3 [67, 68, 69] [] hq (fun hq _ => ?_) (fun hq _ => ?_)
 exact retE hb 14 (injO hq).symm
 refine ifE hb 9 [76, 77] [] hq (fun hq _ => ?_) (fun hq _ => ?_)
 exact retE hb 5 (injO hq).symm
 refine cpE hb 11 [3, 79, 80, 81] (s' := ⟨none, [pk Tryz.f21 250], [(1, [pk Tryz.f21 63])], sl 95 [(3, pt 1), (79, c1 (vL flV v_.items)), (80, c1 (vi (v_.items.length : Int))), (81, c1 (vi 0))], [bx (aV v_), bx (aT t_)]⟩) ?_
 refine qj hb 0 (gQ8d r_types_Fits v_ t_) (fun s1 => sl 95 [(3, pt 1), (79, c1 (vL flV v_.items)), (80, c1 (vi (v_.items.length : Int))), (81, c1 (vi s1))]) (fun s1 => [none, bx (aT t_)]) [3, 79, 80, 81] [0] 2 (s0 := 0) ⟨rfl, (by kernel_rfl), trivial⟩ hq (fun s1 x1 hq hn1 he1 => ?_)
 refine ifE hb 5 [82] [] hq (fun hq _ => ?_) (fun hq _ => ?_)
 refine idxE hb flV 7 hq fun x18 hx18 hq => ?_
 refine qe hb mixed 6 6 [] ?_
 refine idxE hb flT 4 hq fun x19 hx19 hq => ?_
 refine q6 hb 2 hq (hr_types_Fits x18 x19) fun y20 hy20 hq => ?_
 refine ifE hb 2 [93] [] hq (fun hq _ => ?_) (fun hq _ => ?_)
 exact retE hb 5 (he1 _ (injO hq))
 exact q9 hb 7 [3, 79, 80, 81] [] 2 (hn1 _ (injO hq)) ⟨rfl, (by kernel_rfl), trivial⟩
 exact retE hb 6 (he1 _ (injO hq))
noncomputable def tQat (rec : Val → Ty → Option (Bool)) (a : Val) (b : Ty) : Option (Bool) :=
 gQ8c (gQ8j (fun a0 a1 => rec a0 a1)) (fun a0 a1 => rec a0 a1) a b
noncomputable def tQar (a0 : Val) (a1 : Ty) : Option (Bool) := tieF relV wfV tQat a0 a1
theorem tQas (hb : Base E E0 G) (he : ∀ w, E w → EnvV w) (a0 : Val) (a1 : Ty) (r : Bool) (hq : tQar a0 a1 = some r) : Pure E E0 Tryz.prog 21 [.agg (aV a0), .agg (aT a1)] (c1 (vB r)) :=
 q30 (C := fun a b r => Pure E E0 Tryz.prog 21 [.agg (aV a), .agg (aT b)] (c1 (vB r))) (fun rec hr a b r hq => gQ8e hb he (gQ8j (fun a0 a1 => rec a0 a1)) (fun a0 a1 => rec a0 a1) (gQ8r hb he (fun a0 a1 => rec a0 a1) (fun a0 a1 r e => hr a0 a1 r e)) (fun a0 a1 r e => hr a0 a1 r e) a b r hq) a0 a1 r hq
noncomputable def gQ9s (r_value_Refines : Val → Val → Option (Bool)) (s1_ : List Val) (s2_ : List Val) (s1i : Int) : Option ((Int) ⊕ (Bool)) :=
 bif (decide (s1i < (s1_.length : Int))) then (idx s1_ s1i).bind fun x3 => (idx s2_ s1i).bind fun x4 => (r_value_Refines x3 x4).bind fun y5 => bif (!y5) then some (.inr (false)) else some (.inl (IntKind.i64.wrap (s1i + 1))) else some (.inr (true))
noncomputable def gQ9r (r_value_Refines : Val → Val → Option (Bool)) (s1_ : List Val) (s2_ : List Val) : Option (Bool) :=
 bif (!decide ((s1_.length : Int) = (s2_.length : Int))) then some (false) else qb (gQ9s r_value_Refines s1_ s2_) 0
theorem gQ9t (hb : Base E E0 G) (he : ∀ w, E w → EnvV w) (r_value_Refines : Val → Val → Option (Bool)) (hr_value_Refines : ∀ (a0 : Val) (a1 : Val) (r : Bool), r_value_Refines a0 a1 = some r → Pure E E0 Tryz.prog 34 [.agg (aV a0), .agg (aV a1)] (c1 (vB r))) (s1_ : List Val) (s2_ : List Val) : ∀ r_ : Bool, gQ9r r_value_Refines s1_ s2_ = some r_ →
 Pure E E0 Tryz.prog 67 [.cell (vL flV s1_), .cell (vL flV s2_), .cell (.pv (.sc (.func (.func 34) #[] #[])))] (c1 (vB r_)) := by
 refine fnE hb Tryz.func67 rfl fun r_ hq => ?_
 refine ifE hb 13 [14] [] hq (fun hq _ => ?_) (fun hq _ => ?_)
 exact retE hb 5 (injO hq).symm
 refine qj hb 10 (gQ9s r_value_Refines s1_ s2_) (fun s1i => sl 32 [(1, c1 (vL flV s2_)), (2, c1 (.pv (.sc (.func (.func 34) #[] #[])))), (15, c1 (vL flV s1_)), (16, c1 (vi (s1_.length : Int))), (17, c1 (vi s1i))]) (fun s1i => []) [1, 2, 15, 16, 17] [] 0 (s0 := 0) trivial hq (fun s1i x1 hq hn1 he1 => ?_)
 refine ifE hb 5 [18] [] hq (fun hq _ => ?_) (fun hq _ => ?_)
 refine idxE hb flV 7 hq fun x3 hx3 hq => ?_
 refine idxE hb flV 9 hq fun x4 hx4 hq => ?_
 refine q6 hb 9 hq (hr_value_Refines x3 x4) fun y5 hy5 hq => ?_
 refine ifE hb 2 [30] [] hq (fun hq _ => ?_) (fun hq _ => ?_)
 exact retE hb 5 (he1 _ (injO hq))
 exact q9 hb 7 [1, 2, 15, 16, 17] [] 0 (hn1 _ (injO hq)) trivial
 exact retE hb 6 (he1 _ (injO hq))
noncomputable def gQ9p (r_value_Refines : Val → Val → Option (Bool)) (a_ : Val) (b_ : Val) : Option (Bool) :=
 bif (decide (b_.kind = 6)) then some (true) else bif (decide (a_.kind = b_.kind)) then bif (decide (a_.num = b_.num)) then bif (decide (a_.str = b_.str)) then (gQ82 a_.keys b_.keys).bind fun y5 => bif y5 then (gQ9r r_value_Refines a_.items b_.items).bind fun y7 => some (y7) else some (false) else some (false) else some (false) else some (false)
theorem gQ9q (hb : Base E E0 G) (he : ∀ w, E w → EnvV w) (r_value_Refines : Val → Val → Option (Bool)) (hr_value_Refines : ∀ (a0 : Val) (a1 : Val) (r : Bool), r_value_Refines a0 a1 = some r → Pure E E0 Tryz.prog 34 [.agg (aV a0), .agg (aV a1)] (c1 (vB r))) (a_ : Val) (b_ : Val) : ∀ r_ : Bool, gQ9p r_value_Refines a_ b_ = some r_ →
 Pure E E0 Tryz.prog 34 [.agg (aV a_), .agg (aV b_)] (c1 (vB r_)) := by
 refine fnE hb Tryz.func34 rfl fun r_ hq => ?_
 refine ifE hb 13 [7] [] hq (fun hq _ => ?_) (fun hq _ => ?_)
 exact retE hb 5 (injO hq).symm
 refine ifE hb 10 [12, 13] [] hq (fun hq _ => ?_) (fun hq _ => ?_)
 refine ifE hb 7 [18, 19, 20] [] hq (fun hq _ => ?_) (fun hq _ => ?_)
 refine ifE hb 7 [25, 26, 27] [] hq (fun hq _ => ?_) (fun hq _ => ?_)
 refine q6 hb 4 hq (gQ84 hb he a_.keys b_.keys) fun y5 hy5 hq => ?_
 refine ifE hb 2 [32, 33, 34] [] hq (fun hq _ => ?_) (fun hq _ => ?_)
 refine q6 hb 4 hq (gQ9t hb he r_value_Refines hr_value_Refines a_.items b_.items) fun y7 hy7 hq => ?_
 exact retE hb 3 (injO hq).symm
 exact retE hb 8 (injO hq).symm
 exact retE hb 15 (injO hq).symm
 exact retE hb 22 (injO hq).symm
 exact retE hb 29 (injO hq).symm
noncomputable def tQb5 (rec : Val → Val → Option (Bool)) (a : Val) (b : Val) : Option (Bool) :=
 gQ9p (fun a0 a1 => rec a0 a1) a b
noncomputable def tQb3 (a0 : Val) (a1 : Val) : Option (Bool) := tieF relV wfV tQb5 a0 a1
theorem tQb4 (hb : Base E E0 G) (he : ∀ w, E w → EnvV w) (a0 : Val) (a1 : Val) (r : Bool) (hq : tQb3 a0 a1 = some r) : Pure E E0 Tryz.prog 34 [.agg (aV a0), .agg (aV a1)] (c1 (vB r)) :=
 q30 (C := fun a b r => Pure E E0 Tryz.prog 34 [.agg (aV a), .agg (aV b)] (c1 (vB r))) (fun rec hr a b r hq => gQ9q hb he (fun a0 a1 => rec a0 a1) (fun a0 a1 r e => hr a0 a1 r e) a b r hq) a0 a1 r hq
noncomputable def gQ5c  (s_ : SchemaG) (planned_ : Val) (final_ : Val) : Option (Bool) :=
 (q28 final_).bind fun y1 => bif (decide (y1 = 0)) then (tQb0 final_).bind fun y3 => bif y3 then (gQ69 s_).bind fun y5 => (tQar final_ y5).bind fun y6 => bif y6 then (tQb3 final_ planned_).bind fun y8 => some (y8) else some (false) else some (false) else some (false)
theorem gQ5d (hb : Base E E0 G) (he : ∀ w, E w → EnvV w)   (s_ : SchemaG) (planned_ : Val) (final_ : Val) : ∀ r_ : Bool, gQ5c s_ planned_ final_ = some r_ →
 Pure E E0 Tryz.prog 35 [.agg [vL q7 s_.attrs, vL qd s_.nested], .agg (aV planned_), .agg (aV final_)] (c1 (vB r_)) := by
 refine fnE hb Tryz.func35 rfl fun r_ hq => ?_
 refine qe hb mixed 8 16 [] ?_
 refine q6 hb 1 hq (q8u hb he final_) fun y1 hy1 hq => ?_
 refine ifE hb 2 [9, 10] [] hq (fun hq _ => ?_) (fun hq _ => ?_)
 refine q6 hb 1 hq (tQb1 hb he final_) fun y3 hy3 hq => ?_
 refine ifE hb 2 [12, 13, 14] [] hq (fun hq _ => ?_) (fun hq _ => ?_)
 refine q6 hb 2 hq (gQ6e hb he s_) fun y5 hy5 hq => ?_
 refine q6 hb 0 hq (tQas hb he final_ y5) fun y6 hy6 hq => ?_
 refine ifE hb 2 [18, 19, 20] [] hq (fun hq _ => ?_) (fun hq _ => ?_)
 refine q6 hb 3 hq (tQb4 hb he final_ planned_) fun y8 hy8 hq => ?_
 exact retE hb 3 (injO hq).symm
 exact retE hb 7 (injO hq).symm
 exact retE hb 13 (injO hq).symm
 exact retE hb 17 (injO hq).symm
noncomputable def gQ1r   : Option (Ty) :=
 some (Ty.mk 3 [] [])
theorem gQ1s (hb : Base E E0 G) (he : ∀ w, E w → EnvV w)    : ∀ r_ : Ty, gQ1r = some r_ →
 Pure E E0 Tryz.prog 101 [] (.one (.agg (aT r_))) := by
 refine fnE hb Tryz.func101 rfl fun r_ hq => ?_
 exact retE hb 9 (injO hq).symm
noncomputable def gQ1h   : Option (SchemaG) :=
 (gQ1r).bind fun y1 => (gQ1r).bind fun y2 => some (SchemaG.mk [(AttrG.mk (⟨#[105, 100]⟩ : ByteArray) y1 3 false false false), (AttrG.mk (⟨#[110]⟩ : ByteArray) (Ty.mk 2 [] []) 2 false false false), (AttrG.mk (⟨#[110, 97, 109, 101]⟩ : ByteArray) y2 1 true false false)] [])
theorem gQ1i (hb : Base E E0 G) (he : ∀ w, E w → EnvV w)    : ∀ r_ : SchemaG, gQ1h = some r_ →
 Pure E E0 Tryz.prog 52 [] (.one (.agg [vL q7 r_.attrs, vL qd r_.nested])) := by
 refine fnE hb Tryz.func52 rfl fun r_ hq => ?_
 refine q6 hb 6 hq (gQ1s hb he ) fun y1 hy1 hq => ?_
 refine q6 hb 3 hq (gQ1s hb he ) fun y2 hy2 hq => ?_
 refine qn hb 5 0 0 (cs := [.pv (.sl true 3 [pS (⟨#[105, 100]⟩ : ByteArray), pI .i64 y1.kind, pL flT y1.elems, pL flS y1.names, pI .i64 3, pB false, pB false, pB false, pS (⟨#[110]⟩ : ByteArray), pI .i64 2, pL flT [], pL flS [], pI .i64 2, pB false, pB false, pB false, pS (⟨#[110, 97, 109, 101]⟩ : ByteArray), pI .i64 y2.kind, pL flT y2.elems, pL flS y2.names, pI .i64 1, pB true, pB false, pB false]), vN]) (c := .pv (.sl true 3 [pS (⟨#[105, 100]⟩ : ByteArray), pI .i64 y1.kind, pL flT y1.elems, pL flS y1.names, pI .i64 3, pB false, pB false, pB false, pS (⟨#[110]⟩ : ByteArray), pI .i64 2, pL flT [], pL flS [], pI .i64 2, pB false, pB false, pB false, pS (⟨#[110, 97, 109, 101]⟩ : ByteArray), pI .i64 y2.kind, pL flT y2.elems, pL flS y2.names, pI .i64 1, pB true, pB false, pB false])) (qcv q7 (q7.three (AttrG.mk (⟨#[105, 100]⟩ : ByteArray) y1 3 false false false) (AttrG.mk (⟨#[110]⟩ : ByteArray) (Ty.mk 2 [] []) 2 false false false) (AttrG.mk (⟨#[110, 97, 109, 101]⟩ : ByteArray) y2 1 true false false)).symm) (by kernel_rfl) ?_
 exact retE hb 0 (injO hq).symm
noncomputable def gQ20  (s_ : ByteArray) : Option (Val) :=
 some (Val.mk 3 0 s_ [] [])
theorem gQ21 (hb : Base E E0 G) (he : ∀ w, E w → EnvV w)   (s_ : ByteArray) : ∀ r_ : Val, gQ20 s_ = some r_ →
 Pure E E0 Tryz.prog 53 [.cell (vS s_)] (.one (.agg (aV r_))) := by
 refine fnE hb Tryz.func53 rfl fun r_ hq => ?_
 exact retE hb 10 (injO hq).symm
noncomputable def gQ1w  (id_ : Val) (n_ : Val) (name_ : Val) : Option (Val) :=
 some (Val.mk 5 0 eS [id_, n_, name_] [(⟨#[105, 100]⟩ : ByteArray), (⟨#[110]⟩ : ByteArray), (⟨#[110, 97, 109, 101]⟩ : ByteArray)])
theorem gQ1x (hb : Base E E0 G) (he : ∀ w, E w → EnvV w)   (id_ : Val) (n_ : Val) (name_ : Val) : ∀ r_ : Val, gQ1w id_ n_ name_ = some r_ →
 Pure E E0 Tryz.prog 54 [.agg (aV id_), .agg (aV n_), .agg (aV name_)] (.one (.agg (aV r_))) := by
 refine fnE hb Tryz.func54 rfl fun r_ hq => ?_
 refine qn hb 17 3 3 (cs := [vi 5, vi 0, vS eS, .pv (.sl true 3 [pI .i64 id_.kind, pI .i64 id_.num, pS id_.str, pL flV id_.items, pL flS id_.keys, pI .i64 n_.kind, pI .i64 n_.num, pS n_.str, pL flV n_.items, pL flS n_.keys, pI .i64 name_.kind, pI .i64 name_.num, pS name_.str, pL flV name_.items, pL flS name_.keys]), .pv (.sl true 3 [pS (⟨#[105, 100]⟩ : ByteArray), pS (⟨#[110]⟩ : ByteArray), pS (⟨#[110, 97, 109, 101]⟩ : ByteArray)])]) (c := .pv (.sl true 3 [pI .i64 id_.kind, pI .i64 id_.num, pS id_.str, pL flV id_.items, pL flS id_.keys, pI .i64 n_.kind, pI .i64 n_.num, pS n_.str, pL flV n_.items, pL flS n_.keys, pI .i64 name_.kind, pI .i64 name_.num, pS name_.str, pL flV name_.items, pL flS name_.keys])) (qcv flV (flV.three id_ n_ name_).symm) (by kernel_rfl) ?_
 refine qn hb 0 3 4 (cs := [vi 5, vi 0, vS eS, vL flV [id_, n_, name_], .pv (.sl true 3 [pS (⟨#[105, 100]⟩ : ByteArray), pS (⟨#[110]⟩ : ByteArray), pS (⟨#[110, 97, 109, 101]⟩ : ByteArray)])]) (c := .pv (.sl true 3 [pS (⟨#[105, 100]⟩ : ByteArray), pS (⟨#[110]⟩ : ByteArray), pS (⟨#[110, 97, 109, 101]⟩ : ByteArray)])) (qcv flS (flS.three (⟨#[105, 100]⟩ : ByteArray) (⟨#[110]⟩ : ByteArray) (⟨#[110, 97, 109, 101]⟩ : ByteArray)).symm) (by kernel_rfl) ?_
 exact retE hb 0 (injO hq).symm
noncomputable def gQ1f  (z1 : Bool) : Option (Bool) :=
 some (z1)
noncomputable def gQ1e   : Option (Bool) :=
 (gQ1h).bind fun y1 => (gQ20 (⟨#[53]⟩ : ByteArray)).bind fun y2 => (gQ20 (⟨#[120]⟩ : ByteArray)).bind fun y3 => (gQ5k y1 (Val.mk 5 0 eS [y2, y3] [(⟨#[110]⟩ : ByteArray), (⟨#[110, 97, 109, 101]⟩ : ByteArray)])).bind fun y4 => (gQ5k y1 (Val.mk 5 0 eS [] [])).bind fun y5 => (gQ62 y1 (Val.mk 0 0 eS [] []) y4.1).bind fun y6 => (gQ20 (⟨#[49]⟩ : ByteArray)).bind fun y7 => (gQ20 (⟨#[120]⟩ : ByteArray)).bind fun y8 => (gQ1w y7 (Val.mk 2 5 eS [] []) y8).bind fun y9 => (gQ20 (⟨#[49]⟩ : ByteArray)).bind fun y10 => (gQ20 (⟨#[121]⟩ : ByteArray)).bind fun y11 => (gQ1w y10 (Val.mk 2 5 eS [] []) y11).bind fun y12 => (gQ66 y1 y9 y12).bind fun y13 => (gQ5h y1).bind fun y14 => bif (decide (y14 = 0)) then (gQ5h (SchemaG.mk [] [])).bind fun y16 => bif (decide (y16 = 12)) then bif (decide ((y4.2.kind : Int) = 0) && (decide ((y4.2.at_ : Int) = 0) && (decide (y4.2.name = eS) && true))) then (gQ20 (⟨#[120]⟩ : ByteArray)).bind fun y19 => (gQ1w (Val.mk 0 0 eS [] []) (Val.mk 2 5 eS [] []) y19).bind fun y20 => (tQa6 y4.1 y20).bind fun y21 => bif y21 then bif (decide ((y5.2.kind : Int) = 12) && (decide ((y5.2.at_ : Int) = 0) && (decide (y5.2.name = (⟨#[110, 97, 109, 101]⟩ : ByteArray)) && true))) then (gQ20 (⟨#[120]⟩ : ByteArray)).bind fun y24 => (gQ1w (Val.mk 6 0 eS [] []) (Val.mk 2 5 eS [] []) y24).bind fun y25 => (tQa6 y6 y25).bind fun y26 => bif y26 then bif (decide ((y13.length : Int) = 1)) then (idx y13 0).bind fun x29 => bif (decide (x29 = (⟨#[110, 97, 109, 101]⟩ : ByteArray))) then (gQ20 (⟨#[49]⟩ : ByteArray)).bind fun y31 => (gQ20 (⟨#[120]⟩ : ByteArray)).bind fun y32 => (gQ1w y31 (Val.mk 2 5 eS [] []) y32).bind fun y33 => (gQ5c y1 y6 y33).bind fun y34 => gQ1f y34 else gQ1f false else gQ1f false else gQ1f false else gQ1f false else gQ1f false else gQ1f false else gQ1f false else gQ1f false
theorem gQ1g (hb : Base E E0 G) (he : ∀ w, E w → EnvV w)    : ∀ r_ : Bool, gQ1e = some r_ →
 Pure E E0 Tryz.prog 14 [] (c1 (vB r_)) := by
 refine fnE hb Tryz.func14 rfl fun r_ hq => ?_
 refine q6 hb 6 hq (gQ1i hb he ) fun y1 hy1 hq => ?_
 refine qe hb mixed 4 12 [9] ?_
 refine q6 hb 2 hq (gQ21 hb he (⟨#[53]⟩ : ByteArray)) fun y2 hy2 hq => ?_
 refine q6 hb 0 hq (gQ21 hb he (⟨#[120]⟩ : ByteArray)) fun y3 hy3 hq => ?_
 have hp := (gQ5n hb he y1 (Val.mk 5 0 eS [y2, y3] [(⟨#[110]⟩ : ByteArray), (⟨#[110, 97, 109, 101]⟩ : ByteArray)]))
 simp only [aV, aT, kind_mk, qk6, qlr, qj0, qj5, Ty.kind_mk, Ty.elems_mk, Ty.names_mk, vL_one, vL_two, qvi, qvh, qvg, vL_six] at hp
 refine q6 hb 2 hq hp fun y4 hy4 hq => ?_
 refine q6 hb 13 hq (gQ5n hb he y1 (Val.mk 5 0 eS [] [])) fun y5 hy5 hq => ?_
 refine q6 hb 19 hq (gQ65 hb he y1 (Val.mk 0 0 eS [] []) y4.1) fun y6 hy6 hq => ?_
 refine qe hb mixed 4 9 [] ?_
 refine q6 hb 1 hq (gQ21 hb he (⟨#[49]⟩ : ByteArray)) fun y7 hy7 hq => ?_
 refine q6 hb 1 hq (gQ21 hb he (⟨#[120]⟩ : ByteArray)) fun y8 hy8 hq => ?_
 refine q6 hb 0 hq (gQ1x hb he y7 (Val.mk 2 5 eS [] []) y8) fun y9 hy9 hq => ?_
 refine q6 hb 0 hq (gQ21 hb he (⟨#[49]⟩ : ByteArray)) fun y10 hy10 hq => ?_
 refine q6 hb 1 hq (gQ21 hb he (⟨#[121]⟩ : ByteArray)) fun y11 hy11 hq => ?_
 refine q6 hb 0 hq (gQ1x hb he y10 (Val.mk 2 5 eS [] []) y11) fun y12 hy12 hq => ?_
 refine q6 hb 1 hq (gQ68 hb he y1 y9 y12) fun y13 hy13 hq => ?_
 refine q58 hb gQ1f (fun z1 => ⟨none, [pk Tryz.f14 511], [], sl 95 [(0, c1 (vB z1))], [bx [vL q7 y1.attrs, vL qd y1.nested], bx (aV y4.1), bx [vi y4.2.kind, vi y4.2.at_, vS y4.2.name], bx (aV y5.1), bx [vi y5.2.kind, vi y5.2.at_, vS y5.2.name], bx [vi 2, vi 5, vS eS, vN, vN], bx (aV y6)]⟩) (x := r_) (fun z1 hq => ?_) (fun KJ1 => ?_)
 exact retE hb 0 (injO hq).symm
 refine qe hb mixed 3 52 [] ?_
 refine q6 hb 1 hq (gQ5j hb he y1) fun y14 hy14 hq => ?_
 refine ifE hb 2 [43, 44] [] hq (fun hq _ => ?_) (fun hq _ => ?_)
 refine q6 hb 1 hq (gQ5j hb he (SchemaG.mk [] [])) fun y16 hy16 hq => ?_
 refine ifE hb 3 [47, 48, 49] [] hq (fun hq _ => ?_) (fun hq _ => ?_)
 refine ifE hb 5 [52, 53, 54] [] hq (fun hq _ => ?_) (fun hq _ => ?_)
 refine q6 hb 3 hq (gQ21 hb he (⟨#[120]⟩ : ByteArray)) fun y19 hy19 hq => ?_
 refine q6 hb 0 hq (gQ1x hb he (Val.mk 0 0 eS [] []) (Val.mk 2 5 eS [] []) y19) fun y20 hy20 hq => ?_
 refine q6 hb 0 hq (tQa7 hb he y4.1 y20) fun y21 hy21 hq => ?_
 refine ifE hb 2 [60, 61, 62] [] hq (fun hq _ => ?_) (fun hq _ => ?_)
 refine ifE hb 5 [65, 66, 67] [] hq (fun hq _ => ?_) (fun hq _ => ?_)
 refine q6 hb 3 hq (gQ21 hb he (⟨#[120]⟩ : ByteArray)) fun y24 hy24 hq => ?_
 refine q6 hb 0 hq (gQ1x hb he (Val.mk 6 0 eS [] []) (Val.mk 2 5 eS [] []) y24) fun y25 hy25 hq => ?_
 refine q6 hb 0 hq (tQa7 hb he y6 y25) fun y26 hy26 hq => ?_
 refine ifE hb 2 [73, 74, 75] [] hq (fun hq _ => ?_) (fun hq _ => ?_)
 refine ifE hb 5 [78, 79, 80] [] hq (fun hq _ => ?_) (fun hq _ => ?_)
 refine idxE hb flS 1 hq fun x29 hx29 hq => ?_
 refine ifE hb 4 [84, 85, 86] [] hq (fun hq _ => ?_) (fun hq _ => ?_)
 refine q6 hb 2 hq (gQ21 hb he (⟨#[49]⟩ : ByteArray)) fun y31 hy31 hq => ?_
 refine q6 hb 1 hq (gQ21 hb he (⟨#[120]⟩ : ByteArray)) fun y32 hy32 hq => ?_
 refine q6 hb 0 hq (gQ1x hb he y31 (Val.mk 2 5 eS [] []) y32) fun y33 hy33 hq => ?_
 refine q6 hb 1 hq (gQ5d hb he y1 y6 y33) fun y34 hy34 hq => ?_
 exact cpE hb 3 [0] (KJ1 y34 hq)
 exact cpE hb 11 [0] (KJ1 false hq)
 exact cpE hb 17 [0] (KJ1 false hq)
 exact cpE hb 22 [0] (KJ1 false hq)
 exact cpE hb 30 [0] (KJ1 false hq)
 exact cpE hb 35 [0] (KJ1 false hq)
 exact cpE hb 43 [0] (KJ1 false hq)
 exact cpE hb 48 [0] (KJ1 false hq)
 exact cpE hb 53 [0] (KJ1 false hq)
noncomputable def gQ1y  (s_ : SchemaG) : Option (Bool) :=
 (gQ1j s_).bind fun y1 => bif y1 then (gQ3o s_).bind fun y3 => some (decide (y3 = 0)) else some (false)
theorem gQ1z (hb : Base E E0 G) (he : ∀ w, E w → EnvV w)   (s_ : SchemaG) : ∀ r_ : Bool, gQ1y s_ = some r_ →
 Pure E E0 Tryz.prog 15 [.agg [vL q7 s_.attrs, vL qd s_.nested]] (c1 (vB r_)) := by
 refine fnE hb Tryz.func15 rfl fun r_ hq => ?_
 refine q6 hb 8 hq (gQ1l hb he s_) fun y1 hy1 hq => ?_
 refine ifE hb 1 [4, 5] [] hq (fun hq _ => ?_) (fun hq _ => ?_)
 refine q6 hb 1 hq (gQ3q hb he s_) fun y3 hy3 hq => ?_
 exact retE hb 4 (injO hq).symm
 exact retE hb 6 (injO hq).symm
noncomputable def gQ43 (s_ : SchemaG) (name_ : ByteArray) (s1 : Int) : Option ((Int) ⊕ (NestedG × Bool)) :=
 bif (decide (s1 < (s_.nested.length : Int))) then (idx s_.nested s1).bind fun x2 => bif (decide (x2.name = name_)) then (idx s_.nested s1).bind fun x4 => some (.inr (x4, true)) else some (.inl (IntKind.i64.wrap (s1 + 1))) else some (.inr ((NestedG.mk eS 0 0 [] false), false))
noncomputable def gQ42  (s_ : SchemaG) (name_ : ByteArray) : Option (NestedG × Bool) :=
 qb (gQ43 s_ name_) 0
theorem gQ44 (hb : Base E E0 G) (he : ∀ w, E w → EnvV w)   (s_ : SchemaG) (name_ : ByteArray) : ∀ r_ : NestedG × Bool, gQ42 s_ name_ = some r_ →
 Pure E E0 Tryz.prog 64 [.agg [vL q7 s_.attrs, vL qd s_.nested], .cell (vS name_)] (.tup [.agg [vS r_.1.name, vi r_.1.min, vi r_.1.max, vL q7 r_.1.attrs, vB r_.1.replace], .cell (vB r_.2)]) := by
 refine fnE hb Tryz.func64 rfl fun r_ hq => ?_
 refine qj hb 12 (gQ43 s_ name_) (fun s1 => sl 28 [(1, c1 (vS name_)), (2, pt 0), (4, pt 1), (6, c1 (vi s1))]) (fun s1 => [bx [vL q7 s_.attrs, vL qd s_.nested], bx [vS eS, vi 0, vi 0, vN, vB false]]) [1, 2, 4, 6] [] 2 (s0 := 0) ⟨(by kernel_rfl), (by kernel_rfl), trivial⟩ hq (fun s1 x1 hq hn1 he1 => ?_)
 refine ifE hb 9 [11] [] hq (fun hq _ => ?_) (fun hq _ => ?_)
 refine idxE hb qd 9 hq fun x2 hx2 hq => ?_
 refine ifE hb 5 [21] [] hq (fun hq _ => ?_) (fun hq _ => ?_)
 refine idxE hb qd 6 hq fun x4 hx4 hq => ?_
 exact retE hb 4 (he1 _ (injO hq))
 exact q9 hb 8 [1, 2, 4, 6] [] 2 (hn1 _ (injO hq)) ⟨(by kernel_rfl), (by kernel_rfl), trivial⟩
 exact retE hb 8 (he1 _ (injO hq))
noncomputable def gQ1p  (v_ : Val) : Option (Bool) :=
 (q79 v_ 150).bind fun y1 => bif y1 then (q28 v_).bind fun y3 => some (decide (y3 = 0)) else some (false)
theorem gQ1q (hb : Base E E0 G) (he : ∀ w, E w → EnvV w)   (v_ : Val) : ∀ r_ : Bool, gQ1p v_ = some r_ →
 Pure E E0 Tryz.prog 23 [.agg (aV v_)] (c1 (vB r_)) := by
 refine fnE hb Tryz.func23 rfl fun r_ hq => ?_
 refine q6 hb 8 hq (qf1 hb he v_ 150) fun y1 hy1 hq => ?_
 refine ifE hb 1 [4, 5] [] hq (fun hq _ => ?_) (fun hq _ => ?_)
 refine q6 hb 1 hq (qbg hb he v_) fun y3 hy3 hq => ?_
 exact retE hb 4 (injO hq).symm
 exact retE hb 6 (injO hq).symm
end Abs
end Go.Proofs.YtkffpfapfljinaaGreatDoor
