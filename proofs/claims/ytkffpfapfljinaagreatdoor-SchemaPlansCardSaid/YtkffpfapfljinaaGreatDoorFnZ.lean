/-
  Schema: Go functions as functions over plain values, with the proof that the code computes them; printed by gen.py.
-/
import Derived.Test.YtkffpfapfljinaaGreatDoorFnA
import Derived.Test.YtkffpfapfljinaaGreatDoorAbsN
namespace Go.Proofs.YtkffpfapfljinaaGreatDoor
namespace Abs
open Go.RowKit
variable {E : World → Prop} {E0 : Nat} {G : Nat → Option (List PV)}
set_option maxRecDepth 100000
set_option linter.unusedVariables false
set_option linter.unusedSimpArgs false
attribute [local irreducible] adv J KE KO mPut mSto q5a mFrm qb5 hedS unl Pure Ok sl qb awpL awp asq asqD asqX asqF
noncomputable def gQ8p (r_types_Fits : Val → Ty → Option (Bool)) (t_ : List Ty) (x3 : Val) : Option (Bool) :=
 (idx t_ 0).bind fun x4 => (r_types_Fits x3 x4).bind fun y5 => some (!y5)
theorem gQ8q (hb : Base E E0 G) (he : ∀ w, E w → EnvV w) (r_types_Fits : Val → Ty → Option (Bool)) (hr_types_Fits : ∀ (a0 : Val) (a1 : Ty) (r : Bool), r_types_Fits a0 a1 = some r → Pure E E0 Tryz.prog 21 [.agg (aV a0), .agg (aT a1)] (c1 (vB r))) (t_ : List Ty) (x3 : Val) : ∀ r_ : Bool, gQ8p r_types_Fits t_ x3 = some r_ →
 Ok E E0 Tryz.prog 114 [.agg (aV x3), .cell (.ptr 0 0 0)] [bx [vL flT t_]] (c1 (vB r_)) [bx [vL flT t_]] := by
 refine fnO hb Tryz.func114 rfl fun r_ hq => ?_
 refine qe hb mixed 6 4 [] ?_
 refine idxE hb flT 2 hq fun x4 hx4 hq => ?_
 refine q6 hb 2 hq (hr_types_Fits x3 x4) fun y5 hy5 hq => ?_
 exact q4u hb 3 [3] [] 1 (injO hq).symm ⟨(by kernel_rfl), trivial⟩
noncomputable def gQ8n (r_types_Fits : Val → Ty → Option (Bool)) (l_ : List Val) (t_ : List Ty) (s1ii : Int) : Option ((Int) ⊕ (Int)) :=
 bif (decide (s1ii < (l_.length : Int))) then (idx l_ s1ii).bind fun x3 => (gQ8p r_types_Fits t_ x3).bind fun y6 => bif y6 then some (.inr (s1ii)) else some (.inl (IntKind.i64.wrap (s1ii + 1))) else some (.inr (-1))
noncomputable def gQ8m (r_types_Fits : Val → Ty → Option (Bool)) (l_ : List Val) (t_ : List Ty) : Option (Int) :=
 qb (gQ8n r_types_Fits l_ t_) 0
theorem gQ8o (hb : Base E E0 G) (he : ∀ w, E w → EnvV w) (r_types_Fits : Val → Ty → Option (Bool)) (hr_types_Fits : ∀ (a0 : Val) (a1 : Ty) (r : Bool), r_types_Fits a0 a1 = some r → Pure E E0 Tryz.prog 21 [.agg (aV a0), .agg (aT a1)] (c1 (vB r))) (l_ : List Val) (t_ : List Ty) : ∀ r_ : Int, gQ8m r_types_Fits l_ t_ = some r_ →
 Ok E E0 Tryz.prog 125 [.cell (vL flV l_), .cell (.fn 114 [(0, 0, 0)])] [bx [vL flT t_]] (c1 (vi r_)) [bx [vL flT t_]] := by
 refine fnO hb Tryz.func125 rfl fun r_ hq => ?_
 refine qj hb 12 (gQ8n r_types_Fits l_ t_) (fun s1ii => sl 19 [(0, c1 (vL flV l_)), (1, c1 (.fn 114 [(0, 0, 0)])), (7, c1 (vi (l_.length : Int))), (8, c1 (vi s1ii))]) (fun s1ii => [bx [vL flT t_]]) [0, 1, 7, 8] [] 1 (s0 := 0) ⟨(by kernel_rfl), trivial⟩ hq (fun s1ii x1 hq hn1 he1 => ?_)
 refine ifE hb 5 [9] [] hq (fun hq _ => ?_) (fun hq _ => ?_)
 refine idxE hb flV 14 hq fun x3 hx3 hq => ?_
 refine q6v hb 1 hq (gQ8q hb he r_types_Fits hr_types_Fits t_ x3) fun y6 hy6 hq => ?_
 refine ifE hb 1 [16] [] hq (fun hq _ => ?_) (fun hq _ => ?_)
 exact q4u hb 6 [4] [] 1 (he1 _ (injO hq)) ⟨(by kernel_rfl), trivial⟩
 exact q9 hb 7 [0, 1, 7, 8] [] 1 (hn1 _ (injO hq)) ⟨(by kernel_rfl), trivial⟩
 exact q4u hb 6 [4] [] 1 (he1 _ (injO hq)) ⟨(by kernel_rfl), trivial⟩
noncomputable def gQ8k (r_types_Fits : Val → Ty → Option (Bool)) (l_ : List Val) (t_ : List Ty) : Option (Bool) :=
 (gQ8m r_types_Fits l_ t_).bind fun y8 => some (decide (y8 ≥ 0))
theorem gQ8l (hb : Base E E0 G) (he : ∀ w, E w → EnvV w) (r_types_Fits : Val → Ty → Option (Bool)) (hr_types_Fits : ∀ (a0 : Val) (a1 : Ty) (r : Bool), r_types_Fits a0 a1 = some r → Pure E E0 Tryz.prog 21 [.agg (aV a0), .agg (aT a1)] (c1 (vB r))) (l_ : List Val) (t_ : List Ty) : ∀ r_ : Bool, gQ8k r_types_Fits l_ t_ = some r_ →
 Ok E E0 Tryz.prog 82 [.cell (vL flV l_), .cell (.fn 114 [(0, 0, 0)])] [bx [vL flT t_]] (c1 (vB r_)) [bx [vL flT t_]] := by
 refine fnO hb Tryz.func82 rfl fun r_ hq => ?_
 refine q6v hb 8 hq (gQ8o hb he r_types_Fits hr_types_Fits l_ t_) fun y8 hy8 hq => ?_
 exact q4u hb 3 [4] [] 1 (injO hq).symm ⟨(by kernel_rfl), trivial⟩
noncomputable def gQ8j (r_types_Fits : Val → Ty → Option (Bool)) (l_ : List Val) (t_ : List Ty) : Option (Bool) :=
 bif (decide ((t_.length : Int) > 0)) then (gQ8k r_types_Fits l_ t_).bind fun y9 => some (!y9) else some (false)
theorem gQ8r (hb : Base E E0 G) (he : ∀ w, E w → EnvV w) (r_types_Fits : Val → Ty → Option (Bool)) (hr_types_Fits : ∀ (a0 : Val) (a1 : Ty) (r : Bool), r_types_Fits a0 a1 = some r → Pure E E0 Tryz.prog 21 [.agg (aV a0), .agg (aT a1)] (c1 (vB r))) (l_ : List Val) (t_ : List Ty) : ∀ r_ : Bool, gQ8j r_types_Fits l_ t_ = some r_ →
 Pure E E0 Tryz.prog 68 [.cell (vL flV l_), .cell (vL flT t_)] (c1 (vB r_)) := by
 refine fnE hb Tryz.func68 rfl fun r_ hq => ?_
 refine ifE hb 11 [7, 8] [] hq (fun hq _ => ?_) (fun hq _ => ?_)
 refine q6v hb 2 hq (gQ8l hb he r_types_Fits hr_types_Fits l_ t_) fun y9 hy9 hq => ?_
 exact retE hb 4 (injO hq).symm
 exact retE hb 7 (injO hq).symm
noncomputable def gQ8d (r_types_Fits : Val → Ty → Option (Bool)) (v_ : Val) (t_ : Ty) (s1 : Int) : Option ((Int) ⊕ (Bool)) :=
 bif (decide (s1 < (v_.items.length : Int))) then (idx v_.items s1).bind fun x18 => (idx t_.elems s1).bind fun x19 => (r_types_Fits x18 x19).bind fun y20 => bif (!y20) then some (.inr (false)) else some (.inl (IntKind.i64.wrap (s1 + 1))) else some (.inr (true))
noncomputable def gQ8c (r_types_every : List Val → List Ty → Option (Bool)) (r_types_Fits : Val → Ty → Option (Bool)) (v_ : Val) (t_ : Ty) : Option (Bool) :=
 bif (decide (v_.kind = 0)) then some (true) else bif (decide (v_.kind = 6)) then some (true) else bif (decide (t_.kind = 0)) then some (true) else bif (decide (t_.kind = 1)) then some (decide (v_.kind = 1)) else bif (decide (t_.kind = 2)) then some (decide (v_.kind = 2)) else bif (decide (t_.kind = 3)) then some (decide (v_.kind = 3)) else bif (decide (t_.kind = 4)) then bif (decide (v_.kind = 4)) then (r_types_every v_.items t_.elems).bind fun y9 => some (y9) else some (false) else bif (decide (t_.kind = 5)) then bif (decide (v_.kind = 5)) then (r_types_every v_.items t_.elems).bind fun y12 => some (y12) else some (false) else bif (!decide (v_.kind = 5)) then some (false) else (gQ82 v_.keys t_.names).bind fun y14 => bif (!y14) then some (false) else bif (!decide ((v_.items.length : Int) = (t_.elems.length : Int))) then some (false) else qb (gQ8d r_types_Fits v_ t_) 0
theorem gQ8e (hb : Base E E0 G) (he : ∀ w, E w → EnvV w) (r_types_every : List Val → List Ty → Option (Bool)) (r_types_Fits : Val → Ty → Option (Bool)) (hr_types_every : ∀ (a0 : List Val) (a1 : List Ty) (r : Bool), r_types_every a0 a1 = some r → Pure E E0 Tryz.prog 68 [.cell (vL flV a0), .cell (vL flT a1)] (c1 (vB r))) (hr_types_Fits : ∀ (a0 : Val) (a1 : Ty) (r : Bool), r_types_Fits a0 a1 = some r → Pure E E0 Tryz.prog 21 [.agg (aV a0), .agg (aT a1)] (c1 (vB r))) (v_ : Val) (t_ : Ty) : ∀ r_ : Bool, gQ8c r_types_every r_types_Fits v_ t_ = some r_ →
 Pure E E0 Tryz.prog 21 [.agg (aV v_), .agg (aT t_)] (c1 (vB r_)) := by
 refine fnE hb Tryz.func21 rfl fun r_ hq => ?_
 refine ifE hb 13 [9, 10] [] hq (fun hq _ => ?_) (fun hq _ => ?_)
 exact retE hb 10 (injO hq).symm
 refine ifE hb 5 [13, 14] [] hq (fun hq _ => ?_) (fun hq _ => ?_)
 exact retE hb 5 (injO hq).symm
 refine ifE hb 14 [17, 18] [] hq (fun hq _ => ?_) (fun hq _ => ?_)
 exact retE hb 5 (injO hq).symm
 refine ifE hb 6 [19, 20] [] hq (fun hq _ => ?_) (fun hq _ => ?_)
 exact retE hb 8 (injO hq).symm
 refine ifE hb 6 [24, 25] [] hq (fun hq _ => ?_) (fun hq _ => ?_)
 exact retE hb 8 (injO hq).symm
 refine ifE hb 6 [29, 30] [] hq (fun hq _ => ?_) (fun hq _ => ?_)
 exact retE hb 8 (injO hq).symm
 refine ifE hb 6 [34, 35] [] hq (fun hq _ => ?_) (fun hq _ => ?_)
 refine ifE hb 7 [38, 39] [] hq (fun hq _ => ?_) (fun hq _ => ?_)
 refine q6 hb 4 hq (hr_types_every v_.items t_.elems) fun y9 hy9 hq => ?_
 exact retE hb 3 (injO hq).symm
 exact retE hb 8 (injO hq).symm
 refine ifE hb 6 [46, 47] [] hq (fun hq _ => ?_) (fun hq _ => ?_)
 refine ifE hb 7 [50, 51] [] hq (fun hq _ => ?_) (fun hq _ => ?_)
 refine q6 hb 4 hq (hr_types_every v_.items t_.elems) fun y12 hy12 hq => ?_
 exact retE hb 3 (injO hq).symm
 exact retE hb 8 (injO hq).symm
 refine ifE hb 10 [60, 61] [] hq (fun hq _ => ?_) (fun hq _ => ?_)
 exact retE hb 22 (injO hq).symm
 refine q6 hb 4 hq (gQ84 hb he v_.keys t_.names) fun y14 hy14 hq => ?_
 refine ifE hb 3 [67, 68, 69] [] hq (fun hq _ => ?_) (fun hq _ => ?_)
 exact retE hb 14 (injO hq).symm
 refine ifE hb 9 [76, 77] [] hq (fun hq _ => ?_) (fun hq _ => ?_)
 exact retE hb 5 (injO hq).symm
 refine cpE hb 11 [3, 79, 80, 81] (s' := ⟨none, [pk Tryz.f21 250], [(1, [pk Tryz.f21 63])], sl 95 [(3, pt 1), (79, c1 (vL flV v_.items)), (80, c1 (vi (v_.items.length : Int))), (81, c1 (vi 0))], [bx (aV v_), bx (aT t_)]⟩) ?_
 refine qj hb 0 (gQ8d r_types_Fits v_ t_) (fun s1 => sl 95 [(3, pt 1), (79, c1 (vL flV v_.items)), (80, c1 (vi (v_.items.length : Int))), (81, c1 (vi s1))]) (fun s1 => [none, bx (aT t_)]) [3, 79, 80, 81] [0] 2 (s0 := 0) ⟨rfl, (by kernel_rfl), trivial⟩ hq (fun s1 x1 hq hn1 he1 => ?_)
 refine ifE hb 5 [82] [] hq (fun hq _ => ?_) (fun hq _ => ?_)
 refine idxE hb flV 7 hq fun x18 hx18 hq => ?_
 refine qe hb mixed 6 6 [] ?_
 refine idxE hb flT 4 hq fun x19 hx19 hq => ?_
 refine q6 hb 2 hq (hr_types_Fits x18 x19) fun y20 hy20 hq => ?_
 refine ifE hb 2 [93] [] hq (fun hq _ => ?_) (fun hq _ => ?_)
 exact retE hb 5 (he1 _ (injO hq))
 exact q9 hb 7 [3, 79, 80, 81] [] 2 (hn1 _ (injO hq)) ⟨rfl, (by kernel_rfl), trivial⟩
 exact retE hb 6 (he1 _ (injO hq))
noncomputable def tQat (rec : Val → Ty → Option (Bool)) (a : Val) (b : Ty) : Option (Bool) :=
 gQ8c (gQ8j (fun a0 a1 => rec a0 a1)) (fun a0 a1 => rec a0 a1) a b
noncomputable def tQar (a0 : Val) (a1 : Ty) : Option (Bool) := tieF relV wfV tQat a0 a1
theorem tQas (hb : Base E E0 G) (he : ∀ w, E w → EnvV w) (a0 : Val) (a1 : Ty) (r : Bool) (hq : tQar a0 a1 = some r) : Pure E E0 Tryz.prog 21 [.agg (aV a0), .agg (aT a1)] (c1 (vB r)) :=
 q30 (C := fun a b r => Pure E E0 Tryz.prog 21 [.agg (aV a), .agg (aT b)] (c1 (vB r))) (fun rec hr a b r hq => gQ8e hb he (gQ8j (fun a0 a1 => rec a0 a1)) (fun a0 a1 => rec a0 a1) (gQ8r hb he (fun a0 a1 => rec a0 a1) (fun a0 a1 r e => hr a0 a1 r e)) (fun a0 a1 r e => hr a0 a1 r e) a b r hq) a0 a1 r hq
noncomputable def gQ9s (r_value_Refines : Val → Val → Option (Bool)) (s1_ : List Val) (s2_ : List Val) (s1i : Int) : Option ((Int) ⊕ (Bool)) :=
 bif (decide (s1i < (s1_.length : Int))) then (idx s1_ s1i).bind fun x3 => (idx s2_ s1i).bind fun x4 => (r_value_Refines x3 x4).bind fun y5 => bif (!y5) then some (.inr (false)) else some (.inl (IntKind.i64.wrap (s1i + 1))) else some (.inr (true))
noncomputable def gQ9r (r_value_Refines : Val → Val → Option (Bool)) (s1_ : List Val) (s2_ : List Val) : Option (Bool) :=
 bif (!decide ((s1_.length : Int) = (s2_.length : Int))) then some (false) else qb (gQ9s r_value_Refines s1_ s2_) 0
theorem gQ9t (hb : Base E E0 G) (he : ∀ w, E w → EnvV w) (r_value_Refines : Val → Val → Option (Bool)) (hr_value_Refines : ∀ (a0 : Val) (a1 : Val) (r : Bool), r_value_Refines a0 a1 = some r → Pure E E0 Tryz.prog 34 [.agg (aV a0), .agg (aV a1)] (c1 (vB r))) (s1_ : List Val) (s2_ : List Val) : ∀ r_ : Bool, gQ9r r_value_Refines s1_ s2_ = some r_ →
 Pure E E0 Tryz.prog 67 [.cell (vL flV s1_), .cell (vL flV s2_), .cell (.pv (.sc (.func (.func 34) #[] #[])))] (c1 (vB r_)) := by
 refine fnE hb Tryz.func67 rfl fun r_ hq => ?_
 refine ifE hb 13 [14] [] hq (fun hq _ => ?_) (fun hq _ => ?_)
 exact retE hb 5 (injO hq).symm
 refine qj hb 10 (gQ9s r_value_Refines s1_ s2_) (fun s1i => sl 32 [(1, c1 (vL flV s2_)), (2, c1 (.pv (.sc (.func (.func 34) #[] #[])))), (15, c1 (vL flV s1_)), (16, c1 (vi (s1_.length : Int))), (17, c1 (vi s1i))]) (fun s1i => []) [1, 2, 15, 16, 17] [] 0 (s0 := 0) trivial hq (fun s1i x1 hq hn1 he1 => ?_)
 refine ifE hb 5 [18] [] hq (fun hq _ => ?_) (fun hq _ => ?_)
 refine idxE hb flV 7 hq fun x3 hx3 hq => ?_
 refine idxE hb flV 9 hq fun x4 hx4 hq => ?_
 refine q6 hb 9 hq (hr_value_Refines x3 x4) fun y5 hy5 hq => ?_
 refine ifE hb 2 [30] [] hq (fun hq _ => ?_) (fun hq _ => ?_)
 exact retE hb 5 (he1 _ (injO hq))
 exact q9 hb 7 [1, 2, 15, 16, 17] [] 0 (hn1 _ (injO hq)) trivial
 exact retE hb 6 (he1 _ (injO hq))
noncomputable def gQ9p (r_value_Refines : Val → Val → Option (Bool)) (a_ : Val) (b_ : Val) : Option (Bool) :=
 bif (decide (b_.kind = 6)) then some (true) else bif (decide (a_.kind = b_.kind)) then bif (decide (a_.num = b_.num)) then bif (decide (a_.str = b_.str)) then (gQ82 a_.keys b_.keys).bind fun y5 => bif y5 then (gQ9r r_value_Refines a_.items b_.items).bind fun y7 => some (y7) else some (false) else some (false) else some (false) else some (false)
theorem gQ9q (hb : Base E E0 G) (he : ∀ w, E w → EnvV w) (r_value_Refines : Val → Val → Option (Bool)) (hr_value_Refines : ∀ (a0 : Val) (a1 : Val) (r : Bool), r_value_Refines a0 a1 = some r → Pure E E0 Tryz.prog 34 [.agg (aV a0), .agg (aV a1)] (c1 (vB r))) (a_ : Val) (b_ : Val) : ∀ r_ : Bool, gQ9p r_value_Refines a_ b_ = some r_ →
 Pure E E0 Tryz.prog 34 [.agg (aV a_), .agg (aV b_)] (c1 (vB r_)) := by
 refine fnE hb Tryz.func34 rfl fun r_ hq => ?_
 refine ifE hb 13 [7] [] hq (fun hq _ => ?_) (fun hq _ => ?_)
 exact retE hb 5 (injO hq).symm
 refine ifE hb 10 [12, 13] [] hq (fun hq _ => ?_) (fun hq _ => ?_)
 refine ifE hb 7 [18, 19, 20] [] hq (fun hq _ => ?_) (fun hq _ => ?_)
 refine ifE hb 7 [25, 26, 27] [] hq (fun hq _ => ?_) (fun hq _ => ?_)
 refine q6 hb 4 hq (gQ84 hb he a_.keys b_.keys) fun y5 hy5 hq => ?_
 refine ifE hb 2 [32, 33, 34] [] hq (fun hq _ => ?_) (fun hq _ => ?_)
 refine q6 hb 4 hq (gQ9t hb he r_value_Refines hr_value_Refines a_.items b_.items) fun y7 hy7 hq => ?_
 exact retE hb 3 (injO hq).symm
 exact retE hb 8 (injO hq).symm
 exact retE hb 15 (injO hq).symm
 exact retE hb 22 (injO hq).symm
 exact retE hb 29 (injO hq).symm
noncomputable def tQb5 (rec : Val → Val → Option (Bool)) (a : Val) (b : Val) : Option (Bool) :=
 gQ9p (fun a0 a1 => rec a0 a1) a b
noncomputable def tQb3 (a0 : Val) (a1 : Val) : Option (Bool) := tieF relV wfV tQb5 a0 a1
theorem tQb4 (hb : Base E E0 G) (he : ∀ w, E w → EnvV w) (a0 : Val) (a1 : Val) (r : Bool) (hq : tQb3 a0 a1 = some r) : Pure E E0 Tryz.prog 34 [.agg (aV a0), .agg (aV a1)] (c1 (vB r)) :=
 q30 (C := fun a b r => Pure E E0 Tryz.prog 34 [.agg (aV a), .agg (aV b)] (c1 (vB r))) (fun rec hr a b r hq => gQ9q hb he (fun a0 a1 => rec a0 a1) (fun a0 a1 r e => hr a0 a1 r e) a b r hq) a0 a1 r hq
noncomputable def gQ5c  (s_ : SchemaG) (planned_ : Val) (final_ : Val) : Option (Bool) :=
 (q28 final_).bind fun y1 => bif (decide (y1 = 0)) then (tQb0 final_).bind fun y3 => bif y3 then (gQ69 s_).bind fun y5 => (tQar final_ y5).bind fun y6 => bif y6 then (tQb3 final_ planned_).bind fun y8 => some (y8) else some (false) else some (false) else some (false)
theorem gQ5d (hb : Base E E0 G) (he : ∀ w, E w → EnvV w)   (s_ : SchemaG) (planned_ : Val) (final_ : Val) : ∀ r_ : Bool, gQ5c s_ planned_ final_ = some r_ →
 Pure E E0 Tryz.prog 35 [.agg [vL q7 s_.attrs, vL qd s_.nested], .agg (aV planned_), .agg (aV final_)] (c1 (vB r_)) := by
 refine fnE hb Tryz.func35 rfl fun r_ hq => ?_
 refine qe hb mixed 8 16 [] ?_
 refine q6 hb 1 hq (q8u hb he final_) fun y1 hy1 hq => ?_
 refine ifE hb 2 [9, 10] [] hq (fun hq _ => ?_) (fun hq _ => ?_)
 refine q6 hb 1 hq (tQb1 hb he final_) fun y3 hy3 hq => ?_
 refine ifE hb 2 [12, 13, 14] [] hq (fun hq _ => ?_) (fun hq _ => ?_)
 refine q6 hb 2 hq (gQ6e hb he s_) fun y5 hy5 hq => ?_
 refine q6 hb 0 hq (tQas hb he final_ y5) fun y6 hy6 hq => ?_
 refine ifE hb 2 [18, 19, 20] [] hq (fun hq _ => ?_) (fun hq _ => ?_)
 refine q6 hb 3 hq (tQb4 hb he final_ planned_) fun y8 hy8 hq => ?_
 exact retE hb 3 (injO hq).symm
 exact retE hb 7 (injO hq).symm
 exact retE hb 13 (injO hq).symm
 exact retE hb 17 (injO hq).symm
noncomputable def gQ1r   : Option (Ty) :=
 some (Ty.mk 3 [] [])
theorem gQ1s (hb : Base E E0 G) (he : ∀ w, E w → EnvV w)    : ∀ r_ : Ty, gQ1r = some r_ →
 Pure E E0 Tryz.prog 101 [] (.one (.agg (aT r_))) := by
 refine fnE hb Tryz.func101 rfl fun r_ hq => ?_
 exact retE hb 9 (injO hq).symm
noncomputable def gQ1h   : Option (SchemaG) :=
 (gQ1r).bind fun y1 => (gQ1r).bind fun y2 => some (SchemaG.mk [(AttrG.mk (⟨#[105, 100]⟩ : ByteArray) y1 3 false false false), (AttrG.mk (⟨#[110]⟩ : ByteArray) (Ty.mk 2 [] []) 2 false false false), (AttrG.mk (⟨#[110, 97, 109, 101]⟩ : ByteArray) y2 1 true false false)] [])
theorem gQ1i (hb : Base E E0 G) (he : ∀ w, E w → EnvV w)    : ∀ r_ : SchemaG, gQ1h = some r_ →
 Pure E E0 Tryz.prog 52 [] (.one (.agg [vL q7 r_.attrs, vL qd r_.nested])) := by
 refine fnE hb Tryz.func52 rfl fun r_ hq => ?_
 refine q6 hb 6 hq (gQ1s hb he ) fun y1 hy1 hq => ?_
 refine q6 hb 3 hq (gQ1s hb he ) fun y2 hy2 hq => ?_
 refine qn hb 5 0 0 (cs := [.pv (.sl true 3 [pS (⟨#[105, 100]⟩ : ByteArray), pI .i64 y1.kind, pL flT y1.elems, pL flS y1.names, pI .i64 3, pB false, pB false, pB false, pS (⟨#[110]⟩ : ByteArray), pI .i64 2, pL flT [], pL flS [], pI .i64 2, pB false, pB false, pB false, pS (⟨#[110, 97, 109, 101]⟩ : ByteArray), pI .i64 y2.kind, pL flT y2.elems, pL flS y2.names, pI .i64 1, pB true, pB false, pB false]), vN]) (c := .pv (.sl true 3 [pS (⟨#[105, 100]⟩ : ByteArray), pI .i64 y1.kind, pL flT y1.elems, pL flS y1.names, pI .i64 3, pB false, pB false, pB false, pS (⟨#[110]⟩ : ByteArray), pI .i64 2, pL flT [], pL flS [], pI .i64 2, pB false, pB false, pB false, pS (⟨#[110, 97, 109, 101]⟩ : ByteArray), pI .i64 y2.kind, pL flT y2.elems, pL flS y2.names, pI .i64 1, pB true, pB false, pB false])) (qcv q7 (q7.three (AttrG.mk (⟨#[105, 100]⟩ : ByteArray) y1 3 false false false) (AttrG.mk (⟨#[110]⟩ : ByteArray) (Ty.mk 2 [] []) 2 false false false) (AttrG.mk (⟨#[110, 97, 109, 101]⟩ : ByteArray) y2 1 true false false)).symm) (by kernel_rfl) ?_
 exact retE hb 0 (injO hq).symm
noncomputable def gQ20  (s_ : ByteArray) : Option (Val) :=
 some (Val.mk 3 0 s_ [] [])
theorem gQ21 (hb : Base E E0 G) (he : ∀ w, E w → EnvV w)   (s_ : ByteArray) : ∀ r_ : Val, gQ20 s_ = some r_ →
 Pure E E0 Tryz.prog 53 [.cell (vS s_)] (.one (.agg (aV r_))) := by
 refine fnE hb Tryz.func53 rfl fun r_ hq => ?_
 exact retE hb 10 (injO hq).symm
noncomputable def gQ1w  (id_ : Val) (n_ : Val) (name_ : Val) : Option (Val) :=
 some (Val.mk 5 0 eS [id_, n_, name_] [(⟨#[105, 100]⟩ : ByteArray), (⟨#[110]⟩ : ByteArray), (⟨#[110, 97, 109, 101]⟩ : ByteArray)])
theorem gQ1x (hb : Base E E0 G) (he : ∀ w, E w → EnvV w)   (id_ : Val) (n_ : Val) (name_ : Val) : ∀ r_ : Val, gQ1w id_ n_ name_ = some r_ →
 Pure E E0 Tryz.prog 54 [.agg (aV id_), .agg (aV n_), .agg (aV name_)] (.one (.agg (aV r_))) := by
 refine fnE hb Tryz.func54 rfl fun r_ hq => ?_
 refine qn hb 17 3 3 (cs := [vi 5, vi 0, vS eS, .pv (.sl true 3 [pI .i64 id_.kind, pI .i64 id_.num, pS id_.str, pL flV id_.items, pL flS id_.keys, pI .i64 n_.kind, pI .i64 n_.num, pS n_.str, pL flV n_.items, pL flS n_.keys, pI .i64 name_.kind, pI .i64 name_.num, pS name_.str, pL flV name_.items, pL flS name_.keys]), .pv (.sl true 3 [pS (⟨#[105, 100]⟩ : ByteArray), pS (⟨#[110]⟩ : ByteArray), pS (⟨#[110, 97, 109, 101]⟩ : ByteArray)])]) (c := .pv (.sl true 3 [pI .i64 id_.kind, pI .i64 id_.num, pS id_.str, pL flV id_.items, pL flS id_.keys, pI .i64 n_.kind, pI .i64 n_.num, pS n_.str, pL flV n_.items, pL flS n_.keys, pI .i64 name_.kind, pI .i64 name_.num, pS name_.str, pL flV name_.items, pL flS name_.keys])) (qcv flV (flV.three id_ n_ name_).symm) (by kernel_rfl) ?_
 refine qn hb 0 3 4 (cs := [vi 5, vi 0, vS eS, vL flV [id_, n_, name_], .pv (.sl true 3 [pS (⟨#[105, 100]⟩ : ByteArray), pS (⟨#[110]⟩ : ByteArray), pS (⟨#[110, 97, 109, 101]⟩ : ByteArray)])]) (c := .pv (.sl true 3 [pS (⟨#[105, 100]⟩ : ByteArray), pS (⟨#[110]⟩ : ByteArray), pS (⟨#[110, 97, 109, 101]⟩ : ByteArray)])) (qcv flS (flS.three (⟨#[105, 100]⟩ : ByteArray) (⟨#[110]⟩ : ByteArray) (⟨#[110, 97, 109, 101]⟩ : ByteArray)).symm) (by kernel_rfl) ?_
 exact retE hb 0 (injO hq).symm
noncomputable def gQ1f  (z1 : Bool) : Option (Bool) :=
 some (z1)
noncomputable def gQ1e   : Option (Bool) :=
 (gQ1h).bind fun y1 => (gQ20 (⟨#[53]⟩ : ByteArray)).bind fun y2 => (gQ20 (⟨#[120]⟩ : ByteArray)).bind fun y3 => (gQ5k y1 (Val.mk 5 0 eS [y2, y3] [(⟨#[110]⟩ : ByteArray), (⟨#[110, 97, 109, 101]⟩ : ByteArray)])).bind fun y4 => (gQ5k y1 (Val.mk 5 0 eS [] [])).bind fun y5 => (gQ62 y1 (Val.mk 0 0 eS [] []) y4.1).bind fun y6 => (gQ20 (⟨#[49]⟩ : ByteArray)).bind fun y7 => (gQ20 (⟨#[120]⟩ : ByteArray)).bind fun y8 => (gQ1w y7 (Val.mk 2 5 eS [] []) y8).bind fun y9 => (gQ20 (⟨#[49]⟩ : ByteArray)).bind fun y10 => (gQ20 (⟨#[121]⟩ : ByteArray)).bind fun y11 => (gQ1w y10 (Val.mk 2 5 eS [] []) y11).bind fun y12 => (gQ66 y1 y9 y12).bind fun y13 => (gQ5h y1).bind fun y14 => bif (decide (y14 = 0)) then (gQ5h (SchemaG.mk [] [])).bind fun y16 => bif (decide (y16 = 12)) then bif (decide ((y4.2.kind : Int) = 0) && (decide ((y4.2.at_ : Int) = 0) && (decide (y4.2.name = eS) && true))) then (gQ20 (⟨#[120]⟩ : ByteArray)).bind fun y19 => (gQ1w (Val.mk 0 0 eS [] []) (Val.mk 2 5 eS [] []) y19).bind fun y20 => (tQa6 y4.1 y20).bind fun y21 => bif y21 then bif (decide ((y5.2.kind : Int) = 12) && (decide ((y5.2.at_ : Int) = 0) && (decide (y5.2.name = (⟨#[110, 97, 109, 101]⟩ : ByteArray)) && true))) then (gQ20 (⟨#[120]⟩ : ByteArray)).bind fun y24 => (gQ1w (Val.mk 6 0 eS [] []) (Val.mk 2 5 eS [] []) y24).bind fun y25 => (tQa6 y6 y25).bind fun y26 => bif y26 then bif (decide ((y13.length : Int) = 1)) then (idx y13 0).bind fun x29 => bif (decide (x29 = (⟨#[110, 97, 109, 101]⟩ : ByteArray))) then (gQ20 (⟨#[49]⟩ : ByteArray)).bind fun y31 => (gQ20 (⟨#[120]⟩ : ByteArray)).bind fun y32 => (gQ1w y31 (Val.mk 2 5 eS [] []) y32).bind fun y33 => (gQ5c y1 y6 y33).bind fun y34 => gQ1f y34 else gQ1f false else gQ1f false else gQ1f false else gQ1f false else gQ1f false else gQ1f false else gQ1f false else gQ1f false
theorem gQ1g (hb : Base E E0 G) (he : ∀ w, E w → EnvV w)    : ∀ r_ : Bool, gQ1e = some r_ →
 Pure E E0 Tryz.prog 14 [] (c1 (vB r_)) := by
 refine fnE hb Tryz.func14 rfl fun r_ hq => ?_
 refine q6 hb 6 hq (gQ1i hb he ) fun y1 hy1 hq => ?_
 refine qe hb mixed 4 12 [9] ?_
 refine q6 hb 2 hq (gQ21 hb he (⟨#[53]⟩ : ByteArray)) fun y2 hy2 hq => ?_
 refine q6 hb 0 hq (gQ21 hb he (⟨#[120]⟩ : ByteArray)) fun y3 hy3 hq => ?_
 have hp := (gQ5n hb he y1 (Val.mk 5 0 eS [y2, y3] [(⟨#[110]⟩ : ByteArray), (⟨#[110, 97, 109, 101]⟩ : ByteArray)]))
 simp only [aV, aT, kind_mk, qk6, qlr, qj0, qj5, Ty.kind_mk, Ty.elems_mk, Ty.names_mk, vL_one, vL_two, qvi, qvh, qvg, vL_six] at hp
 refine q6 hb 2 hq hp fun y4 hy4 hq => ?_
 refine q6 hb 13 hq (gQ5n hb he y1 (Val.mk 5 0 eS [] [])) fun y5 hy5 hq => ?_
 refine q6 hb 19 hq (gQ65 hb he y1 (Val.mk 0 0 eS [] []) y4.1) fun y6 hy6 hq => ?_
 refine qe hb mixed 4 9 [] ?_
 refine q6 hb 1 hq (gQ21 hb he (⟨#[49]⟩ : ByteArray)) fun y7 hy7 hq => ?_
 refine q6 hb 1 hq (gQ21 hb he (⟨#[120]⟩ : ByteArray)) fun y8 hy8 hq => ?_
 refine q6 hb 0 hq (gQ1x hb he y7 (Val.mk 2 5 eS [] []) y8) fun y9 hy9 hq => ?_
 refine q6 hb 0 hq (gQ21 hb he (⟨#[49]⟩ : ByteArray)) fun y10 hy10 hq => ?_
 refine q6 hb 1 hq (gQ21 hb he (⟨#[121]⟩ : ByteArray)) fun y11 hy11 hq => ?_
 refine q6 hb 0 hq (gQ1x hb he y10 (Val.mk 2 5 eS [] []) y11) fun y12 hy12 hq => ?_
 refine q6 hb 1 hq (gQ68 hb he y1 y9 y12) fun y13 hy13 hq => ?_
 refine q58 hb gQ1f (fun z1 => ⟨none, [pk Tryz.f14 511], [], sl 95 [(0, c1 (vB z1))], [bx [vL q7 y1.attrs, vL qd y1.nested], bx (aV y4.1), bx [vi y4.2.kind, vi y4.2.at_, vS y4.2.name], bx (aV y5.1), bx [vi y5.2.kind, vi y5.2.at_, vS y5.2.name], bx [vi 2, vi 5, vS eS, vN, vN], bx (aV y6)]⟩) (x := r_) (fun z1 hq => ?_) (fun KJ1 => ?_)
 exact retE hb 0 (injO hq).symm
 refine qe hb mixed 3 52 [] ?_
 refine q6 hb 1 hq (gQ5j hb he y1) fun y14 hy14 hq => ?_
 refine ifE hb 2 [43, 44] [] hq (fun hq _ => ?_) (fun hq _ => ?_)
 refine q6 hb 1 hq (gQ5j hb he (SchemaG.mk [] [])) fun y16 hy16 hq => ?_
 refine ifE hb 3 [47, 48, 49] [] hq (fun hq _ => ?_) (fun hq _ => ?_)
 refine ifE hb 5 [52, 53, 54] [] hq (fun hq _ => ?_) (fun hq _ => ?_)
 refine q6 hb 3 hq (gQ21 hb he (⟨#[120]⟩ : ByteArray)) fun y19 hy19 hq => ?_
 refine q6 hb 0 hq (gQ1x hb he (Val.mk 0 0 eS [] []) (Val.mk 2 5 eS [] []) y19) fun y20 hy20 hq => ?_
 refine q6 hb 0 hq (tQa7 hb he y4.1 y20) fun y21 hy21 hq => ?_
 refine ifE hb 2 [60, 61, 62] [] hq (fun hq _ => ?_) (fun hq _ => ?_)
 refine ifE hb 5 [65, 66, 67] [] hq (fun hq _ => ?_) (fun hq _ => ?_)
 refine q6 hb 3 hq (gQ21 hb he (⟨#[120]⟩ : ByteArray)) fun y24 hy24 hq => ?_
 refine q6 hb 0 hq (gQ1x hb he (Val.mk 6 0 eS [] []) (Val.mk 2 5 eS [] []) y24) fun y25 hy25 hq => ?_
 refine q6 hb 0 hq (tQa7 hb he y6 y25) fun y26 hy26 hq => ?_
 refine ifE hb 2 [73, 74, 75] [] hq (fun hq _ => ?_) (fun hq _ => ?_)
 refine ifE hb 5 [78, 79, 80] [] hq (fun hq _ => ?_) (fun hq _ => ?_)
 refine idxE hb flS 1 hq fun x29 hx29 hq => ?_
 refine ifE hb 4 [84, 85, 86] [] hq (fun hq _ => ?_) (fun hq _ => ?_)
 refine q6 hb 2 hq (gQ21 hb he (⟨#[49]⟩ : ByteArray)) fun y31 hy31 hq => ?_
 refine q6 hb 1 hq (gQ21 hb he (⟨#[120]⟩ : ByteArray)) fun y32 hy32 hq => ?_
 refine q6 hb 0 hq (gQ1x hb he y31 (Val.mk 2 5 eS [] []) y32) fun y33 hy33 hq => ?_
 refine q6 hb 1 hq (gQ5d hb he y1 y6 y33) fun y34 hy34 hq => ?_
 exact cpE hb 3 [0] (KJ1 y34 hq)
 exact cpE hb 11 [0] (KJ1 false hq)
 exact cpE hb 17 [0] (KJ1 false hq)
 exact cpE hb 22 [0] (KJ1 false hq)
 exact cpE hb 30 [0] (KJ1 false hq)
 exact cpE hb 35 [0] (KJ1 false hq)
 exact cpE hb 43 [0] (KJ1 false hq)
 exact cpE hb 48 [0] (KJ1 false hq)
 exact cpE hb 53 [0] (KJ1 false hq)
noncomputable def gQ1y  (s_ : SchemaG) : Option (Bool) :=
 (gQ1j s_).bind fun y1 => bif y1 then (gQ3o s_).bind fun y3 => some (decide (y3 = 0)) else some (false)
theorem gQ1z (hb : Base E E0 G) (he : ∀ w, E w → EnvV w)   (s_ : SchemaG) : ∀ r_ : Bool, gQ1y s_ = some r_ →
 Pure E E0 Tryz.prog 15 [.agg [vL q7 s_.attrs, vL qd s_.nested]] (c1 (vB r_)) := by
 refine fnE hb Tryz.func15 rfl fun r_ hq => ?_
 refine q6 hb 8 hq (gQ1l hb he s_) fun y1 hy1 hq => ?_
 refine ifE hb 1 [4, 5] [] hq (fun hq _ => ?_) (fun hq _ => ?_)
 refine q6 hb 1 hq (gQ3q hb he s_) fun y3 hy3 hq => ?_
 exact retE hb 4 (injO hq).symm
 exact retE hb 6 (injO hq).symm
noncomputable def gQ2c (v_ : Val) (key_ : ByteArray) (s1 : Int) : Option ((Int) ⊕ (Val × Bool)) :=
 bif (decide (s1 < (v_.keys.length : Int))) then bif (decide (s1 < (v_.items.length : Int))) then (idx v_.keys s1).bind fun x4 => bif (decide (x4 = key_)) then (idx v_.items s1).bind fun x6 => some (.inr (x6, true)) else some (.inl (IntKind.i64.wrap (s1 + 1))) else some (.inr ((Val.mk 0 0 eS [] []), false)) else some (.inr ((Val.mk 0 0 eS [] []), false))
noncomputable def gQ2b  (v_ : Val) (key_ : ByteArray) : Option (Val × Bool) :=
 bif (!decide (v_.kind = 5)) then some ((Val.mk 0 0 eS [] []), false) else qb (gQ2c v_ key_) 0
theorem gQ2d (hb : Base E E0 G) (he : ∀ w, E w → EnvV w)   (v_ : Val) (key_ : ByteArray) : ∀ r_ : Val × Bool, gQ2b v_ key_ = some r_ →
 Pure E E0 Tryz.prog 84 [.agg (aV v_), .cell (vS key_)] (.tup [.agg (aV r_.1), .cell (vB r_.2)]) := by
 refine fnE hb Tryz.func84 rfl fun r_ hq => ?_
 refine ifE hb 13 [9] [] hq (fun hq _ => ?_) (fun hq _ => ?_)
 exact retE hb 7 (injO hq).symm
 refine qj hb 8 (gQ2c v_ key_) (fun s1 => sl 38 [(1, c1 (vS key_)), (2, pt 0), (4, pt 1), (6, c1 (vi s1))]) (fun s1 => [bx (aV v_), bx zV]) [1, 2, 4, 6] [] 2 (s0 := 0) ⟨(by kernel_rfl), (by kernel_rfl), trivial⟩ hq (fun s1 x1 hq hn1 he1 => ?_)
 refine ifE hb 9 [15, 16] [] hq (fun hq _ => ?_) (fun hq _ => ?_)
 refine ifE hb 7 [21, 22] [] hq (fun hq _ => ?_) (fun hq _ => ?_)
 refine idxE hb flS 9 hq fun x4 hx4 hq => ?_
 refine ifE hb 4 [31] [] hq (fun hq _ => ?_) (fun hq _ => ?_)
 refine idxE hb flV 6 hq fun x6 hx6 hq => ?_
 exact retE hb 4 (he1 _ (injO hq))
 exact q9 hb 8 [1, 2, 4, 6] [] 2 (hn1 _ (injO hq)) ⟨(by kernel_rfl), (by kernel_rfl), trivial⟩
 exact retE hb 8 (he1 _ (injO hq))
 exact retE hb 15 (he1 _ (injO hq))
noncomputable def gQ45  (v_ : Val) (name_ : ByteArray) : Option (Val) :=
 bif (!decide (v_.kind = 5)) then some (Val.mk 0 0 eS [] []) else (gQ2b v_ name_).bind fun y2 => bif (!y2.2) then some (Val.mk 0 0 eS [] []) else some (y2.1)
theorem gQ46 (hb : Base E E0 G) (he : ∀ w, E w → EnvV w)   (v_ : Val) (name_ : ByteArray) : ∀ r_ : Val, gQ45 v_ name_ = some r_ →
 Pure E E0 Tryz.prog 36 [.agg (aV v_), .cell (vS name_)] (.one (.agg (aV r_))) := by
 refine fnE hb Tryz.func36 rfl fun r_ hq => ?_
 refine ifE hb 12 [9] [] hq (fun hq _ => ?_) (fun hq _ => ?_)
 exact retE hb 6 (injO hq).symm
 refine q6 hb 6 hq (gQ2d hb he v_ name_) fun y2 hy2 hq => ?_
 refine ifE hb 13 [18] [] hq (fun hq _ => ?_) (fun hq _ => ?_)
 exact retE hb 6 (injO hq).symm
 exact retE hb 7 (injO hq).symm
noncomputable def gQ1p  (v_ : Val) : Option (Bool) :=
 (q79 v_ 150).bind fun y1 => bif y1 then (q28 v_).bind fun y3 => some (decide (y3 = 0)) else some (false)
theorem gQ1q (hb : Base E E0 G) (he : ∀ w, E w → EnvV w)   (v_ : Val) : ∀ r_ : Bool, gQ1p v_ = some r_ →
 Pure E E0 Tryz.prog 23 [.agg (aV v_)] (c1 (vB r_)) := by
 refine fnE hb Tryz.func23 rfl fun r_ hq => ?_
 refine q6 hb 8 hq (qf1 hb he v_ 150) fun y1 hy1 hq => ?_
 refine ifE hb 1 [4, 5] [] hq (fun hq _ => ?_) (fun hq _ => ?_)
 refine q6 hb 1 hq (qbg hb he v_) fun y3 hy3 hq => ?_
 exact retE hb 4 (injO hq).symm
 exact retE hb 6 (injO hq).symm
noncomputable def gQ40  (s_ : SchemaG) : Option (List ByteArray) :=
 (gQ4e s_).bind fun y1 => some (y1.names)
theorem gQ41 (hb : Base E E0 G) (he : ∀ w, E w → EnvV w)   (s_ : SchemaG) : ∀ r_ : List ByteArray, gQ40 s_ = some r_ →
 Pure E E0 Tryz.prog 73 [.agg [vL q7 s_.attrs, vL qd s_.nested]] (c1 (vL flS r_)) := by
 refine fnE hb Tryz.func73 rfl fun r_ hq => ?_
 refine q6 hb 8 hq (gQ4g hb he s_) fun y1 hy1 hq => ?_
 exact retE hb 3 (injO hq).symm
noncomputable def gQ1n (v_ : Val) (y1 : List ByteArray) (s1 : Int) : Option ((Int) ⊕ (Bool)) :=
 bif (decide (s1 < (y1.length : Int))) then (idx v_.keys s1).bind fun x5 => (idx y1 s1).bind fun x6 => bif (!decide (x5 = x6)) then some (.inr (false)) else some (.inl (IntKind.i64.wrap (s1 + 1))) else some (.inr (true))
noncomputable def gQ1m  (s_ : SchemaG) (v_ : Val) : Option (Bool) :=
 (gQ40 s_).bind fun y1 => bif (!decide (v_.kind = 5)) then some (false) else bif (!decide ((v_.keys.length : Int) = (y1.length : Int))) then some (false) else qb (gQ1n v_ y1) 0
theorem gQ1o (hb : Base E E0 G) (he : ∀ w, E w → EnvV w)   (s_ : SchemaG) (v_ : Val) : ∀ r_ : Bool, gQ1m s_ v_ = some r_ →
 Pure E E0 Tryz.prog 24 [.agg [vL q7 s_.attrs, vL qd s_.nested], .agg (aV v_)] (c1 (vB r_)) := by
 refine fnE hb Tryz.func24 rfl fun r_ hq => ?_
 refine q6 hb 9 hq (gQ41 hb he s_) fun y1 hy1 hq => ?_
 refine ifE hb 9 [11, 12] [] hq (fun hq _ => ?_) (fun hq _ => ?_)
 exact retE hb 13 (injO hq).symm
 refine ifE hb 8 [18, 19] [] hq (fun hq _ => ?_) (fun hq _ => ?_)
 exact retE hb 5 (injO hq).symm
 refine qj hb 8 (gQ1n v_ y1) (fun s1 => sl 36 [(3, pt 1), (5, c1 (vL flS y1)), (6, c1 (vi s1))]) (fun s1 => [none, bx (aV v_)]) [3, 5, 6] [0] 2 (s0 := 0) ⟨rfl, (by kernel_rfl), trivial⟩ hq (fun s1 x1 hq hn1 he1 => ?_)
 refine ifE hb 8 [23] [] hq (fun hq _ => ?_) (fun hq _ => ?_)
 refine qe hb mixed 5 9 [] ?_
 refine idxE hb flS 3 hq fun x5 hx5 hq => ?_
 refine idxE hb flS 3 hq fun x6 hx6 hq => ?_
 refine ifE hb 4 [35] [] hq (fun hq _ => ?_) (fun hq _ => ?_)
 exact retE hb 5 (he1 _ (injO hq))
 exact q9 hb 8 [3, 5, 6] [] 2 (hn1 _ (injO hq)) ⟨rfl, (by kernel_rfl), trivial⟩
 exact retE hb 6 (he1 _ (injO hq))
noncomputable def gQ1u (a_ : List ByteArray) (b_ : List ByteArray) (s1 : Int) : Option ((Int) ⊕ (Bool)) :=
 bif (decide (s1 < (a_.length : Int))) then (idx a_ s1).bind fun x3 => (idx b_ s1).bind fun x4 => bif (!decide (x3 = x4)) then some (.inr (false)) else some (.inl (IntKind.i64.wrap (s1 + 1))) else some (.inr (true))
noncomputable def gQ1t  (a_ : List ByteArray) (b_ : List ByteArray) : Option (Bool) :=
 bif (!decide ((a_.length : Int) = (b_.length : Int))) then some (false) else qb (gQ1u a_ b_) 0
theorem gQ1v (hb : Base E E0 G) (he : ∀ w, E w → EnvV w)   (a_ : List ByteArray) (b_ : List ByteArray) : ∀ r_ : Bool, gQ1t a_ b_ = some r_ →
 Pure E E0 Tryz.prog 27 [.cell (vL flS a_), .cell (vL flS b_)] (c1 (vB r_)) := by
 refine fnE hb Tryz.func27 rfl fun r_ hq => ?_
 refine ifE hb 13 [10] [] hq (fun hq _ => ?_) (fun hq _ => ?_)
 exact retE hb 5 (injO hq).symm
 refine qj hb 8 (gQ1u a_ b_) (fun s1 => sl 26 [(0, c1 (vL flS a_)), (1, c1 (vL flS b_)), (5, c1 (vi s1))]) (fun s1 => []) [0, 1, 5] [] 0 (s0 := 0) trivial hq (fun s1 x1 hq hn1 he1 => ?_)
 refine ifE hb 8 [14] [] hq (fun hq _ => ?_) (fun hq _ => ?_)
 refine qe hb mixed 5 8 [] ?_
 refine idxE hb flS 2 hq fun x3 hx3 hq => ?_
 refine idxE hb flS 3 hq fun x4 hx4 hq => ?_
 refine ifE hb 4 [25] [] hq (fun hq _ => ?_) (fun hq _ => ?_)
 exact retE hb 5 (he1 _ (injO hq))
 exact q9 hb 8 [0, 1, 5] [] 0 (hn1 _ (injO hq)) trivial
 exact retE hb 6 (he1 _ (injO hq))
noncomputable def gQ10 (s1 : Int) (z4 : Bool) : Option ((Int) ⊕ (Bool)) :=
 bif z4 then some (.inr (false)) else some (.inl (IntKind.i64.wrap (s1 + 1)))
noncomputable def gQ11 (s_ : SchemaG) (prior_ : Val) (y22 : Val) (s2 : Bool × Int) (z6 : Bool) : Option ((Bool × Int) ⊕ ((Int) ⊕ (Bool))) :=
 bif z6 then bif s2.1 then (idx s_.attrs s2.2).bind fun x25 => (gQ45 prior_ x25.name).bind fun y26 => (tQax y22 y26).bind fun y27 => some (.inl (y27, (IntKind.i64.wrap (s2.2 + 1)))) else some (.inl (false, (IntKind.i64.wrap (s2.2 + 1)))) else some (.inl (s2.1, (IntKind.i64.wrap (s2.2 + 1))))
noncomputable def gQ12  (z8 : Bool) : Option ((Bool × Int) ⊕ ((Bool × Int) ⊕ ((Int) ⊕ (Bool)))) :=
 bif z8 then some (.inr (.inr (.inr (false)))) else (gQ1e).bind fun y40 => some (.inr (.inr (.inr (y40))))
noncomputable def gQ16 (s_ : SchemaG) (prior_ : Val) (y3 : Val × DiagG) (y6 : Val) (s3 : Bool × Int) : Option ((Bool × Int) ⊕ ((Bool × Int) ⊕ ((Int) ⊕ (Bool)))) :=
 bif (decide (s3.2 < (s_.nested.length : Int))) then bif s3.1 then (idx s_.nested s3.2).bind fun x34 => (gQ45 y3.1 x34.name).bind fun y35 => (idx s_.nested s3.2).bind fun x36 => (gQ45 prior_ x36.name).bind fun y37 => (tQax y35 y37).bind fun y38 => some (.inl (y38, (IntKind.i64.wrap (s3.2 + 1)))) else some (.inl (false, (IntKind.i64.wrap (s3.2 + 1)))) else bif s3.1 then (tQax y6 prior_).bind fun y42 => bif (!y42) then gQ12 true else (gQ5e s_ prior_ y6).bind fun y44 => gQ12 (!decide ((y44.length : Int) = 0)) else gQ12 false
noncomputable def gQ15 (s_ : SchemaG) (prior_ : Val) (y3 : Val × DiagG) (y6 : Val) (s2 : Bool × Int) : Option ((Bool × Int) ⊕ ((Int) ⊕ (Bool))) :=
 bif (decide (s2.2 < (s_.attrs.length : Int))) then (idx s_.attrs s2.2).bind fun x21 => (gQ45 y3.1 x21.name).bind fun y22 => (idx s_.attrs s2.2).bind fun x28 => bif (!decide (x28.mode = 3)) then (idx s_.attrs s2.2).bind fun x30 => bif (!decide (x30.mode = 4)) then (gQ11 s_ prior_ y22 s2) true else (gQ11 s_ prior_ y22 s2) (!decide (y22.kind = 0)) else (gQ11 s_ prior_ y22 s2) false else qb (gQ16 s_ prior_ y3 y6) (s2.1, 0)
noncomputable def gQ0y (s2b : Int) (z10 : Bool) : Option ((Int) ⊕ ((Int) ⊕ (Bool))) :=
 bif z10 then some (.inl (IntKind.i64.wrap (s2b + 1))) else some (.inl (IntKind.i64.wrap (s2b + 1)))
noncomputable def gQ13 (s_ : SchemaG) (s3b : Int) : Option ((Int) ⊕ ((Int) ⊕ ((Int) ⊕ (Bool)))) :=
 bif (decide (s3b < (s_.nested.length : Int))) then some (.inl (IntKind.i64.wrap (s3b + 1))) else (gQ1e).bind fun y54 => some (.inr (.inr (.inr (y54))))
noncomputable def gQ17 (s_ : SchemaG) (y3 : Val × DiagG) (s2b : Int) : Option ((Int) ⊕ ((Int) ⊕ (Bool))) :=
 bif (decide (s2b < (s_.attrs.length : Int))) then (idx s_.attrs s2b).bind fun x46 => (gQ45 y3.1 x46.name).bind fun y47 => (idx s_.attrs s2b).bind fun x49 => bif (!decide (x49.mode = 3)) then (idx s_.attrs s2b).bind fun x51 => bif (!decide (x51.mode = 4)) then (gQ0y s2b) true else (gQ0y s2b) (!decide (y47.kind = 0)) else (gQ0y s2b) false else qb (gQ13 s_) 0
noncomputable def gQ14 (s_ : SchemaG) (prior_ : Val) (y3 : Val × DiagG) (y6 : Val) (s1 : Int) : Option ((Int) ⊕ (Bool)) :=
 bif (decide (s1 < (s_.attrs.length : Int))) then (idx s_.attrs s1).bind fun x10 => bif (decide (x10.mode = 3)) then bif (!x10.volatile) then bif (!decide (prior_.kind = 0)) then (gQ45 y6 x10.name).bind fun y15 => (gQ45 prior_ x10.name).bind fun y16 => (tQa6 y15 y16).bind fun y17 => (gQ10 s1) (!y17) else (gQ10 s1) false else (gQ10 s1) false else (gQ10 s1) false else bif (!decide (prior_.kind = 0)) then (tQb0 prior_).bind fun y19 => qb (gQ15 s_ prior_ y3 y6) (y19, 0) else qb (gQ17 s_ y3) 0
noncomputable def gQ0z (s_ : SchemaG) (prior_ : Val) (final_ : Val) (y3 : Val × DiagG) (y6 : Val) (z2 : Bool) : Option (Bool) :=
 (gQ5c s_ y6 final_).bind fun y7 => bif (!(y7 == z2)) then some (false) else qb (gQ14 s_ prior_ y3 y6) 0
noncomputable def gQ0x (s_ : SchemaG) (prior_ : Val) (v_ : Val) (final_ : Val) (z1 : Bool) : Option (Bool) :=
 bif z1 then (gQ1e).bind fun y2 => some (y2) else (gQ5k s_ v_).bind fun y3 => bif (!decide (y3.2.kind = 0)) then (gQ1e).bind fun y5 => some (y5) else (gQ62 s_ prior_ y3.1).bind fun y6 => (q28 final_).bind fun y55 => bif (decide (y55 = 0)) then (tQb0 final_).bind fun y57 => bif y57 then (gQ69 s_).bind fun y59 => (tQar final_ y59).bind fun y60 => bif y60 then (tQb3 final_ y6).bind fun y62 => (gQ0z s_ prior_ final_ y3 y6) y62 else (gQ0z s_ prior_ final_ y3 y6) false else (gQ0z s_ prior_ final_ y3 y6) false else (gQ0z s_ prior_ final_ y3 y6) false
noncomputable def gQ0w  (s_ : SchemaG) (prior_ : Val) (v_ : Val) (final_ : Val) : Option (Bool) :=
 (gQ1y s_).bind fun y63 => bif (!y63) then (gQ0x s_ prior_ v_ final_) true else (gQ1p prior_).bind fun y65 => bif (!y65) then (gQ0x s_ prior_ v_ final_) true else (gQ1p v_).bind fun y67 => bif (!y67) then (gQ0x s_ prior_ v_ final_) true else (q79 final_ 150).bind fun y69 => bif (!y69) then (gQ0x s_ prior_ v_ final_) true else bif (!decide (prior_.kind = 0)) then (gQ1m s_ prior_).bind fun y72 => (gQ0x s_ prior_ v_ final_) (!y72) else (gQ0x s_ prior_ v_ final_) false
theorem gQ18 (hb : Base E E0 G) (he : ∀ w, E w → EnvV w)   (s_ : SchemaG) (prior_ : Val) (v_ : Val) (final_ : Val) : ∀ r_ : Bool, gQ0w s_ prior_ v_ final_ = some r_ →
 Pure E E0 Tryz.prog 7 [.agg [vL q7 s_.attrs, vL qd s_.nested], .agg (aV prior_), .agg (aV v_), .agg (aV final_)] (c1 (vB r_)) := by
 refine fnE hb Tryz.func7 rfl fun r_ hq => ?_
 refine q58 hb (gQ0x s_ prior_ v_ final_) (fun z1 => ⟨none, [pk Tryz.f7 13, pk Tryz.f7 7], [], sl 223 [(4, pt 0), (5, pt 1), (6, pt 2), (7, pt 3), (47, c1 (vB z1))], [bx [vL q7 s_.attrs, vL qd s_.nested], bx (aV prior_), bx (aV v_), bx (aV final_)]⟩) (x := r_) (fun z1 hq => ?_) (fun KJ1 => ?_)
 refine ifE hb 0 [47] [] hq (fun hq _ => ?_) (fun hq _ => ?_)
 refine q6 hb 3 hq (gQ1g hb he ) fun y2 hy2 hq => ?_
 exact retE hb 2 (injO hq).symm
 refine q6 hb 6 hq (gQ5n hb he s_ v_) fun y3 hy3 hq => ?_
 refine ifE hb 15 [57] [] hq (fun hq _ => ?_) (fun hq _ => ?_)
 refine q6 hb 3 hq (gQ1g hb he ) fun y5 hy5 hq => ?_
 exact retE hb 2 (injO hq).symm
 refine q6 hb 7 hq (gQ65 hb he s_ prior_ y3.1) fun y6 hy6 hq => ?_
 refine q58 hb (gQ0z s_ prior_ final_ y3 y6) (fun z2 => ⟨none, [pk Tryz.f7 127], [], sl 223 [(4, pt 0), (5, pt 1), (7, pt 3), (9, pt 4), (11, pt 6), (12, c1 (vB z2))], [bx [vL q7 s_.attrs, vL qd s_.nested], bx (aV prior_), bx (aV v_), bx (aV final_), bx (aV y3.1), bx [vi y3.2.kind, vi y3.2.at_, vS y3.2.name], bx (aV y6)]⟩) (x := r_) (fun z2 hq => ?_) (fun KJ2 => ?_)
 refine q6 hb 6 hq (gQ5d hb he s_ y6 final_) fun y7 hy7 hq => ?_
 refine ifE hb 3 [86] [] hq (fun hq _ => ?_) (fun hq _ => ?_)
 exact retE hb 5 (injO hq).symm
 refine qj hb 8 (gQ14 s_ prior_ y3 y6) (fun s1 => sl 223 [(4, pt 0), (5, pt 1), (9, pt 4), (11, pt 6), (13, c1 (vi s1))]) (fun s1 => [bx [vL q7 s_.attrs, vL qd s_.nested], bx (aV prior_), none, none, bx (aV y3.1), none, bx (aV y6)]) [4, 5, 9, 11, 13] [2, 3, 5] 7 (s0 := 0) ⟨(by kernel_rfl), (by kernel_rfl), rfl, rfl, (by kernel_rfl), rfl, (by kernel_rfl), trivial⟩ hq (fun s1 x1 hq hn1 he1 => ?_)
 refine ifE hb 9 [91] [] hq (fun hq _ => ?_) (fun hq _ => ?_)
 refine idxE hb q7 9 hq fun x10 hx10 hq => ?_
 refine q58 hb (gQ10 s1) (fun z4 => ⟨none, [pk Tryz.f7 130707], [(1, [pk Tryz.f7 16339, pk Tryz.f7 2042]), (0, [pk Tryz.f7 511])], sl 223 [(4, pt 0), (5, pt 1), (9, pt 4), (11, pt 6), (13, c1 (vi s1)), (123, c1 (vB z4))], [bx [vL q7 s_.attrs, vL qd s_.nested], bx (aV prior_), none, none, bx (aV y3.1), none, bx (aV y6), bx [vS x10.name, vi x10.type_.kind, vL flT x10.type_.elems, vL flS x10.type_.names, vi x10.mode, vB x10.replace, vB x10.sensitive, vB x10.volatile]]⟩) (x := x1) (fun z4 hq => ?_) (fun KJ4 => ?_)
 refine ifE hb 0 [123] [] hq (fun hq _ => ?_) (fun hq _ => ?_)
 exact retE hb 5 (he1 _ (injO hq))
 exact q9 hb 8 [4, 5, 9, 11, 13] [] 7 (hn1 _ (injO hq)) ⟨(by kernel_rfl), (by kernel_rfl), rfl, rfl, (by kernel_rfl), rfl, (by kernel_rfl), trivial⟩
 refine qe hb mixed 5 21 [] ?_
 refine ifE hb 4 [101, 102] [] hq (fun hq _ => ?_) (fun hq _ => ?_)
 refine ifE hb 5 [105, 106, 107] [] hq (fun hq _ => ?_) (fun hq _ => ?_)
 refine ifE hb 5 [110, 111, 112] [] hq (fun hq _ => ?_) (fun hq _ => ?_)
 refine q6 hb 3 hq (gQ46 hb he y6 x10.name) fun y15 hy15 hq => ?_
 refine q6 hb 4 hq (gQ46 hb he prior_ x10.name) fun y16 hy16 hq => ?_
 refine q6 hb 0 hq (tQa7 hb he y15 y16) fun y17 hy17 hq => ?_
 exact cpE hb 3 [4, 5, 9, 11, 13, 123] (KJ4 (!y17) hq)
 exact cpE hb 13 [4, 5, 9, 11, 13, 123] (KJ4 false hq)
 exact cpE hb 18 [4, 5, 9, 11, 13, 123] (KJ4 false hq)
 exact cpE hb 23 [4, 5, 9, 11, 13, 123] (KJ4 false hq)
 refine ifE hb 8 [126, 127] [] hq (fun hq _ => ?_) (fun hq _ => ?_)
 refine q6 hb 1 hq (tQb1 hb he prior_) fun y19 hy19 hq => ?_
 refine cpE hb 9 [4, 5, 9, 11, 15, 16] (s' := ⟨none, [pk Tryz.f7 8186], [(2, [pk Tryz.f7 2047])], sl 223 [(4, pt 0), (5, pt 1), (9, pt 4), (11, pt 6), (15, c1 (vB y19)), (16, c1 (vi 0))], [bx [vL q7 s_.attrs, vL qd s_.nested], bx (aV prior_), none, none, bx (aV y3.1), none, bx (aV y6)]⟩) ?_
 refine qj hb 0 (gQ15 s_ prior_ y3 y6) (fun s2 => sl 223 [(4, pt 0), (5, pt 1), (9, pt 4), (11, pt 6), (15, c1 (vB s2.1)), (16, c1 (vi s2.2))]) (fun s2 => [bx [vL q7 s_.attrs, vL qd s_.nested], bx (aV prior_), none, none, bx (aV y3.1), none, bx (aV y6)]) [4, 5, 9, 11, 15, 16] [] 7 (s0 := (y19, 0)) ⟨(by kernel_rfl), (by kernel_rfl), rfl, rfl, (by kernel_rfl), rfl, (by kernel_rfl), trivial⟩ hq (fun s2 x2 hq hn2 he2 => ?_)
 refine ifE hb 9 [135] [] hq (fun hq _ => ?_) (fun hq _ => ?_)
 refine qe hb mixed 5 9 [] ?_
 refine idxE hb q7 4 hq fun x21 hx21 hq => ?_
 refine q6 hb 2 hq (gQ46 hb he y3.1 x21.name) fun y22 hy22 hq => ?_
 refine q58 hb (gQ11 s_ prior_ y22 s2) (fun z6 => ⟨none, [pk Tryz.f7 523923], [(3, [pk Tryz.f7 65491, pk Tryz.f7 8186]), (2, [pk Tryz.f7 2047])], sl 223 [(4, pt 0), (5, pt 1), (9, pt 4), (11, pt 6), (15, c1 (vB s2.1)), (16, c1 (vi s2.2)), (17, pt 7), (166, c1 (vB z6))], [bx [vL q7 s_.attrs, vL qd s_.nested], bx (aV prior_), none, none, bx (aV y3.1), none, bx (aV y6), bx (aV y22)]⟩) (x := x2) (fun z6 hq => ?_) (fun KJ6 => ?_)
 refine ifE hb 0 [166] [] hq (fun hq _ => ?_) (fun hq _ => ?_)
 refine qe hb mixed 1 11 [] ?_
 refine ifE hb 2 [15, 167, 168] [] hq (fun hq _ => ?_) (fun hq _ => ?_)
 refine idxE hb q7 5 hq fun x25 hx25 hq => ?_
 refine q6 hb 2 hq (gQ46 hb he prior_ x25.name) fun y26 hy26 hq => ?_
 refine q6 hb 1 hq (tQay hb he y22 y26) fun y27 hy27 hq => ?_
 exact q9 hb 9 [4, 5, 9, 11, 15, 16] [] 7 (hn2 _ (injO hq)) ⟨(by kernel_rfl), (by kernel_rfl), rfl, rfl, (by kernel_rfl), rfl, (by kernel_rfl), trivial⟩
 exact q9 hb 20 [4, 5, 9, 11, 15, 16] [] 7 (hn2 _ (injO hq)) ⟨(by kernel_rfl), (by kernel_rfl), rfl, rfl, (by kernel_rfl), rfl, (by kernel_rfl), trivial⟩
 exact q9 hb 8 [4, 5, 9, 11, 15, 16] [] 7 (hn2 _ (injO hq)) ⟨(by kernel_rfl), (by kernel_rfl), rfl, rfl, (by kernel_rfl), rfl, (by kernel_rfl), trivial⟩
 refine idxE hb q7 9 hq fun x28 hx28 hq => ?_
 refine ifE hb 4 [152, 153] [] hq (fun hq _ => ?_) (fun hq _ => ?_)
 refine idxE hb q7 3 hq fun x30 hx30 hq => ?_
 refine ifE hb 4 [160, 161] [] hq (fun hq _ => ?_) (fun hq _ => ?_)
 exact cpE hb 6 [4, 5, 9, 11, 15, 16, 17, 166] (KJ6 true hq)
 exact cpE hb 6 [4, 5, 9, 11, 15, 16, 17, 166] (KJ6 (!decide (y22.kind = 0)) hq)
 exact cpE hb 14 [4, 5, 9, 11, 15, 16, 17, 166] (KJ6 false hq)
 refine qj hb 8 (gQ16 s_ prior_ y3 y6) (fun s3 => sl 223 [(4, pt 0), (5, pt 1), (9, pt 4), (11, pt 6), (15, c1 (vB s3.1)), (18, c1 (vi s3.2))]) (fun s3 => [bx [vL q7 s_.attrs, vL qd s_.nested], bx (aV prior_), none, none, bx (aV y3.1), none, bx (aV y6)]) [4, 5, 9, 11, 15, 18] [] 7 (s0 := (s2.1, 0)) ⟨(by kernel_rfl), (by kernel_rfl), rfl, rfl, (by kernel_rfl), rfl, (by kernel_rfl), trivial⟩ hq (fun s3 x3 hq hn3 he3 => ?_)
 refine ifE hb 9 [184] [] hq (fun hq _ => ?_) (fun hq _ => ?_)
 refine qe hb mixed 4 17 [] ?_
 refine ifE hb 2 [15, 187, 188] [] hq (fun hq _ => ?_) (fun hq _ => ?_)
 refine idxE hb qd 4 hq fun x34 hx34 hq => ?_
 refine q6 hb 2 hq (gQ46 hb he y3.1 x34.name) fun y35 hy35 hq => ?_
 refine idxE hb qd 4 hq fun x36 hx36 hq => ?_
 refine q6 hb 3 hq (gQ46 hb he prior_ x36.name) fun y37 hy37 hq => ?_
 refine q6 hb 0 hq (tQay hb he y35 y37) fun y38 hy38 hq => ?_
 exact q9 hb 9 [4, 5, 9, 11, 15, 18] [] 7 (hn3 _ (injO hq)) ⟨(by kernel_rfl), (by kernel_rfl), rfl, rfl, (by kernel_rfl), rfl, (by kernel_rfl), trivial⟩
 exact q9 hb 27 [4, 5, 9, 11, 15, 18] [] 7 (hn3 _ (injO hq)) ⟨(by kernel_rfl), (by kernel_rfl), rfl, rfl, (by kernel_rfl), rfl, (by kernel_rfl), trivial⟩
 refine q58 hb gQ12 (fun z8 => ⟨none, [pk Tryz.f7 16381, pk Tryz.f7 8191], [], sl 223 [(221, c1 (vB z8))], [bx [vL q7 s_.attrs, vL qd s_.nested], bx (aV prior_), none, none, bx (aV y3.1), none, bx (aV y6)]⟩) (x := x3) (fun z8 hq => ?_) (fun KJ8 => ?_)
 refine ifE hb 0 [221] [] hq (fun hq _ => ?_) (fun hq _ => ?_)
 exact retE hb 5 (he1 _ ((he2 _ ((he3 _ (injO hq)).symm)).symm))
 refine q6 hb 4 hq (gQ1g hb he ) fun y40 hy40 hq => ?_
 exact retE hb 2 (he1 _ ((he2 _ ((he3 _ (injO hq)).symm)).symm))
 refine ifE hb 7 [15, 207, 208] [] hq (fun hq _ => ?_) (fun hq _ => ?_)
 refine q6 hb 2 hq (tQay hb he y6 prior_) fun y42 hy42 hq => ?_
 refine ifE hb 2 [212, 213] [] hq (fun hq _ => ?_) (fun hq _ => ?_)
 exact cpE hb 9 [221] (KJ8 true hq)
 refine q6 hb 3 hq (gQ5g hb he s_ prior_ y6) fun y44 hy44 hq => ?_
 exact cpE hb 5 [221] (KJ8 (!decide ((y44.length : Int) = 0)) hq)
 exact cpE hb 14 [221] (KJ8 false hq)
 refine cpE hb 11 [4, 5, 9, 11, 15, 16] (s' := ⟨none, [pk Tryz.f7 8186], [(2, [pk Tryz.f7 2047])], sl 223 [(4, pt 0), (5, pt 1), (9, pt 4), (11, pt 6), (15, c1 (vB false)), (16, c1 (vi 0))], [bx [vL q7 s_.attrs, vL qd s_.nested], bx (aV prior_), none, none, bx (aV y3.1), none, bx (aV y6)]⟩) ?_
 refine qj hb 0 (gQ17 s_ y3) (fun s2b => sl 223 [(4, pt 0), (5, pt 1), (9, pt 4), (11, pt 6), (15, c1 (vB false)), (16, c1 (vi s2b))]) (fun s2b => [bx [vL q7 s_.attrs, vL qd s_.nested], bx (aV prior_), none, none, bx (aV y3.1), none, bx (aV y6)]) [4, 5, 9, 11, 15, 16] [] 7 (s0 := 0) ⟨(by kernel_rfl), (by kernel_rfl), rfl, rfl, (by kernel_rfl), rfl, (by kernel_rfl), trivial⟩ hq (fun s2b x2 hq hn2 he2 => ?_)
 refine ifE hb 9 [135] [] hq (fun hq _ => ?_) (fun hq _ => ?_)
 refine qe hb mixed 5 9 [] ?_
 refine idxE hb q7 4 hq fun x46 hx46 hq => ?_
 refine q6 hb 2 hq (gQ46 hb he y3.1 x46.name) fun y47 hy47 hq => ?_
 refine q58 hb (gQ0y s2b) (fun z10 => ⟨none, [pk Tryz.f7 523923], [(3, [pk Tryz.f7 65491, pk Tryz.f7 8186]), (2, [pk Tryz.f7 2047])], sl 223 [(4, pt 0), (5, pt 1), (9, pt 4), (11, pt 6), (15, c1 (vB false)), (16, c1 (vi s2b)), (17, pt 7), (166, c1 (vB z10))], [bx [vL q7 s_.attrs, vL qd s_.nested], bx (aV prior_), none, none, bx (aV y3.1), none, bx (aV y6), bx (aV y47)]⟩) (x := x2) (fun z10 hq => ?_) (fun KJ10 => ?_)
 refine ifE hb 0 [166] [] hq (fun hq _ => ?_) (fun hq _ => ?_)
 refine qe hb mixed 1 11 [] ?_
 exact q9 hb 22 [4, 5, 9, 11, 15, 16] [] 7 (hn2 _ (injO hq)) ⟨(by kernel_rfl), (by kernel_rfl), rfl, rfl, (by kernel_rfl), rfl, (by kernel_rfl), trivial⟩
 exact q9 hb 8 [4, 5, 9, 11, 15, 16] [] 7 (hn2 _ (injO hq)) ⟨(by kernel_rfl), (by kernel_rfl), rfl, rfl, (by kernel_rfl), rfl, (by kernel_rfl), trivial⟩
 refine idxE hb q7 9 hq fun x49 hx49 hq => ?_
 refine ifE hb 4 [152, 153] [] hq (fun hq _ => ?_) (fun hq _ => ?_)
 refine idxE hb q7 3 hq fun x51 hx51 hq => ?_
 refine ifE hb 4 [160, 161] [] hq (fun hq _ => ?_) (fun hq _ => ?_)
 exact cpE hb 6 [4, 5, 9, 11, 15, 16, 17, 166] (KJ10 true hq)
 exact cpE hb 6 [4, 5, 9, 11, 15, 16, 17, 166] (KJ10 (!decide (y47.kind = 0)) hq)
 exact cpE hb 14 [4, 5, 9, 11, 15, 16, 17, 166] (KJ10 false hq)
 refine qj hb 8 (gQ13 s_) (fun s3b => sl 223 [(4, pt 0), (5, pt 1), (9, pt 4), (11, pt 6), (15, c1 (vB false)), (18, c1 (vi s3b))]) (fun s3b => [bx [vL q7 s_.attrs, vL qd s_.nested], bx (aV prior_), none, none, bx (aV y3.1), none, bx (aV y6)]) [4, 5, 9, 11, 15, 18] [] 7 (s0 := 0) ⟨(by kernel_rfl), (by kernel_rfl), rfl, rfl, (by kernel_rfl), rfl, (by kernel_rfl), trivial⟩ hq (fun s3b x3 hq hn3 he3 => ?_)
 refine ifE hb 9 [184] [] hq (fun hq _ => ?_) (fun hq _ => ?_)
 refine qe hb mixed 4 17 [] ?_
 exact q9 hb 29 [4, 5, 9, 11, 15, 18] [] 7 (hn3 _ (injO hq)) ⟨(by kernel_rfl), (by kernel_rfl), rfl, rfl, (by kernel_rfl), rfl, (by kernel_rfl), trivial⟩
 refine q6 hb 25 hq (gQ1g hb he ) fun y54 hy54 hq => ?_
 exact retE hb 2 (he1 _ ((he2 _ ((he3 _ (injO hq)).symm)).symm))
 refine qe hb mixed 4 16 [] ?_
 refine q6 hb 1 hq (q8u hb he final_) fun y55 hy55 hq => ?_
 refine ifE hb 2 [65, 66] [] hq (fun hq _ => ?_) (fun hq _ => ?_)
 refine q6 hb 1 hq (tQb1 hb he final_) fun y57 hy57 hq => ?_
 refine ifE hb 2 [68, 69, 70] [] hq (fun hq _ => ?_) (fun hq _ => ?_)
 refine q6 hb 2 hq (gQ6e hb he s_) fun y59 hy59 hq => ?_
 refine q6 hb 0 hq (tQas hb he final_ y59) fun y60 hy60 hq => ?_
 refine ifE hb 2 [74, 75, 76] [] hq (fun hq _ => ?_) (fun hq _ => ?_)
 refine q6 hb 3 hq (tQb4 hb he final_ y6) fun y62 hy62 hq => ?_
 exact cpE hb 3 [4, 5, 7, 9, 11, 12] (KJ2 y62 hq)
 exact cpE hb 7 [4, 5, 7, 9, 11, 12] (KJ2 false hq)
 exact cpE hb 13 [4, 5, 7, 9, 11, 12] (KJ2 false hq)
 exact cpE hb 17 [4, 5, 7, 9, 11, 12] (KJ2 false hq)
 refine q6 hb 12 hq (gQ1z hb he s_) fun y63 hy63 hq => ?_
 refine ifE hb 2 [21, 22] [] hq (fun hq _ => ?_) (fun hq _ => ?_)
 exact cpE hb 26 [4, 5, 6, 7, 47] (KJ1 true hq)
 refine q6 hb 1 hq (gQ1q hb he prior_) fun y65 hy65 hq => ?_
 refine ifE hb 3 [25, 26, 27] [] hq (fun hq _ => ?_) (fun hq _ => ?_)
 exact cpE hb 21 [4, 5, 6, 7, 47] (KJ1 true hq)
 refine q6 hb 1 hq (gQ1q hb he v_) fun y67 hy67 hq => ?_
 refine ifE hb 3 [30, 31, 32] [] hq (fun hq _ => ?_) (fun hq _ => ?_)
 exact cpE hb 16 [4, 5, 6, 7, 47] (KJ1 true hq)
 refine q6 hb 1 hq (qf1 hb he final_ 150) fun y69 hy69 hq => ?_
 refine ifE hb 3 [35, 36, 37] [] hq (fun hq _ => ?_) (fun hq _ => ?_)
 exact cpE hb 11 [4, 5, 6, 7, 47] (KJ1 true hq)
 refine ifE hb 4 [40, 41] [] hq (fun hq _ => ?_) (fun hq _ => ?_)
 refine q6 hb 2 hq (gQ1o hb he s_ prior_) fun y72 hy72 hq => ?_
 exact cpE hb 4 [4, 5, 6, 7, 47] (KJ1 (!y72) hq)
 exact cpE hb 7 [4, 5, 6, 7, 47] (KJ1 false hq)
noncomputable def gQ0q (y3 : List ByteArray) (y4 : List ByteArray) (s1 : Int × Int) : Option ((Int × Int) ⊕ (Bool)) :=
 bif (decide (s1.1 < (y3.length : Int))) then bif (decide (s1.1 > 0)) then (idx y3 s1.1).bind fun x13 => (idx y3 (IntKind.i64.wrap (s1.1 - 1))).bind fun x14 => bif (Op.bytesLess x13.toList x14.toList || decide (x13 = x14)) then some (.inr (false)) else bif (decide (s1.2 < (y4.length : Int))) then (idx y4 s1.2).bind fun x17 => (idx y3 s1.1).bind fun x18 => bif (decide (x17 = x18)) then some (.inl ((IntKind.i64.wrap (s1.1 + 1)), (IntKind.i64.wrap (s1.2 + 1)))) else some (.inl ((IntKind.i64.wrap (s1.1 + 1)), s1.2)) else some (.inl ((IntKind.i64.wrap (s1.1 + 1)), s1.2)) else bif (decide (s1.2 < (y4.length : Int))) then (idx y4 s1.2).bind fun x21 => (idx y3 s1.1).bind fun x22 => bif (decide (x21 = x22)) then some (.inl ((IntKind.i64.wrap (s1.1 + 1)), (IntKind.i64.wrap (s1.2 + 1)))) else some (.inl ((IntKind.i64.wrap (s1.1 + 1)), s1.2)) else some (.inl ((IntKind.i64.wrap (s1.1 + 1)), s1.2)) else bif (decide (s1.2 = (y4.length : Int))) then (gQ1e).bind fun y25 => some (.inr (y25)) else some (.inr (false))
noncomputable def gQ0p (s_ : SchemaG) (a_ : Val) (b_ : Val) (z1 : Bool) : Option (Bool) :=
 bif z1 then (gQ1e).bind fun y2 => some (y2) else (gQ5e s_ a_ b_).bind fun y3 => (gQ66 s_ a_ b_).bind fun y4 => (gQ5e s_ b_ a_).bind fun y5 => (gQ1t y3 y5).bind fun y6 => bif (!y6) then some (false) else (gQ66 s_ b_ a_).bind fun y8 => (gQ1t y4 y8).bind fun y9 => bif (!y9) then some (false) else qb (gQ0q y3 y4) (0, 0)
noncomputable def gQ0o  (s_ : SchemaG) (a_ : Val) (b_ : Val) : Option (Bool) :=
 (gQ1y s_).bind fun y26 => bif (!y26) then (gQ0p s_ a_ b_) true else (gQ1p a_).bind fun y28 => bif (!y28) then (gQ0p s_ a_ b_) true else (gQ1p b_).bind fun y30 => bif (!y30) then (gQ0p s_ a_ b_) true else bif (!decide (a_.kind = 0)) then bif (!decide (a_.kind = 5)) then (gQ0p s_ a_ b_) true else bif (!decide (b_.kind = 0)) then (gQ0p s_ a_ b_) (!decide (b_.kind = 5)) else (gQ0p s_ a_ b_) false else bif (!decide (b_.kind = 0)) then (gQ0p s_ a_ b_) (!decide (b_.kind = 5)) else (gQ0p s_ a_ b_) false
theorem gQ0r (hb : Base E E0 G) (he : ∀ w, E w → EnvV w)   (s_ : SchemaG) (a_ : Val) (b_ : Val) : ∀ r_ : Bool, gQ0o s_ a_ b_ = some r_ →
 Pure E E0 Tryz.prog 8 [.agg [vL q7 s_.attrs, vL qd s_.nested], .agg (aV a_), .agg (aV b_)] (c1 (vB r_)) := by
 refine fnE hb Tryz.func8 rfl fun r_ hq => ?_
 refine q58 hb (gQ0p s_ a_ b_) (fun z1 => ⟨none, [pk Tryz.f8 13, pk Tryz.f8 7], [], sl 113 [(3, pt 0), (4, pt 1), (5, pt 2), (43, c1 (vB z1))], [bx [vL q7 s_.attrs, vL qd s_.nested], bx (aV a_), bx (aV b_)]⟩) (x := r_) (fun z1 hq => ?_) (fun KJ1 => ?_)
 refine ifE hb 0 [43] [] hq (fun hq _ => ?_) (fun hq _ => ?_)
 refine q6 hb 3 hq (gQ1g hb he ) fun y2 hy2 hq => ?_
 exact retE hb 2 (injO hq).symm
 refine qe hb mixed 3 7 [] ?_
 refine q6 hb 3 hq (gQ5g hb he s_ a_ b_) fun y3 hy3 hq => ?_
 refine q6 hb 4 hq (gQ68 hb he s_ a_ b_) fun y4 hy4 hq => ?_
 refine q6 hb 10 hq (gQ5g hb he s_ b_ a_) fun y5 hy5 hq => ?_
 refine q6 hb 0 hq (gQ1v hb he y3 y5) fun y6 hy6 hq => ?_
 refine ifE hb 2 [59, 60] [] hq (fun hq _ => ?_) (fun hq _ => ?_)
 exact retE hb 14 (injO hq).symm
 refine q6 hb 4 hq (gQ68 hb he s_ b_ a_) fun y8 hy8 hq => ?_
 refine q6 hb 0 hq (gQ1v hb he y4 y8) fun y9 hy9 hq => ?_
 refine ifE hb 3 [67, 68] [] hq (fun hq _ => ?_) (fun hq _ => ?_)
 exact retE hb 5 (injO hq).symm
 refine cpE hb 12 [7, 8, 9, 10] (s' := ⟨none, [pk Tryz.f8 506], [(0, [pk Tryz.f8 127])], sl 113 [(7, c1 (vL flS y3)), (8, c1 (vL flS y4)), (9, c1 (vi 0)), (10, c1 (vi 0))], [bx [vL q7 s_.attrs, vL qd s_.nested], bx (aV a_), bx (aV b_)]⟩) ?_
 refine qj hb 0 (gQ0q y3 y4) (fun s1 => sl 113 [(7, c1 (vL flS y3)), (8, c1 (vL flS y4)), (9, c1 (vi s1.2)), (10, c1 (vi s1.1))]) (fun s1 => [none, none, none]) [7, 8, 9, 10] [0, 1, 2] 3 (s0 := (0, 0)) ⟨rfl, rfl, rfl, trivial⟩ hq (fun s1 x1 hq hn1 he1 => ?_)
 refine ifE hb 8 [72] [] hq (fun hq _ => ?_) (fun hq _ => ?_)
 refine qe hb mixed 6 12 [] ?_
 refine ifE hb 3 [76, 77] [] hq (fun hq _ => ?_) (fun hq _ => ?_)
 refine idxE hb flS 2 hq fun x13 hx13 hq => ?_
 refine idxE hb flS 4 hq fun x14 hx14 hq => ?_
 refine ifE hb 5 [87, 88] [] hq (fun hq _ => ?_) (fun hq _ => ?_)
 exact retE hb 5 (he1 _ (injO hq))
 refine qe hb mixed 3 13 [] ?_
 refine ifE hb 5 [92, 93] [] hq (fun hq _ => ?_) (fun hq _ => ?_)
 refine idxE hb flS 2 hq fun x17 hx17 hq => ?_
 refine idxE hb flS 3 hq fun x18 hx18 hq => ?_
 refine ifE hb 5 [102, 103] [] hq (fun hq _ => ?_) (fun hq _ => ?_)
 exact q9 hb 12 [7, 8, 9, 10] [] 3 (hn1 _ (injO hq)) ⟨rfl, rfl, rfl, trivial⟩
 exact q9 hb 8 [7, 8, 9, 10] [] 3 (hn1 _ (injO hq)) ⟨rfl, rfl, rfl, trivial⟩
 exact q9 hb 20 [7, 8, 9, 10] [] 3 (hn1 _ (injO hq)) ⟨rfl, rfl, rfl, trivial⟩
 refine qe hb mixed 16 13 [] ?_
 refine ifE hb 5 [92, 93] [] hq (fun hq _ => ?_) (fun hq _ => ?_)
 refine idxE hb flS 2 hq fun x21 hx21 hq => ?_
 refine idxE hb flS 3 hq fun x22 hx22 hq => ?_
 refine ifE hb 5 [102, 103] [] hq (fun hq _ => ?_) (fun hq _ => ?_)
 exact q9 hb 12 [7, 8, 9, 10] [] 3 (hn1 _ (injO hq)) ⟨rfl, rfl, rfl, trivial⟩
 exact q9 hb 8 [7, 8, 9, 10] [] 3 (hn1 _ (injO hq)) ⟨rfl, rfl, rfl, trivial⟩
 exact q9 hb 20 [7, 8, 9, 10] [] 3 (hn1 _ (injO hq)) ⟨rfl, rfl, rfl, trivial⟩
 refine ifE hb 9 [109, 110] [] hq (fun hq _ => ?_) (fun hq _ => ?_)
 refine q6 hb 0 hq (gQ1g hb he ) fun y25 hy25 hq => ?_
 exact retE hb 3 (he1 _ (injO hq))
 exact retE hb 4 (he1 _ (injO hq))
 refine q6 hb 11 hq (gQ1z hb he s_) fun y26 hy26 hq => ?_
 refine ifE hb 2 [13, 14] [] hq (fun hq _ => ?_) (fun hq _ => ?_)
 exact cpE hb 30 [3, 4, 5, 43] (KJ1 true hq)
 refine q6 hb 1 hq (gQ1q hb he a_) fun y28 hy28 hq => ?_
 refine ifE hb 3 [17, 18, 19] [] hq (fun hq _ => ?_) (fun hq _ => ?_)
 exact cpE hb 25 [3, 4, 5, 43] (KJ1 true hq)
 refine q6 hb 1 hq (gQ1q hb he b_) fun y30 hy30 hq => ?_
 refine ifE hb 3 [22, 23, 24] [] hq (fun hq _ => ?_) (fun hq _ => ?_)
 exact cpE hb 20 [3, 4, 5, 43] (KJ1 true hq)
 refine ifE hb 4 [27, 28] [] hq (fun hq _ => ?_) (fun hq _ => ?_)
 refine ifE hb 6 [31, 32, 33, 34] [] hq (fun hq _ => ?_) (fun hq _ => ?_)
 exact cpE hb 10 [3, 4, 5, 43] (KJ1 true hq)
 refine ifE hb 4 [37, 38] [] hq (fun hq _ => ?_) (fun hq _ => ?_)
 exact cpE hb 6 [3, 4, 5, 43] (KJ1 (!decide (b_.kind = 5)) hq)
 exact cpE hb 6 [3, 4, 5, 43] (KJ1 false hq)
 refine ifE hb 10 [37, 38] [] hq (fun hq _ => ?_) (fun hq _ => ?_)
 exact cpE hb 6 [3, 4, 5, 43] (KJ1 (!decide (b_.kind = 5)) hq)
 exact cpE hb 6 [3, 4, 5, 43] (KJ1 false hq)
end Abs
end Go.Proofs.YtkffpfapfljinaaGreatDoor
