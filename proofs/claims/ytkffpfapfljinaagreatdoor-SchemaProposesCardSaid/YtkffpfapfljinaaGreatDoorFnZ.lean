/-
  Schema: Go functions as functions over plain values, with the proof that the code computes them; printed by gen.py.
-/
import Derived.Test.YtkffpfapfljinaaGreatDoorFnA
import Derived.Test.YtkffpfapfljinaaGreatDoorAbsN
namespace Go.Proofs.YtkffpfapfljinaaGreatDoor
namespace Abs
open Go.RowKit
variable {E : World → Prop} {E0 : Nat} {G : Nat → Option (List PV)}
set_option maxRecDepth 100000
set_option linter.unusedVariables false
set_option linter.unusedSimpArgs false
attribute [local irreducible] adv J KE KO mPut mSto q5a mFrm qb5 hedS unl Pure Ok sl qb awpL awp asq asqD asqX asqF
noncomputable def gQ8p (r_types_Fits : Val → Ty → Option (Bool)) (t_ : List Ty) (x3 : Val) : Option (Bool) :=
 (idx t_ 0).bind fun x4 => (r_types_Fits x3 x4).bind fun y5 => some (!y5)
theorem gQ8q (hb : Base E E0 G) (he : ∀ w, E w → EnvV w) (r_types_Fits : Val → Ty → Option (Bool)) (hr_types_Fits : ∀ (a0 : Val) (a1 : Ty) (r : Bool), r_types_Fits a0 a1 = some r → Pure E E0 Tryz.prog 21 [.agg (aV a0), .agg (aT a1)] (c1 (vB r))) (t_ : List Ty) (x3 : Val) : ∀ r_ : Bool, gQ8p r_types_Fits t_ x3 = some r_ →
 Ok E E0 Tryz.prog 114 [.agg (aV x3), .cell (.ptr 0 0 0)] [bx [vL flT t_]] (c1 (vB r_)) [bx [vL flT t_]] := by
 refine fnO hb Tryz.func114 rfl fun r_ hq => ?_
 refine qe hb mixed 6 4 [] ?_
 refine idxE hb flT 2 hq fun x4 hx4 hq => ?_
 refine q6 hb 2 hq (hr_types_Fits x3 x4) fun y5 hy5 hq => ?_
 exact q4u hb 3 [3] [] 1 (injO hq).symm ⟨(by kernel_rfl), trivial⟩
noncomputable def gQ8n (r_types_Fits : Val → Ty → Option (Bool)) (l_ : List Val) (t_ : List Ty) (s1ii : Int) : Option ((Int) ⊕ (Int)) :=
 bif (decide (s1ii < (l_.length : Int))) then (idx l_ s1ii).bind fun x3 => (gQ8p r_types_Fits t_ x3).bind fun y6 => bif y6 then some (.inr (s1ii)) else some (.inl (IntKind.i64.wrap (s1ii + 1))) else some (.inr (-1))
noncomputable def gQ8m (r_types_Fits : Val → Ty → Option (Bool)) (l_ : List Val) (t_ : List Ty) : Option (Int) :=
 qb (gQ8n r_types_Fits l_ t_) 0
theorem gQ8o (hb : Base E E0 G) (he : ∀ w, E w → EnvV w) (r_types_Fits : Val → Ty → Option (Bool)) (hr_types_Fits : ∀ (a0 : Val) (a1 : Ty) (r : Bool), r_types_Fits a0 a1 = some r → Pure E E0 Tryz.prog 21 [.agg (aV a0), .agg (aT a1)] (c1 (vB r))) (l_ : List Val) (t_ : List Ty) : ∀ r_ : Int, gQ8m r_types_Fits l_ t_ = some r_ →
 Ok E E0 Tryz.prog 125 [.cell (vL flV l_), .cell (.fn 114 [(0, 0, 0)])] [bx [vL flT t_]] (c1 (vi r_)) [bx [vL flT t_]] := by
 refine fnO hb Tryz.func125 rfl fun r_ hq => ?_
 refine qj hb 12 (gQ8n r_types_Fits l_ t_) (fun s1ii => sl 19 [(0, c1 (vL flV l_)), (1, c1 (.fn 114 [(0, 0, 0)])), (7, c1 (vi (l_.length : Int))), (8, c1 (vi s1ii))]) (fun s1ii => [bx [vL flT t_]]) [0, 1, 7, 8] [] 1 (s0 := 0) ⟨(by kernel_rfl), trivial⟩ hq (fun s1ii x1 hq hn1 he1 => ?_)
 refine ifE hb 5 [9] [] hq (fun hq _ => ?_) (fun hq _ => ?_)
 refine idxE hb flV 14 hq fun x3 hx3 hq => ?_
 refine q6v hb 1 hq (gQ8q hb he r_types_Fits hr_types_Fits t_ x3) fun y6 hy6 hq => ?_
 refine ifE hb 1 [16] [] hq (fun hq _ => ?_) (fun hq _ => ?_)
 exact q4u hb 6 [4] [] 1 (he1 _ (injO hq)) ⟨(by kernel_rfl), trivial⟩
 exact q9 hb 7 [0, 1, 7, 8] [] 1 (hn1 _ (injO hq)) ⟨(by kernel_rfl), trivial⟩
 exact q4u hb 6 [4] [] 1 (he1 _ (injO hq)) ⟨(by kernel_rfl), trivial⟩
noncomputable def gQ8k (r_types_Fits : Val → Ty → Option (Bool)) (l_ : List Val) (t_ : List Ty) : Option (Bool) :=
 (gQ8m r_types_Fits l_ t_).bind fun y8 => some (decide (y8 ≥ 0))
theorem gQ8l (hb : Base E E0 G) (he : ∀ w, E w → EnvV w) (r_types_Fits : Val → Ty → Option (Bool)) (hr_types_Fits : ∀ (a0 : Val) (a1 : Ty) (r : Bool), r_types_Fits a0 a1 = some r → Pure E E0 Tryz.prog 21 [.agg (aV a0), .agg (aT a1)] (c1 (vB r))) (l_ : List Val) (t_ : List Ty) : ∀ r_ : Bool, gQ8k r_types_Fits l_ t_ = some r_ →
 Ok E E0 Tryz.prog 82 [.cell (vL flV l_), .cell (.fn 114 [(0, 0, 0)])] [bx [vL flT t_]] (c1 (vB r_)) [bx [vL flT t_]] := by
 refine fnO hb Tryz.func82 rfl fun r_ hq => ?_
 refine q6v hb 8 hq (gQ8o hb he r_types_Fits hr_types_Fits l_ t_) fun y8 hy8 hq => ?_
 exact q4u hb 3 [4] [] 1 (injO hq).symm ⟨(by kernel_rfl), trivial⟩
noncomputable def gQ8j (r_types_Fits : Val → Ty → Option (Bool)) (l_ : List Val) (t_ : List Ty) : Option (Bool) :=
 bif (decide ((t_.length : Int) > 0)) then (gQ8k r_types_Fits l_ t_).bind fun y9 => some (!y9) else some (false)
theorem gQ8r (hb : Base E E0 G) (he : ∀ w, E w → EnvV w) (r_types_Fits : Val → Ty → Option (Bool)) (hr_types_Fits : ∀ (a0 : Val) (a1 : Ty) (r : Bool), r_types_Fits a0 a1 = some r → Pure E E0 Tryz.prog 21 [.agg (aV a0), .agg (aT a1)] (c1 (vB r))) (l_ : List Val) (t_ : List Ty) : ∀ r_ : Bool, gQ8j r_types_Fits l_ t_ = some r_ →
 Pure E E0 Tryz.prog 68 [.cell (vL flV l_), .cell (vL flT t_)] (c1 (vB r_)) := by
 refine fnE hb Tryz.func68 rfl fun r_ hq => ?_
 refine ifE hb 11 [7, 8] [] hq (fun hq _ => ?_) (fun hq _ => ?_)
 refine q6v hb 2 hq (gQ8l hb he r_types_Fits hr_types_Fits l_ t_) fun y9 hy9 hq => ?_
 exact retE hb 4 (injO hq).symm
 exact retE hb 7 (injO hq).symm
noncomputable def gQ8d (r_types_Fits : Val → Ty → Option (Bool)) (v_ : Val) (t_ : Ty) (s1 : Int) : Option ((Int) ⊕ (Bool)) :=
 bif (decide (s1 < (v_.items.length : Int))) then (idx v_.items s1).bind fun x18 => (idx t_.elems s1).bind fun x19 => (r_types_Fits x18 x19).bind fun y20 => bif (!y20) then some (.inr (false)) else some (.inl (IntKind.i64.wrap (s1 + 1))) else some (.inr (true))
noncomputable def gQ8c (r_types_every : List Val → List Ty → Option (Bool)) (r_types_Fits : Val → Ty → Option (Bool)) (v_ : Val) (t_ : Ty) : Option (Bool) :=
 bif (decide (v_.kind = 0)) then some (true) else bif (decide (v_.kind = 6)) then some (true) else bif (decide (t_.kind = 0)) then some (true) else bif (decide (t_.kind = 1)) then some (decide (v_.kind = 1)) else bif (decide (t_.kind = 2)) then some (decide (v_.kind = 2)) else bif (decide (t_.kind = 3)) then some (decide (v_.kind = 3)) else bif (decide (t_.kind = 4)) then bif (decide (v_.kind = 4)) then (r_types_every v_.items t_.elems).bind fun y9 => some (y9) else some (false) else bif (decide (t_.kind = 5)) then bif (decide (v_.kind = 5)) then (r_types_every v_.items t_.elems).bind fun y12 => some (y12) else some (false) else bif (!decide (v_.kind = 5)) then some (false) else (gQ82 v_.keys t_.names).bind fun y14 => bif (!y14) then some (false) else bif (!decide ((v_.items.length : Int) = (t_.elems.length : Int))) then some (false) else qb (gQ8d r_types_Fits v_ t_) 0
theorem gQ8e (hb : Base E E0 G) (he : ∀ w, E w → EnvV w) (r_types_every : List Val → List Ty → Option (Bool)) (r_types_Fits : Val → Ty → Option (Bool)) (hr_types_every : ∀ (a0 : List Val) (a1 : List Ty) (r : Bool), r_types_every a0 a1 = some r → Pure E E0 Tryz.prog 68 [.cell (vL flV a0), .cell (vL flT a1)] (c1 (vB r))) (hr_types_Fits : ∀ (a0 : Val) (a1 : Ty) (r : Bool), r_types_Fits a0 a1 = some r → Pure E E0 Tryz.prog 21 [.agg (aV a0), .agg (aT a1)] (c1 (vB r))) (v_ : Val) (t_ : Ty) : ∀ r_ : Bool, gQ8c r_types_every r_types_Fits v_ t_ = some r_ →
 Pure E E0 Tryz.prog 21 [.agg (aV v_), .agg (aT t_)] (c1 (vB r_)) := by
 refine fnE hb Tryz.func21 rfl fun r_ hq => ?_
 refine ifE hb 13 [9, 10] [] hq (fun hq _ => ?_) (fun hq _ => ?_)
 exact retE hb 10 (injO hq).symm
 refine ifE hb 5 [13, 14] [] hq (fun hq _ => ?_) (fun hq _ => ?_)
 exact retE hb 5 (injO hq).symm
 refine ifE hb 14 [17, 18] [] hq (fun hq _ => ?_) (fun hq _ => ?_)
 exact retE hb 5 (injO hq).symm
 refine ifE hb 6 [19, 20] [] hq (fun hq _ => ?_) (fun hq _ => ?_)
 exact retE hb 8 (injO hq).symm
 refine ifE hb 6 [24, 25] [] hq (fun hq _ => ?_) (fun hq _ => ?_)
 exact retE hb 8 (injO hq).symm
 refine ifE hb 6 [29, 30] [] hq (fun hq _ => ?_) (fun hq _ => ?_)
 exact retE hb 8 (injO hq).symm
 refine ifE hb 6 [34, 35] [] hq (fun hq _ => ?_) (fun hq _ => ?_)
 refine ifE hb 7 [38, 39] [] hq (fun hq _ => ?_) (fun hq _ => ?_)
 refine q6 hb 4 hq (hr_types_every v_.items t_.elems) fun y9 hy9 hq => ?_
 exact retE hb 3 (injO hq).symm
 exact retE hb 8 (injO hq).symm
 refine ifE hb 6 [46, 47] [] hq (fun hq _ => ?_) (fun hq _ => ?_)
 refine ifE hb 7 [50, 51] [] hq (fun hq _ => ?_) (fun hq _ => ?_)
 refine q6 hb 4 hq (hr_types_every v_.items t_.elems) fun y12 hy12 hq => ?_
 exact retE hb 3 (injO hq).symm
 exact retE hb 8 (injO hq).symm
 refine ifE hb 10 [60, 61] [] hq (fun hq _ => ?_) (fun hq _ => ?_)
 exact retE hb 22 (injO hq).symm
 refine q6 hb 4 hq (gQ84 hb he v_.keys t_.names) fun y14 hy14 hq => ?_
 refine ifE hb 3 [67, 68, 69] [] hq (fun hq _ => ?_) (fun hq _ => ?_)
 exact retE hb 14 (injO hq).symm
 refine ifE hb 9 [76, 77] [] hq (fun hq _ => ?_) (fun hq _ => ?_)
 exact retE hb 5 (injO hq).symm
 refine cpE hb 11 [3, 79, 80, 81] (s' := ⟨none, [pk Tryz.f21 250], [(1, [pk Tryz.f21 63])], sl 95 [(3, pt 1), (79, c1 (vL flV v_.items)), (80, c1 (vi (v_.items.length : Int))), (81, c1 (vi 0))], [bx (aV v_), bx (aT t_)]⟩) ?_
 refine qj hb 0 (gQ8d r_types_Fits v_ t_) (fun s1 => sl 95 [(3, pt 1), (79, c1 (vL flV v_.items)), (80, c1 (vi (v_.items.length : Int))), (81, c1 (vi s1))]) (fun s1 => [none, bx (aT t_)]) [3, 79, 80, 81] [0] 2 (s0 := 0) ⟨rfl, (by kernel_rfl), trivial⟩ hq (fun s1 x1 hq hn1 he1 => ?_)
 refine ifE hb 5 [82] [] hq (fun hq _ => ?_) (fun hq _ => ?_)
 refine idxE hb flV 7 hq fun x18 hx18 hq => ?_
 refine qe hb mixed 6 6 [] ?_
 refine idxE hb flT 4 hq fun x19 hx19 hq => ?_
 refine q6 hb 2 hq (hr_types_Fits x18 x19) fun y20 hy20 hq => ?_
 refine ifE hb 2 [93] [] hq (fun hq _ => ?_) (fun hq _ => ?_)
 exact retE hb 5 (he1 _ (injO hq))
 exact q9 hb 7 [3, 79, 80, 81] [] 2 (hn1 _ (injO hq)) ⟨rfl, (by kernel_rfl), trivial⟩
 exact retE hb 6 (he1 _ (injO hq))
noncomputable def tQat (rec : Val → Ty → Option (Bool)) (a : Val) (b : Ty) : Option (Bool) :=
 gQ8c (gQ8j (fun a0 a1 => rec a0 a1)) (fun a0 a1 => rec a0 a1) a b
noncomputable def tQar (a0 : Val) (a1 : Ty) : Option (Bool) := tieF relV wfV tQat a0 a1
theorem tQas (hb : Base E E0 G) (he : ∀ w, E w → EnvV w) (a0 : Val) (a1 : Ty) (r : Bool) (hq : tQar a0 a1 = some r) : Pure E E0 Tryz.prog 21 [.agg (aV a0), .agg (aT a1)] (c1 (vB r)) :=
 q30 (C := fun a b r => Pure E E0 Tryz.prog 21 [.agg (aV a), .agg (aT b)] (c1 (vB r))) (fun rec hr a b r hq => gQ8e hb he (gQ8j (fun a0 a1 => rec a0 a1)) (fun a0 a1 => rec a0 a1) (gQ8r hb he (fun a0 a1 => rec a0 a1) (fun a0 a1 r e => hr a0 a1 r e)) (fun a0 a1 r e => hr a0 a1 r e) a b r hq) a0 a1 r hq
noncomputable def gQ9s (r_value_Refines : Val → Val → Option (Bool)) (s1_ : List Val) (s2_ : List Val) (s1i : Int) : Option ((Int) ⊕ (Bool)) :=
 bif (decide (s1i < (s1_.length : Int))) then (idx s1_ s1i).bind fun x3 => (idx s2_ s1i).bind fun x4 => (r_value_Refines x3 x4).bind fun y5 => bif (!y5) then some (.inr (false)) else some (.inl (IntKind.i64.wrap (s1i + 1))) else some (.inr (true))
noncomputable def gQ9r (r_value_Refines : Val → Val → Option (Bool)) (s1_ : List Val) (s2_ : List Val) : Option (Bool) :=
 bif (!decide ((s1_.length : Int) = (s2_.length : Int))) then some (false) else qb (gQ9s r_value_Refines s1_ s2_) 0
theorem gQ9t (hb : Base E E0 G) (he : ∀ w, E w → EnvV w) (r_value_Refines : Val → Val → Option (Bool)) (hr_value_Refines : ∀ (a0 : Val) (a1 : Val) (r : Bool), r_value_Refines a0 a1 = some r → Pure E E0 Tryz.prog 34 [.agg (aV a0), .agg (aV a1)] (c1 (vB r))) (s1_ : List Val) (s2_ : List Val) : ∀ r_ : Bool, gQ9r r_value_Refines s1_ s2_ = some r_ →
 Pure E E0 Tryz.prog 67 [.cell (vL flV s1_), .cell (vL flV s2_), .cell (.pv (.sc (.func (.func 34) #[] #[])))] (c1 (vB r_)) := by
 refine fnE hb Tryz.func67 rfl fun r_ hq => ?_
 refine ifE hb 13 [14] [] hq (fun hq _ => ?_) (fun hq _ => ?_)
 exact retE hb 5 (injO hq).symm
 refine qj hb 10 (gQ9s r_value_Refines s1_ s2_) (fun s1i => sl 32 [(1, c1 (vL flV s2_)), (2, c1 (.pv (.sc (.func (.func 34) #[] #[])))), (15, c1 (vL flV s1_)), (16, c1 (vi (s1_.length : Int))), (17, c1 (vi s1i))]) (fun s1i => []) [1, 2, 15, 16, 17] [] 0 (s0 := 0) trivial hq (fun s1i x1 hq hn1 he1 => ?_)
 refine ifE hb 5 [18] [] hq (fun hq _ => ?_) (fun hq _ => ?_)
 refine idxE hb flV 7 hq fun x3 hx3 hq => ?_
 refine idxE hb flV 9 hq fun x4 hx4 hq => ?_
 refine q6 hb 9 hq (hr_value_Refines x3 x4) fun y5 hy5 hq => ?_
 refine ifE hb 2 [30] [] hq (fun hq _ => ?_) (fun hq _ => ?_)
 exact retE hb 5 (he1 _ (injO hq))
 exact q9 hb 7 [1, 2, 15, 16, 17] [] 0 (hn1 _ (injO hq)) trivial
 exact retE hb 6 (he1 _ (injO hq))
noncomputable def gQ9p (r_value_Refines : Val → Val → Option (Bool)) (a_ : Val) (b_ : Val) : Option (Bool) :=
 bif (decide (b_.kind = 6)) then some (true) else bif (decide (a_.kind = b_.kind)) then bif (decide (a_.num = b_.num)) then bif (decide (a_.str = b_.str)) then (gQ82 a_.keys b_.keys).bind fun y5 => bif y5 then (gQ9r r_value_Refines a_.items b_.items).bind fun y7 => some (y7) else some (false) else some (false) else some (false) else some (false)
theorem gQ9q (hb : Base E E0 G) (he : ∀ w, E w → EnvV w) (r_value_Refines : Val → Val → Option (Bool)) (hr_value_Refines : ∀ (a0 : Val) (a1 : Val) (r : Bool), r_value_Refines a0 a1 = some r → Pure E E0 Tryz.prog 34 [.agg (aV a0), .agg (aV a1)] (c1 (vB r))) (a_ : Val) (b_ : Val) : ∀ r_ : Bool, gQ9p r_value_Refines a_ b_ = some r_ →
 Pure E E0 Tryz.prog 34 [.agg (aV a_), .agg (aV b_)] (c1 (vB r_)) := by
 refine fnE hb Tryz.func34 rfl fun r_ hq => ?_
 refine ifE hb 13 [7] [] hq (fun hq _ => ?_) (fun hq _ => ?_)
 exact retE hb 5 (injO hq).symm
 refine ifE hb 10 [12, 13] [] hq (fun hq _ => ?_) (fun hq _ => ?_)
 refine ifE hb 7 [18, 19, 20] [] hq (fun hq _ => ?_) (fun hq _ => ?_)
 refine ifE hb 7 [25, 26, 27] [] hq (fun hq _ => ?_) (fun hq _ => ?_)
 refine q6 hb 4 hq (gQ84 hb he a_.keys b_.keys) fun y5 hy5 hq => ?_
 refine ifE hb 2 [32, 33, 34] [] hq (fun hq _ => ?_) (fun hq _ => ?_)
 refine q6 hb 4 hq (gQ9t hb he r_value_Refines hr_value_Refines a_.items b_.items) fun y7 hy7 hq => ?_
 exact retE hb 3 (injO hq).symm
 exact retE hb 8 (injO hq).symm
 exact retE hb 15 (injO hq).symm
 exact retE hb 22 (injO hq).symm
 exact retE hb 29 (injO hq).symm
noncomputable def tQb5 (rec : Val → Val → Option (Bool)) (a : Val) (b : Val) : Option (Bool) :=
 gQ9p (fun a0 a1 => rec a0 a1) a b
noncomputable def tQb3 (a0 : Val) (a1 : Val) : Option (Bool) := tieF relV wfV tQb5 a0 a1
theorem tQb4 (hb : Base E E0 G) (he : ∀ w, E w → EnvV w) (a0 : Val) (a1 : Val) (r : Bool) (hq : tQb3 a0 a1 = some r) : Pure E E0 Tryz.prog 34 [.agg (aV a0), .agg (aV a1)] (c1 (vB r)) :=
 q30 (C := fun a b r => Pure E E0 Tryz.prog 34 [.agg (aV a), .agg (aV b)] (c1 (vB r))) (fun rec hr a b r hq => gQ9q hb he (fun a0 a1 => rec a0 a1) (fun a0 a1 r e => hr a0 a1 r e) a b r hq) a0 a1 r hq
noncomputable def gQ5c  (s_ : SchemaG) (planned_ : Val) (final_ : Val) : Option (Bool) :=
 (q28 final_).bind fun y1 => bif (decide (y1 = 0)) then (tQb0 final_).bind fun y3 => bif y3 then (gQ69 s_).bind fun y5 => (tQar final_ y5).bind fun y6 => bif y6 then (tQb3 final_ planned_).bind fun y8 => some (y8) else some (false) else some (false) else some (false)
theorem gQ5d (hb : Base E E0 G) (he : ∀ w, E w → EnvV w)   (s_ : SchemaG) (planned_ : Val) (final_ : Val) : ∀ r_ : Bool, gQ5c s_ planned_ final_ = some r_ →
 Pure E E0 Tryz.prog 35 [.agg [vL q7 s_.attrs, vL qd s_.nested], .agg (aV planned_), .agg (aV final_)] (c1 (vB r_)) := by
 refine fnE hb Tryz.func35 rfl fun r_ hq => ?_
 refine qe hb mixed 8 16 [] ?_
 refine q6 hb 1 hq (q8u hb he final_) fun y1 hy1 hq => ?_
 refine ifE hb 2 [9, 10] [] hq (fun hq _ => ?_) (fun hq _ => ?_)
 refine q6 hb 1 hq (tQb1 hb he final_) fun y3 hy3 hq => ?_
 refine ifE hb 2 [12, 13, 14] [] hq (fun hq _ => ?_) (fun hq _ => ?_)
 refine q6 hb 2 hq (gQ6e hb he s_) fun y5 hy5 hq => ?_
 refine q6 hb 0 hq (tQas hb he final_ y5) fun y6 hy6 hq => ?_
 refine ifE hb 2 [18, 19, 20] [] hq (fun hq _ => ?_) (fun hq _ => ?_)
 refine q6 hb 3 hq (tQb4 hb he final_ planned_) fun y8 hy8 hq => ?_
 exact retE hb 3 (injO hq).symm
 exact retE hb 7 (injO hq).symm
 exact retE hb 13 (injO hq).symm
 exact retE hb 17 (injO hq).symm
noncomputable def gQ1r   : Option (Ty) :=
 some (Ty.mk 3 [] [])
theorem gQ1s (hb : Base E E0 G) (he : ∀ w, E w → EnvV w)    : ∀ r_ : Ty, gQ1r = some r_ →
 Pure E E0 Tryz.prog 101 [] (.one (.agg (aT r_))) := by
 refine fnE hb Tryz.func101 rfl fun r_ hq => ?_
 exact retE hb 9 (injO hq).symm
noncomputable def gQ1h   : Option (SchemaG) :=
 (gQ1r).bind fun y1 => (gQ1r).bind fun y2 => some (SchemaG.mk [(AttrG.mk (⟨#[105, 100]⟩ : ByteArray) y1 3 false false false), (AttrG.mk (⟨#[110]⟩ : ByteArray) (Ty.mk 2 [] []) 2 false false false), (AttrG.mk (⟨#[110, 97, 109, 101]⟩ : ByteArray) y2 1 true false false)] [])
theorem gQ1i (hb : Base E E0 G) (he : ∀ w, E w → EnvV w)    : ∀ r_ : SchemaG, gQ1h = some r_ →
 Pure E E0 Tryz.prog 52 [] (.one (.agg [vL q7 r_.attrs, vL qd r_.nested])) := by
 refine fnE hb Tryz.func52 rfl fun r_ hq => ?_
 refine q6 hb 6 hq (gQ1s hb he ) fun y1 hy1 hq => ?_
 refine q6 hb 3 hq (gQ1s hb he ) fun y2 hy2 hq => ?_
 refine qn hb 5 0 0 (cs := [.pv (.sl true 3 [pS (⟨#[105, 100]⟩ : ByteArray), pI .i64 y1.kind, pL flT y1.elems, pL flS y1.names, pI .i64 3, pB false, pB false, pB false, pS (⟨#[110]⟩ : ByteArray), pI .i64 2, pL flT [], pL flS [], pI .i64 2, pB false, pB false, pB false, pS (⟨#[110, 97, 109, 101]⟩ : ByteArray), pI .i64 y2.kind, pL flT y2.elems, pL flS y2.names, pI .i64 1, pB true, pB false, pB false]), vN]) (c := .pv (.sl true 3 [pS (⟨#[105, 100]⟩ : ByteArray), pI .i64 y1.kind, pL flT y1.elems, pL flS y1.names, pI .i64 3, pB false, pB false, pB false, pS (⟨#[110]⟩ : ByteArray), pI .i64 2, pL flT [], pL flS [], pI .i64 2, pB false, pB false, pB false, pS (⟨#[110, 97, 109, 101]⟩ : ByteArray), pI .i64 y2.kind, pL flT y2.elems, pL flS y2.names, pI .i64 1, pB true, pB false, pB false])) (qcv q7 (q7.three (AttrG.mk (⟨#[105, 100]⟩ : ByteArray) y1 3 false false false) (AttrG.mk (⟨#[110]⟩ : ByteArray) (Ty.mk 2 [] []) 2 false false false) (AttrG.mk (⟨#[110, 97, 109, 101]⟩ : ByteArray) y2 1 true false false)).symm) (by kernel_rfl) ?_
 exact retE hb 0 (injO hq).symm
noncomputable def gQ20  (s_ : ByteArray) : Option (Val) :=
 some (Val.mk 3 0 s_ [] [])
theorem gQ21 (hb : Base E E0 G) (he : ∀ w, E w → EnvV w)   (s_ : ByteArray) : ∀ r_ : Val, gQ20 s_ = some r_ →
 Pure E E0 Tryz.prog 53 [.cell (vS s_)] (.one (.agg (aV r_))) := by
 refine fnE hb Tryz.func53 rfl fun r_ hq => ?_
 exact retE hb 10 (injO hq).symm
noncomputable def gQ1w  (id_ : Val) (n_ : Val) (name_ : Val) : Option (Val) :=
 some (Val.mk 5 0 eS [id_, n_, name_] [(⟨#[105, 100]⟩ : ByteArray), (⟨#[110]⟩ : ByteArray), (⟨#[110, 97, 109, 101]⟩ : ByteArray)])
theorem gQ1x (hb : Base E E0 G) (he : ∀ w, E w → EnvV w)   (id_ : Val) (n_ : Val) (name_ : Val) : ∀ r_ : Val, gQ1w id_ n_ name_ = some r_ →
 Pure E E0 Tryz.prog 54 [.agg (aV id_), .agg (aV n_), .agg (aV name_)] (.one (.agg (aV r_))) := by
 refine fnE hb Tryz.func54 rfl fun r_ hq => ?_
 refine qn hb 17 3 3 (cs := [vi 5, vi 0, vS eS, .pv (.sl true 3 [pI .i64 id_.kind, pI .i64 id_.num, pS id_.str, pL flV id_.items, pL flS id_.keys, pI .i64 n_.kind, pI .i64 n_.num, pS n_.str, pL flV n_.items, pL flS n_.keys, pI .i64 name_.kind, pI .i64 name_.num, pS name_.str, pL flV name_.items, pL flS name_.keys]), .pv (.sl true 3 [pS (⟨#[105, 100]⟩ : ByteArray), pS (⟨#[110]⟩ : ByteArray), pS (⟨#[110, 97, 109, 101]⟩ : ByteArray)])]) (c := .pv (.sl true 3 [pI .i64 id_.kind, pI .i64 id_.num, pS id_.str, pL flV id_.items, pL flS id_.keys, pI .i64 n_.kind, pI .i64 n_.num, pS n_.str, pL flV n_.items, pL flS n_.keys, pI .i64 name_.kind, pI .i64 name_.num, pS name_.str, pL flV name_.items, pL flS name_.keys])) (qcv flV (flV.three id_ n_ name_).symm) (by kernel_rfl) ?_
 refine qn hb 0 3 4 (cs := [vi 5, vi 0, vS eS, vL flV [id_, n_, name_], .pv (.sl true 3 [pS (⟨#[105, 100]⟩ : ByteArray), pS (⟨#[110]⟩ : ByteArray), pS (⟨#[110, 97, 109, 101]⟩ : ByteArray)])]) (c := .pv (.sl true 3 [pS (⟨#[105, 100]⟩ : ByteArray), pS (⟨#[110]⟩ : ByteArray), pS (⟨#[110, 97, 109, 101]⟩ : ByteArray)])) (qcv flS (flS.three (⟨#[105, 100]⟩ : ByteArray) (⟨#[110]⟩ : ByteArray) (⟨#[110, 97, 109, 101]⟩ : ByteArray)).symm) (by kernel_rfl) ?_
 exact retE hb 0 (injO hq).symm
noncomputable def gQ1f  (z1 : Bool) : Option (Bool) :=
 some (z1)
noncomputable def gQ1e   : Option (Bool) :=
 (gQ1h).bind fun y1 => (gQ20 (⟨#[53]⟩ : ByteArray)).bind fun y2 => (gQ20 (⟨#[120]⟩ : ByteArray)).bind fun y3 => (gQ5k y1 (Val.mk 5 0 eS [y2, y3] [(⟨#[110]⟩ : ByteArray), (⟨#[110, 97, 109, 101]⟩ : ByteArray)])).bind fun y4 => (gQ5k y1 (Val.mk 5 0 eS [] [])).bind fun y5 => (gQ62 y1 (Val.mk 0 0 eS [] []) y4.1).bind fun y6 => (gQ20 (⟨#[49]⟩ : ByteArray)).bind fun y7 => (gQ20 (⟨#[120]⟩ : ByteArray)).bind fun y8 => (gQ1w y7 (Val.mk 2 5 eS [] []) y8).bind fun y9 => (gQ20 (⟨#[49]⟩ : ByteArray)).bind fun y10 => (gQ20 (⟨#[121]⟩ : ByteArray)).bind fun y11 => (gQ1w y10 (Val.mk 2 5 eS [] []) y11).bind fun y12 => (gQ66 y1 y9 y12).bind fun y13 => (gQ5h y1).bind fun y14 => bif (decide (y14 = 0)) then (gQ5h (SchemaG.mk [] [])).bind fun y16 => bif (decide (y16 = 12)) then bif (decide ((y4.2.kind : Int) = 0) && (decide ((y4.2.at_ : Int) = 0) && (decide (y4.2.name = eS) && true))) then (gQ20 (⟨#[120]⟩ : ByteArray)).bind fun y19 => (gQ1w (Val.mk 0 0 eS [] []) (Val.mk 2 5 eS [] []) y19).bind fun y20 => (tQa6 y4.1 y20).bind fun y21 => bif y21 then bif (decide ((y5.2.kind : Int) = 12) && (decide ((y5.2.at_ : Int) = 0) && (decide (y5.2.name = (⟨#[110, 97, 109, 101]⟩ : ByteArray)) && true))) then (gQ20 (⟨#[120]⟩ : ByteArray)).bind fun y24 => (gQ1w (Val.mk 6 0 eS [] []) (Val.mk 2 5 eS [] []) y24).bind fun y25 => (tQa6 y6 y25).bind fun y26 => bif y26 then bif (decide ((y13.length : Int) = 1)) then (idx y13 0).bind fun x29 => bif (decide (x29 = (⟨#[110, 97, 109, 101]⟩ : ByteArray))) then (gQ20 (⟨#[49]⟩ : ByteArray)).bind fun y31 => (gQ20 (⟨#[120]⟩ : ByteArray)).bind fun y32 => (gQ1w y31 (Val.mk 2 5 eS [] []) y32).bind fun y33 => (gQ5c y1 y6 y33).bind fun y34 => gQ1f y34 else gQ1f false else gQ1f false else gQ1f false else gQ1f false else gQ1f false else gQ1f false else gQ1f false else gQ1f false
theorem gQ1g (hb : Base E E0 G) (he : ∀ w, E w → EnvV w)    : ∀ r_ : Bool, gQ1e = some r_ →
 Pure E E0 Tryz.prog 14 [] (c1 (vB r_)) := by
 refine fnE hb Tryz.func14 rfl fun r_ hq => ?_
 refine q6 hb 6 hq (gQ1i hb he ) fun y1 hy1 hq => ?_
 refine qe hb mixed 4 12 [9] ?_
 refine q6 hb 2 hq (gQ21 hb he (⟨#[53]⟩ : ByteArray)) fun y2 hy2 hq => ?_
 refine q6 hb 0 hq (gQ21 hb he (⟨#[120]⟩ : ByteArray)) fun y3 hy3 hq => ?_
 have hp := (gQ5n hb he y1 (Val.mk 5 0 eS [y2, y3] [(⟨#[110]⟩ : ByteArray), (⟨#[110, 97, 109, 101]⟩ : ByteArray)]))
 simp only [aV, aT, kind_mk, qk6, qlr, qj0, qj5, Ty.kind_mk, Ty.elems_mk, Ty.names_mk, vL_one, vL_two, qvi, qvh, qvg, vL_six] at hp
 refine q6 hb 2 hq hp fun y4 hy4 hq => ?_
 refine q6 hb 13 hq (gQ5n hb he y1 (Val.mk 5 0 eS [] [])) fun y5 hy5 hq => ?_
 refine q6 hb 19 hq (gQ65 hb he y1 (Val.mk 0 0 eS [] []) y4.1) fun y6 hy6 hq => ?_
 refine qe hb mixed 4 9 [] ?_
 refine q6 hb 1 hq (gQ21 hb he (⟨#[49]⟩ : ByteArray)) fun y7 hy7 hq => ?_
 refine q6 hb 1 hq (gQ21 hb he (⟨#[120]⟩ : ByteArray)) fun y8 hy8 hq => ?_
 refine q6 hb 0 hq (gQ1x hb he y7 (Val.mk 2 5 eS [] []) y8) fun y9 hy9 hq => ?_
 refine q6 hb 0 hq (gQ21 hb he (⟨#[49]⟩ : ByteArray)) fun y10 hy10 hq => ?_
 refine q6 hb 1 hq (gQ21 hb he (⟨#[121]⟩ : ByteArray)) fun y11 hy11 hq => ?_
 refine q6 hb 0 hq (gQ1x hb he y10 (Val.mk 2 5 eS [] []) y11) fun y12 hy12 hq => ?_
 refine q6 hb 1 hq (gQ68 hb he y1 y9 y12) fun y13 hy13 hq => ?_
 refine q58 hb gQ1f (fun z1 => ⟨none, [pk Tryz.f14 511], [], sl 95 [(0, c1 (vB z1))], [bx [vL q7 y1.attrs, vL qd y1.nested], bx (aV y4.1), bx [vi y4.2.kind, vi y4.2.at_, vS y4.2.name], bx (aV y5.1), bx [vi y5.2.kind, vi y5.2.at_, vS y5.2.name], bx [vi 2, vi 5, vS eS, vN, vN], bx (aV y6)]⟩) (x := r_) (fun z1 hq => ?_) (fun KJ1 => ?_)
 exact retE hb 0 (injO hq).symm
 refine qe hb mixed 3 52 [] ?_
 refine q6 hb 1 hq (gQ5j hb he y1) fun y14 hy14 hq => ?_
 refine ifE hb 2 [43, 44] [] hq (fun hq _ => ?_) (fun hq _ => ?_)
 refine q6 hb 1 hq (gQ5j hb he (SchemaG.mk [] [])) fun y16 hy16 hq => ?_
 refine ifE hb 3 [47, 48, 49] [] hq (fun hq _ => ?_) (fun hq _ => ?_)
 refine ifE hb 5 [52, 53, 54] [] hq (fun hq _ => ?_) (fun hq _ => ?_)
 refine q6 hb 3 hq (gQ21 hb he (⟨#[120]⟩ : ByteArray)) fun y19 hy19 hq => ?_
 refine q6 hb 0 hq (gQ1x hb he (Val.mk 0 0 eS [] []) (Val.mk 2 5 eS [] []) y19) fun y20 hy20 hq => ?_
 refine q6 hb 0 hq (tQa7 hb he y4.1 y20) fun y21 hy21 hq => ?_
 refine ifE hb 2 [60, 61, 62] [] hq (fun hq _ => ?_) (fun hq _ => ?_)
 refine ifE hb 5 [65, 66, 67] [] hq (fun hq _ => ?_) (fun hq _ => ?_)
 refine q6 hb 3 hq (gQ21 hb he (⟨#[120]⟩ : ByteArray)) fun y24 hy24 hq => ?_
 refine q6 hb 0 hq (gQ1x hb he (Val.mk 6 0 eS [] []) (Val.mk 2 5 eS [] []) y24) fun y25 hy25 hq => ?_
 refine q6 hb 0 hq (tQa7 hb he y6 y25) fun y26 hy26 hq => ?_
 refine ifE hb 2 [73, 74, 75] [] hq (fun hq _ => ?_) (fun hq _ => ?_)
 refine ifE hb 5 [78, 79, 80] [] hq (fun hq _ => ?_) (fun hq _ => ?_)
 refine idxE hb flS 1 hq fun x29 hx29 hq => ?_
 refine ifE hb 4 [84, 85, 86] [] hq (fun hq _ => ?_) (fun hq _ => ?_)
 refine q6 hb 2 hq (gQ21 hb he (⟨#[49]⟩ : ByteArray)) fun y31 hy31 hq => ?_
 refine q6 hb 1 hq (gQ21 hb he (⟨#[120]⟩ : ByteArray)) fun y32 hy32 hq => ?_
 refine q6 hb 0 hq (gQ1x hb he y31 (Val.mk 2 5 eS [] []) y32) fun y33 hy33 hq => ?_
 refine q6 hb 1 hq (gQ5d hb he y1 y6 y33) fun y34 hy34 hq => ?_
 exact cpE hb 3 [0] (KJ1 y34 hq)
 exact cpE hb 11 [0] (KJ1 false hq)
 exact cpE hb 17 [0] (KJ1 false hq)
 exact cpE hb 22 [0] (KJ1 false hq)
 exact cpE hb 30 [0] (KJ1 false hq)
 exact cpE hb 35 [0] (KJ1 false hq)
 exact cpE hb 43 [0] (KJ1 false hq)
 exact cpE hb 48 [0] (KJ1 false hq)
 exact cpE hb 53 [0] (KJ1 false hq)
noncomputable def gQ1y  (s_ : SchemaG) : Option (Bool) :=
 (gQ1j s_).bind fun y1 => bif y1 then (gQ3o s_).bind fun y3 => some (decide (y3 = 0)) else some (false)
theorem gQ1z (hb : Base E E0 G) (he : ∀ w, E w → EnvV w)   (s_ : SchemaG) : ∀ r_ : Bool, gQ1y s_ = some r_ →
 Pure E E0 Tryz.prog 15 [.agg [vL q7 s_.attrs, vL qd s_.nested]] (c1 (vB r_)) := by
 refine fnE hb Tryz.func15 rfl fun r_ hq => ?_
 refine q6 hb 8 hq (gQ1l hb he s_) fun y1 hy1 hq => ?_
 refine ifE hb 1 [4, 5] [] hq (fun hq _ => ?_) (fun hq _ => ?_)
 refine q6 hb 1 hq (gQ3q hb he s_) fun y3 hy3 hq => ?_
 exact retE hb 4 (injO hq).symm
 exact retE hb 6 (injO hq).symm
noncomputable def gQ5a  (k_ : Int) (name_ : ByteArray) : Option (DiagG) :=
 some (DiagG.mk k_ 0 name_)
theorem gQ5b (hb : Base E E0 G) (he : ∀ w, E w → EnvV w)   (k_ : Int) (name_ : ByteArray) : ∀ r_ : DiagG, gQ5a k_ name_ = some r_ →
 Pure E E0 Tryz.prog 63 [.cell (vi k_), .cell (vS name_)] (.one (.agg [vi r_.kind, vi r_.at_, vS r_.name])) := by
 refine fnE hb Tryz.func63 rfl fun r_ hq => ?_
 exact retE hb 11 (injO hq).symm
noncomputable def gQ43 (s_ : SchemaG) (name_ : ByteArray) (s1 : Int) : Option ((Int) ⊕ (NestedG × Bool)) :=
 bif (decide (s1 < (s_.nested.length : Int))) then (idx s_.nested s1).bind fun x2 => bif (decide (x2.name = name_)) then (idx s_.nested s1).bind fun x4 => some (.inr (x4, true)) else some (.inl (IntKind.i64.wrap (s1 + 1))) else some (.inr ((NestedG.mk eS 0 0 [] false), false))
noncomputable def gQ42  (s_ : SchemaG) (name_ : ByteArray) : Option (NestedG × Bool) :=
 qb (gQ43 s_ name_) 0
theorem gQ44 (hb : Base E E0 G) (he : ∀ w, E w → EnvV w)   (s_ : SchemaG) (name_ : ByteArray) : ∀ r_ : NestedG × Bool, gQ42 s_ name_ = some r_ →
 Pure E E0 Tryz.prog 64 [.agg [vL q7 s_.attrs, vL qd s_.nested], .cell (vS name_)] (.tup [.agg [vS r_.1.name, vi r_.1.min, vi r_.1.max, vL q7 r_.1.attrs, vB r_.1.replace], .cell (vB r_.2)]) := by
 refine fnE hb Tryz.func64 rfl fun r_ hq => ?_
 refine qj hb 12 (gQ43 s_ name_) (fun s1 => sl 28 [(1, c1 (vS name_)), (2, pt 0), (4, pt 1), (6, c1 (vi s1))]) (fun s1 => [bx [vL q7 s_.attrs, vL qd s_.nested], bx [vS eS, vi 0, vi 0, vN, vB false]]) [1, 2, 4, 6] [] 2 (s0 := 0) ⟨(by kernel_rfl), (by kernel_rfl), trivial⟩ hq (fun s1 x1 hq hn1 he1 => ?_)
 refine ifE hb 9 [11] [] hq (fun hq _ => ?_) (fun hq _ => ?_)
 refine idxE hb qd 9 hq fun x2 hx2 hq => ?_
 refine ifE hb 5 [21] [] hq (fun hq _ => ?_) (fun hq _ => ?_)
 refine idxE hb qd 6 hq fun x4 hx4 hq => ?_
 exact retE hb 4 (he1 _ (injO hq))
 exact q9 hb 8 [1, 2, 4, 6] [] 2 (hn1 _ (injO hq)) ⟨(by kernel_rfl), (by kernel_rfl), trivial⟩
 exact retE hb 8 (he1 _ (injO hq))
noncomputable def gQ2c (v_ : Val) (key_ : ByteArray) (s1 : Int) : Option ((Int) ⊕ (Val × Bool)) :=
 bif (decide (s1 < (v_.keys.length : Int))) then bif (decide (s1 < (v_.items.length : Int))) then (idx v_.keys s1).bind fun x4 => bif (decide (x4 = key_)) then (idx v_.items s1).bind fun x6 => some (.inr (x6, true)) else some (.inl (IntKind.i64.wrap (s1 + 1))) else some (.inr ((Val.mk 0 0 eS [] []), false)) else some (.inr ((Val.mk 0 0 eS [] []), false))
noncomputable def gQ2b  (v_ : Val) (key_ : ByteArray) : Option (Val × Bool) :=
 bif (!decide (v_.kind = 5)) then some ((Val.mk 0 0 eS [] []), false) else qb (gQ2c v_ key_) 0
theorem gQ2d (hb : Base E E0 G) (he : ∀ w, E w → EnvV w)   (v_ : Val) (key_ : ByteArray) : ∀ r_ : Val × Bool, gQ2b v_ key_ = some r_ →
 Pure E E0 Tryz.prog 84 [.agg (aV v_), .cell (vS key_)] (.tup [.agg (aV r_.1), .cell (vB r_.2)]) := by
 refine fnE hb Tryz.func84 rfl fun r_ hq => ?_
 refine ifE hb 13 [9] [] hq (fun hq _ => ?_) (fun hq _ => ?_)
 exact retE hb 7 (injO hq).symm
 refine qj hb 8 (gQ2c v_ key_) (fun s1 => sl 38 [(1, c1 (vS key_)), (2, pt 0), (4, pt 1), (6, c1 (vi s1))]) (fun s1 => [bx (aV v_), bx zV]) [1, 2, 4, 6] [] 2 (s0 := 0) ⟨(by kernel_rfl), (by kernel_rfl), trivial⟩ hq (fun s1 x1 hq hn1 he1 => ?_)
 refine ifE hb 9 [15, 16] [] hq (fun hq _ => ?_) (fun hq _ => ?_)
 refine ifE hb 7 [21, 22] [] hq (fun hq _ => ?_) (fun hq _ => ?_)
 refine idxE hb flS 9 hq fun x4 hx4 hq => ?_
 refine ifE hb 4 [31] [] hq (fun hq _ => ?_) (fun hq _ => ?_)
 refine idxE hb flV 6 hq fun x6 hx6 hq => ?_
 exact retE hb 4 (he1 _ (injO hq))
 exact q9 hb 8 [1, 2, 4, 6] [] 2 (hn1 _ (injO hq)) ⟨(by kernel_rfl), (by kernel_rfl), trivial⟩
 exact retE hb 8 (he1 _ (injO hq))
 exact retE hb 15 (he1 _ (injO hq))
noncomputable def gQ45  (v_ : Val) (name_ : ByteArray) : Option (Val) :=
 bif (!decide (v_.kind = 5)) then some (Val.mk 0 0 eS [] []) else (gQ2b v_ name_).bind fun y2 => bif (!y2.2) then some (Val.mk 0 0 eS [] []) else some (y2.1)
theorem gQ46 (hb : Base E E0 G) (he : ∀ w, E w → EnvV w)   (v_ : Val) (name_ : ByteArray) : ∀ r_ : Val, gQ45 v_ name_ = some r_ →
 Pure E E0 Tryz.prog 36 [.agg (aV v_), .cell (vS name_)] (.one (.agg (aV r_))) := by
 refine fnE hb Tryz.func36 rfl fun r_ hq => ?_
 refine ifE hb 12 [9] [] hq (fun hq _ => ?_) (fun hq _ => ?_)
 exact retE hb 6 (injO hq).symm
 refine q6 hb 6 hq (gQ2d hb he v_ name_) fun y2 hy2 hq => ?_
 refine ifE hb 13 [18] [] hq (fun hq _ => ?_) (fun hq _ => ?_)
 exact retE hb 6 (injO hq).symm
 exact retE hb 7 (injO hq).symm
noncomputable def gQ33 (l_ : List ByteArray) (s_ : ByteArray) (s1 : Int) : Option ((Int) ⊕ (Bool)) :=
 bif (decide (s1 < (l_.length : Int))) then (idx l_ s1).bind fun x2 => bif (decide (x2 = s_)) then some (.inr (true)) else some (.inl (IntKind.i64.wrap (s1 + 1))) else some (.inr (false))
noncomputable def gQ32  (l_ : List ByteArray) (s_ : ByteArray) : Option (Bool) :=
 qb (gQ33 l_ s_) 0
theorem gQ34 (hb : Base E E0 G) (he : ∀ w, E w → EnvV w)   (l_ : List ByteArray) (s_ : ByteArray) : ∀ r_ : Bool, gQ32 l_ s_ = some r_ →
 Pure E E0 Tryz.prog 198 [.cell (vL flS l_), .cell (vS s_)] (c1 (vB r_)) := by
 refine fnE hb Tryz.func198 rfl fun r_ hq => ?_
 refine qj hb 10 (gQ33 l_ s_) (fun s1 => sl 18 [(0, c1 (vL flS l_)), (1, c1 (vS s_)), (5, c1 (vi s1))]) (fun s1 => []) [0, 1, 5] [] 0 (s0 := 0) trivial hq (fun s1 x1 hq hn1 he1 => ?_)
 refine ifE hb 8 [9] [] hq (fun hq _ => ?_) (fun hq _ => ?_)
 refine idxE hb flS 8 hq fun x2 hx2 hq => ?_
 refine ifE hb 4 [17] [] hq (fun hq _ => ?_) (fun hq _ => ?_)
 exact retE hb 5 (he1 _ (injO hq))
 exact q9 hb 8 [0, 1, 5] [] 0 (hn1 _ (injO hq)) trivial
 exact retE hb 6 (he1 _ (injO hq))
noncomputable def gQ3g  (v_ : Val) : Option (ByteArray) :=
 bif (decide (v_.kind = 2)) then (q78 v_.num).bind fun y2 => some (y2) else bif (decide (v_.num = 1)) then some (⟨#[116, 114, 117, 101]⟩ : ByteArray) else some (⟨#[102, 97, 108, 115, 101]⟩ : ByteArray)
theorem gQ3h (hb : Base E E0 G) (he : ∀ w, E w → EnvV w)   (v_ : Val) : ∀ r_ : ByteArray, gQ3g v_ = some r_ →
 Pure E E0 Tryz.prog 200 [.agg (aV v_)] (c1 (vS r_)) := by
 refine fnE hb Tryz.func200 rfl fun r_ hq => ?_
 refine ifE hb 12 [5] [] hq (fun hq _ => ?_) (fun hq _ => ?_)
 refine q6 hb 5 hq (qtc hb he v_.num) fun y2 hy2 hq => ?_
 exact retE hb 2 (injO hq).symm
 refine ifE hb 9 [11] [] hq (fun hq _ => ?_) (fun hq _ => ?_)
 exact retE hb 5 (injO hq).symm
 exact retE hb 6 (injO hq).symm
noncomputable def gQ39  (v_ : Val) (k_ : Int) : Option (Val × Int) :=
 bif (decide (k_ = 1)) then bif (decide (v_.kind = 1)) then some (v_, 0) else bif (decide (v_.kind = 3)) then bif (decide (v_.str = (⟨#[116, 114, 117, 101]⟩ : ByteArray))) then some ((Val.mk 1 1 eS [] []), 0) else bif (decide (v_.str = (⟨#[102, 97, 108, 115, 101]⟩ : ByteArray))) then some ((Val.mk 1 0 eS [] []), 0) else some ((Val.mk 0 0 eS [] []), 6) else some ((Val.mk 0 0 eS [] []), 6) else bif (decide (k_ = 2)) then bif (decide (v_.kind = 2)) then some (v_, 0) else (q5c v_.str).bind fun y8 => bif (decide (v_.kind = 3)) then bif (decide (y8.2 = 0)) then some ((Val.mk 2 y8.1 eS [] []), 0) else some ((Val.mk 0 0 eS [] []), 6) else some ((Val.mk 0 0 eS [] []), 6) else bif (decide (v_.kind = 3)) then some (v_, 0) else bif (decide (v_.kind = 2)) then (gQ3g v_).bind fun y13 => some ((Val.mk 3 0 y13 [] []), 0) else bif (decide (v_.kind = 1)) then (gQ3g v_).bind fun y15 => some ((Val.mk 3 0 y15 [] []), 0) else some ((Val.mk 0 0 eS [] []), 6)
theorem gQ3a (hb : Base E E0 G) (he : ∀ w, E w → EnvV w)   (v_ : Val) (k_ : Int) : ∀ r_ : Val × Int, gQ39 v_ k_ = some r_ →
 Pure E E0 Tryz.prog 190 [.agg (aV v_), .cell (vi k_)] (.tup [.agg (aV r_.1), .cell (vi r_.2)]) := by
 refine fnE hb Tryz.func190 rfl fun r_ hq => ?_
 refine ifE hb 17 [25, 26] [] hq (fun hq _ => ?_) (fun hq _ => ?_)
 refine ifE hb 8 [29] [] hq (fun hq _ => ?_) (fun hq _ => ?_)
 exact retE hb 7 (injO hq).symm
 refine ifE hb 8 [33, 34] [] hq (fun hq _ => ?_) (fun hq _ => ?_)
 refine ifE hb 4 [37, 38] [] hq (fun hq hc4 => ?_) (fun hq hc4 => ?_)
 refine knE hb 20 [47] [] (b := (decide (v_.str = (⟨#[116, 114, 117, 101]⟩ : ByteArray)))) (v := true) hc4 ?_
 exact retE hb 11 (injO hq).symm
 refine ifE hb 6 [41, 42, 43] [] hq (fun hq _ => ?_) (fun hq _ => ?_)
 refine knE hb 14 [47] [] (b := (decide (v_.str = (⟨#[116, 114, 117, 101]⟩ : ByteArray)))) (v := false) hc4 ?_
 exact retE hb 8 (injO hq).symm
 exact retE hb 9 (injO hq).symm
 exact retE hb 19 (injO hq).symm
 refine ifE hb 6 [50, 51] [] hq (fun hq _ => ?_) (fun hq _ => ?_)
 refine ifE hb 8 [54] [] hq (fun hq _ => ?_) (fun hq _ => ?_)
 exact retE hb 7 (injO hq).symm
 refine q6 hb 6 hq (qte hb he v_.str) fun y8 hy8 hq => ?_
 refine ifE hb 12 [64, 65] [] hq (fun hq _ => ?_) (fun hq _ => ?_)
 refine ifE hb 4 [67, 68] [] hq (fun hq _ => ?_) (fun hq _ => ?_)
 exact retE hb 8 (injO hq).symm
 exact retE hb 9 (injO hq).symm
 exact retE hb 13 (injO hq).symm
 refine ifE hb 8 [12] [] hq (fun hq _ => ?_) (fun hq _ => ?_)
 exact retE hb 7 (injO hq).symm
 refine ifE hb 8 [16, 17] [] hq (fun hq _ => ?_) (fun hq _ => ?_)
 refine q6 hb 9 hq (gQ3h hb he v_) fun y13 hy13 hq => ?_
 exact retE hb 4 (injO hq).symm
 refine ifE hb 5 [20, 21] [] hq (fun hq _ => ?_) (fun hq _ => ?_)
 refine q6 hb 4 hq (gQ3h hb he v_) fun y15 hy15 hq => ?_
 exact retE hb 4 (injO hq).symm
 exact retE hb 9 (injO hq).symm
noncomputable def gQ37 (r_r11_to : Val → Ty → Option (Val × Int)) (v_ : Val) (t_ : Ty) (s2 : Int × List Val × List ByteArray) : Option ((Int × List Val × List ByteArray) ⊕ ((Int) ⊕ (Val × Int))) :=
 bif (decide (s2.1 < (t_.names.length : Int))) then bif (decide (s2.1 < (t_.elems.length : Int))) then (idx t_.names s2.1).bind fun x7 => (gQ2b v_ x7).bind fun y8 => (idx t_.elems s2.1).bind fun x9 => (r_r11_to y8.1 x9).bind fun y10 => bif (!decide (y10.2 = 0)) then some (.inr (.inr ((Val.mk 0 0 eS [] []), y10.2))) else (idx t_.names s2.1).bind fun x12 => (app 16 s2.2.2 [x12]).bind fun l13 => (app 80 s2.2.1 [y10.1]).bind fun l14 => some (.inl ((IntKind.i64.wrap (s2.1 + 1)), l14, l13)) else some (.inr (.inr ((Val.mk 5 0 eS s2.2.1 s2.2.2), 0))) else some (.inr (.inr ((Val.mk 5 0 eS s2.2.1 s2.2.2), 0)))
noncomputable def gQ36 (r_r11_to : Val → Ty → Option (Val × Int)) (v_ : Val) (t_ : Ty) (s1 : Int) : Option ((Int) ⊕ (Val × Int)) :=
 bif (decide (s1 < (v_.keys.length : Int))) then (idx v_.keys s1).bind fun x2 => (gQ32 t_.names x2).bind fun y3 => bif (!y3) then some (.inr ((Val.mk 0 0 eS [] []), 13)) else some (.inl (IntKind.i64.wrap (s1 + 1))) else qb (gQ37 r_r11_to v_ t_) (0, [], [])
noncomputable def gQ35 (r_r11_to : Val → Ty → Option (Val × Int)) (v_ : Val) (t_ : Ty) : Option (Val × Int) :=
 qb (gQ36 r_r11_to v_ t_) 0
theorem gQ38 (hb : Base E E0 G) (he : ∀ w, E w → EnvV w) (r_r11_to : Val → Ty → Option (Val × Int)) (hr_r11_to : ∀ (a0 : Val) (a1 : Ty) (r : Val × Int), r_r11_to a0 a1 = some r → Pure E E0 Tryz.prog 174 [.agg (aV a0), .agg (aT a1)] (.tup [.agg (aV r.1), .cell (vi r.2)])) (v_ : Val) (t_ : Ty) : ∀ r_ : Val × Int, gQ35 r_r11_to v_ t_ = some r_ →
 Pure E E0 Tryz.prog 189 [.agg (aV v_), .agg (aT t_)] (.tup [.agg (aV r_.1), .cell (vi r_.2)]) := by
 refine fnE hb Tryz.func189 rfl fun r_ hq => ?_
 refine qj hb 13 (gQ36 r_r11_to v_ t_) (fun s1 => sl 86 [(2, pt 0), (3, pt 1), (4, pt 2), (6, c1 (vi s1))]) (fun s1 => [bx (aV v_), bx (aT t_), bx zV]) [2, 3, 4, 6] [] 3 (s0 := 0) ⟨(by kernel_rfl), (by kernel_rfl), (by kernel_rfl), trivial⟩ hq (fun s1 x1 hq hn1 he1 => ?_)
 refine ifE hb 9 [17] [] hq (fun hq _ => ?_) (fun hq _ => ?_)
 refine qe hb mixed 5 7 [] ?_
 refine idxE hb flS 5 hq fun x2 hx2 hq => ?_
 refine q6 hb 2 hq (gQ34 hb he t_.names x2) fun y3 hy3 hq => ?_
 refine ifE hb 2 [28] [] hq (fun hq _ => ?_) (fun hq _ => ?_)
 exact retE hb 7 (he1 _ (injO hq))
 exact q9 hb 8 [2, 3, 4, 6] [] 3 (hn1 _ (injO hq)) ⟨(by kernel_rfl), (by kernel_rfl), (by kernel_rfl), trivial⟩
 refine q17 hb 14 3 3 5 (cs := [vi 5, vi 0, vS eS, vN, vN]) (by kernel_rfl) ?_
 refine q17 hb 0 3 4 1 (cs := [vi 5, vi 0, vS eS, vO flV 4 [], vN]) (by kernel_rfl) ?_
 refine qj hb 0 (gQ37 r_r11_to v_ t_) (fun s2 => sl 86 [(2, pt 0), (3, pt 1), (4, pt 2), (7, pt 3), (8, c1 (vi s2.1))]) (fun s2 => [bx (aV v_), bx (aT t_), bx zV, bx [vi 5, vi 0, vS eS, vO flV 4 s2.2.1, vO flS 5 s2.2.2], some (arO true flV.sz 0 (flV.f s2.2.1)), some (arO true flS.sz 0 (flS.f s2.2.2))]) [2, 3, 4, 7, 8] [] 6 (s0 := (0, [], [])) ⟨(by kernel_rfl), (by kernel_rfl), (by kernel_rfl), (by kernel_rfl), (q8 _ _ _ _ _), (q8 _ _ _ _ _), trivial⟩ hq (fun s2 x2 hq hn2 he2 => ?_)
 refine ifE hb 9 [35, 36] [] hq (fun hq _ => ?_) (fun hq _ => ?_)
 refine ifE hb 7 [41, 42] [] hq (fun hq _ => ?_) (fun hq _ => ?_)
 refine qe hb mixed 5 11 [9] ?_
 refine idxE hb flS 4 hq fun x7 hx7 hq => ?_
 refine q6 hb 1 hq (gQ2d hb he v_ x7) fun y8 hy8 hq => ?_
 refine qe hb mixed 9 11 [9] ?_
 refine idxE hb flT 4 hq fun x9 hx9 hq => ?_
 refine q6 hb 1 hq (hr_r11_to y8.1 x9) fun y10 hy10 hq => ?_
 refine ifE hb 14 [66] [] hq (fun hq _ => ?_) (fun hq _ => ?_)
 exact retE hb 8 (he1 _ ((he2 _ (injO hq)).symm))
 refine qe hb mixed 3 8 [] ?_
 refine idxE hb flS 5 hq fun x12 hx12 hq => ?_
 refine qg flS hb 3 5 true 0 (flS.one x12) hq fun l13 hl13 hq => ?_
 refine qg flV hb 8 4 true 0 (flV.one y10.1) hq fun l14 hl14 hq => ?_
 exact q9 hb 9 [2, 3, 4, 7, 8] [] 6 (hn2 _ (injO hq)) ⟨(by kernel_rfl), (by kernel_rfl), (by kernel_rfl), (by kernel_rfl), (q8 _ _ _ _ _), (q8 _ _ _ _ _), trivial⟩
 refine qq hb 8 4 true (sz := flV.sz) (fr := 0) (cs := flV.f s2.2.1) (by kernel_rfl) (Nat.zero_le _) ?_
 refine qn hb 0 2 3 (cs := [vi 5, vi 0, vS eS, vO flV 4 s2.2.1, vO flS 5 s2.2.2]) (c := vO flV 4 s2.2.1) (qr flV (nb := true) (id := 4) (xs := s2.2.1) (by kernel_rfl)) (by kernel_rfl) ?_
 refine qq hb 0 5 true (sz := flS.sz) (fr := 0) (cs := flS.f s2.2.2) (by kernel_rfl) (Nat.zero_le _) ?_
 refine qn hb 0 2 4 (cs := [vi 5, vi 0, vS eS, vL flV s2.2.1, vO flS 5 s2.2.2]) (c := vO flS 5 s2.2.2) (qr flS (nb := true) (id := 5) (xs := s2.2.2) (by kernel_rfl)) (by kernel_rfl) ?_
 exact retE hb 0 (he1 _ ((he2 _ (injO hq)).symm))
 refine qq hb 15 4 true (sz := flV.sz) (fr := 0) (cs := flV.f s2.2.1) (by kernel_rfl) (Nat.zero_le _) ?_
 refine qn hb 0 2 3 (cs := [vi 5, vi 0, vS eS, vO flV 4 s2.2.1, vO flS 5 s2.2.2]) (c := vO flV 4 s2.2.1) (qr flV (nb := true) (id := 4) (xs := s2.2.1) (by kernel_rfl)) (by kernel_rfl) ?_
 refine qq hb 0 5 true (sz := flS.sz) (fr := 0) (cs := flS.f s2.2.2) (by kernel_rfl) (Nat.zero_le _) ?_
 refine qn hb 0 2 4 (cs := [vi 5, vi 0, vS eS, vL flV s2.2.1, vO flS 5 s2.2.2]) (c := vO flS 5 s2.2.2) (qr flS (nb := true) (id := 5) (xs := s2.2.2) (by kernel_rfl)) (by kernel_rfl) ?_
 exact retE hb 0 (he1 _ ((he2 _ (injO hq)).symm))
noncomputable def gQ3c (r_r11_to : Val → Ty → Option (Val × Int)) (v_ : Val) (t_ : Ty) (s1 : Int × List Val) : Option ((Int × List Val) ⊕ (Val × Int)) :=
 bif (decide (s1.1 < (v_.items.length : Int))) then (idx v_.items s1.1).bind fun x13 => (idx t_.elems 0).bind fun x14 => (r_r11_to x13 x14).bind fun y15 => bif (!decide (y15.2 = 0)) then some (.inr ((Val.mk 0 0 eS [] []), y15.2)) else (app 80 s1.2 [y15.1]).bind fun l17 => some (.inl ((IntKind.i64.wrap (s1.1 + 1)), l17)) else some (.inr ((Val.mk v_.kind 0 eS s1.2 v_.keys), 0))
noncomputable def gQ3d (r_r11_to : Val → Ty → Option (Val × Int)) (v_ : Val) (t_ : Ty) (s1 : Int × List Val) : Option ((Int × List Val) ⊕ (Val × Int)) :=
 bif (decide (s1.1 < (v_.items.length : Int))) then (idx v_.items s1.1).bind fun x23 => (idx t_.elems 0).bind fun x24 => (r_r11_to x23 x24).bind fun y25 => bif (!decide (y25.2 = 0)) then some (.inr ((Val.mk 0 0 eS [] []), y25.2)) else (app 80 s1.2 [y25.1]).bind fun l27 => some (.inl ((IntKind.i64.wrap (s1.1 + 1)), l27)) else some (.inr ((Val.mk v_.kind 0 eS s1.2 v_.keys), 0))
noncomputable def gQ3e (r_r11_to : Val → Ty → Option (Val × Int)) (v_ : Val) (t_ : Ty) (s1 : Int × List Val) : Option ((Int × List Val) ⊕ (Val × Int)) :=
 bif (decide (s1.1 < (v_.items.length : Int))) then (idx v_.items s1.1).bind fun x30 => (idx t_.elems 0).bind fun x31 => (r_r11_to x30 x31).bind fun y32 => bif (!decide (y32.2 = 0)) then some (.inr ((Val.mk 0 0 eS [] []), y32.2)) else (app 80 s1.2 [y32.1]).bind fun l34 => some (.inl ((IntKind.i64.wrap (s1.1 + 1)), l34)) else some (.inr ((Val.mk v_.kind 0 eS s1.2 v_.keys), 0))
noncomputable def gQ3b (r_r11_object : Val → Ty → Option (Val × Int)) (r_r11_to : Val → Ty → Option (Val × Int)) (v_ : Val) (t_ : Ty) : Option (Val × Int) :=
 bif (decide (t_.kind = 0)) then some (v_, 0) else bif (decide (v_.kind = 0)) then some (v_, 0) else bif (decide (v_.kind = 6)) then some (v_, 0) else bif (decide (t_.kind = 6)) then bif (!decide (v_.kind = 5)) then some ((Val.mk 0 0 eS [] []), 6) else (r_r11_object v_ t_).bind fun y6 => some (y6.1, y6.2) else bif (!decide (t_.kind = 4)) then bif (!decide (t_.kind = 5)) then (gQ39 v_ t_.kind).bind fun y9 => some (y9.1, y9.2) else bif (!decide (v_.kind = 5)) then some ((Val.mk 0 0 eS [] []), 6) else bif (!decide ((t_.elems.length : Int) = 1)) then some ((Val.mk 0 0 eS [] []), 6) else qb (gQ3c r_r11_to v_ t_) (0, []) else bif (!decide (v_.kind = 4)) then some ((Val.mk 0 0 eS [] []), 6) else bif (decide (t_.kind = 5)) then bif (!decide (v_.kind = 5)) then some ((Val.mk 0 0 eS [] []), 6) else bif (!decide ((t_.elems.length : Int) = 1)) then some ((Val.mk 0 0 eS [] []), 6) else qb (gQ3d r_r11_to v_ t_) (0, []) else bif (!decide ((t_.elems.length : Int) = 1)) then some ((Val.mk 0 0 eS [] []), 6) else qb (gQ3e r_r11_to v_ t_) (0, [])
theorem gQ3f (hb : Base E E0 G) (he : ∀ w, E w → EnvV w) (r_r11_object : Val → Ty → Option (Val × Int)) (r_r11_to : Val → Ty → Option (Val × Int)) (hr_r11_object : ∀ (a0 : Val) (a1 : Ty) (r : Val × Int), r_r11_object a0 a1 = some r → Pure E E0 Tryz.prog 189 [.agg (aV a0), .agg (aT a1)] (.tup [.agg (aV r.1), .cell (vi r.2)])) (hr_r11_to : ∀ (a0 : Val) (a1 : Ty) (r : Val × Int), r_r11_to a0 a1 = some r → Pure E E0 Tryz.prog 174 [.agg (aV a0), .agg (aT a1)] (.tup [.agg (aV r.1), .cell (vi r.2)])) (v_ : Val) (t_ : Ty) : ∀ r_ : Val × Int, gQ3b r_r11_object r_r11_to v_ t_ = some r_ →
 Pure E E0 Tryz.prog 174 [.agg (aV v_), .agg (aT t_)] (.tup [.agg (aV r_.1), .cell (vi r_.2)]) := by
 refine fnE hb Tryz.func174 rfl fun r_ hq => ?_
 refine ifE hb 14 [12, 13] [] hq (fun hq _ => ?_) (fun hq _ => ?_)
 exact retE hb 17 (injO hq).symm
 refine ifE hb 5 [16, 17, 18] [] hq (fun hq _ => ?_) (fun hq _ => ?_)
 exact retE hb 12 (injO hq).symm
 refine ifE hb 5 [21, 22] [] hq (fun hq _ => ?_) (fun hq _ => ?_)
 exact retE hb 7 (injO hq).symm
 refine ifE hb 9 [26] [] hq (fun hq _ => ?_) (fun hq _ => ?_)
 refine ifE hb 8 [29] [] hq (fun hq _ => ?_) (fun hq _ => ?_)
 exact retE hb 7 (injO hq).symm
 refine q6 hb 6 hq (hr_r11_object v_ t_) fun y6 hy6 hq => ?_
 exact retE hb 5 (injO hq).symm
 refine ifE hb 9 [38, 39] [] hq (fun hq hc7 => ?_) (fun hq hc7 => ?_)
 refine ifE hb 5 [42, 43] [] hq (fun hq _ => ?_) (fun hq hc8 => ?_)
 refine q6 hb 6 hq (gQ3a hb he v_ t_.kind) fun y9 hy9 hq => ?_
 exact retE hb 5 (injO hq).symm
 refine knE hb 9 [52, 53] [] (b := (decide (t_.kind = 4))) (v := false) (not_t hc7) ?_
 refine knE hb 9 [61, 62] [] (b := (decide (t_.kind = 5))) (v := true) (not_f hc8) ?_
 refine ifE hb 6 [65, 66, 67, 68] [] hq (fun hq _ => ?_) (fun hq _ => ?_)
 exact retE hb 13 (injO hq).symm
 refine ifE hb 6 [72, 73] [] hq (fun hq _ => ?_) (fun hq _ => ?_)
 exact retE hb 7 (injO hq).symm
 refine cpE hb 18 [2, 3, 4, 6, 7] (s' := ⟨none, [pk Tryz.f174 1018], [(0, [pk Tryz.f174 255])], sl 111 [(2, pt 0), (3, pt 1), (4, pt 2), (6, pt 3), (7, c1 (vi 0))], [bx (aV v_), bx (aT t_), bx zV, bx [vi v_.kind, vi 0, vS eS, vN, vL flS v_.keys]]⟩) ?_
 refine q17 hb 0 3 3 5 (cs := [vi v_.kind, vi 0, vS eS, vN, vL flS v_.keys]) (by kernel_rfl) ?_
 refine qj hb 0 (gQ3c r_r11_to v_ t_) (fun s1 => sl 111 [(2, pt 0), (3, pt 1), (4, pt 2), (6, pt 3), (7, c1 (vi s1.1))]) (fun s1 => [bx (aV v_), bx (aT t_), bx zV, bx [vi v_.kind, vi 0, vS eS, vO flV 4 s1.2, vL flS v_.keys], some (arO true flV.sz 0 (flV.f s1.2))]) [2, 3, 4, 6, 7] [] 5 (s0 := (0, [])) ⟨(by kernel_rfl), (by kernel_rfl), (by kernel_rfl), (by kernel_rfl), (q8 _ _ _ _ _), trivial⟩ hq (fun s1 x1 hq hn1 he1 => ?_)
 refine ifE hb 9 [84] [] hq (fun hq _ => ?_) (fun hq _ => ?_)
 refine qe hb mixed 5 14 [12] ?_
 refine idxE hb flV 3 hq fun x13 hx13 hq => ?_
 refine idxE hb flT 3 hq fun x14 hx14 hq => ?_
 refine q6 hb 1 hq (hr_r11_to x13 x14) fun y15 hy15 hq => ?_
 refine ifE hb 14 [101] [] hq (fun hq _ => ?_) (fun hq _ => ?_)
 exact retE hb 8 (he1 _ (injO hq))
 refine qg flV hb 7 4 true 0 (flV.one y15.1) hq fun l17 hl17 hq => ?_
 exact q9 hb 9 [2, 3, 4, 6, 7] [] 5 (hn1 _ (injO hq)) ⟨(by kernel_rfl), (by kernel_rfl), (by kernel_rfl), (by kernel_rfl), (q8 _ _ _ _ _), trivial⟩
 refine qq hb 8 4 true (sz := flV.sz) (fr := 0) (cs := flV.f s1.2) (by kernel_rfl) (Nat.zero_le _) ?_
 refine qn hb 0 2 3 (cs := [vi v_.kind, vi 0, vS eS, vO flV 4 s1.2, vL flS v_.keys]) (c := vO flV 4 s1.2) (qr flV (nb := true) (id := 4) (xs := s1.2) (by kernel_rfl)) (by kernel_rfl) ?_
 exact retE hb 0 (he1 _ (injO hq))
 refine knE hb 14 [52, 53] [] (b := (decide (t_.kind = 4))) (v := true) (not_f hc7) ?_
 refine ifE hb 5 [56, 57, 58] [] hq (fun hq _ => ?_) (fun hq _ => ?_)
 exact retE hb 23 (injO hq).symm
 refine ifE hb 4 [61, 62] [] hq (fun hq _ => ?_) (fun hq _ => ?_)
 refine ifE hb 6 [65, 66, 67, 68] [] hq (fun hq _ => ?_) (fun hq _ => ?_)
 exact retE hb 13 (injO hq).symm
 refine ifE hb 6 [72, 73] [] hq (fun hq _ => ?_) (fun hq _ => ?_)
 exact retE hb 7 (injO hq).symm
 refine cpE hb 18 [2, 3, 4, 6, 7] (s' := ⟨none, [pk Tryz.f174 1018], [(0, [pk Tryz.f174 255])], sl 111 [(2, pt 0), (3, pt 1), (4, pt 2), (6, pt 3), (7, c1 (vi 0))], [bx (aV v_), bx (aT t_), bx zV, bx [vi v_.kind, vi 0, vS eS, vN, vL flS v_.keys]]⟩) ?_
 refine q17 hb 0 3 3 5 (cs := [vi v_.kind, vi 0, vS eS, vN, vL flS v_.keys]) (by kernel_rfl) ?_
 refine qj hb 0 (gQ3d r_r11_to v_ t_) (fun s1 => sl 111 [(2, pt 0), (3, pt 1), (4, pt 2), (6, pt 3), (7, c1 (vi s1.1))]) (fun s1 => [bx (aV v_), bx (aT t_), bx zV, bx [vi v_.kind, vi 0, vS eS, vO flV 4 s1.2, vL flS v_.keys], some (arO true flV.sz 0 (flV.f s1.2))]) [2, 3, 4, 6, 7] [] 5 (s0 := (0, [])) ⟨(by kernel_rfl), (by kernel_rfl), (by kernel_rfl), (by kernel_rfl), (q8 _ _ _ _ _), trivial⟩ hq (fun s1 x1 hq hn1 he1 => ?_)
 refine ifE hb 9 [84] [] hq (fun hq _ => ?_) (fun hq _ => ?_)
 refine qe hb mixed 5 14 [12] ?_
 refine idxE hb flV 3 hq fun x23 hx23 hq => ?_
 refine idxE hb flT 3 hq fun x24 hx24 hq => ?_
 refine q6 hb 1 hq (hr_r11_to x23 x24) fun y25 hy25 hq => ?_
 refine ifE hb 14 [101] [] hq (fun hq _ => ?_) (fun hq _ => ?_)
 exact retE hb 8 (he1 _ (injO hq))
 refine qg flV hb 7 4 true 0 (flV.one y25.1) hq fun l27 hl27 hq => ?_
 exact q9 hb 9 [2, 3, 4, 6, 7] [] 5 (hn1 _ (injO hq)) ⟨(by kernel_rfl), (by kernel_rfl), (by kernel_rfl), (by kernel_rfl), (q8 _ _ _ _ _), trivial⟩
 refine qq hb 8 4 true (sz := flV.sz) (fr := 0) (cs := flV.f s1.2) (by kernel_rfl) (Nat.zero_le _) ?_
 refine qn hb 0 2 3 (cs := [vi v_.kind, vi 0, vS eS, vO flV 4 s1.2, vL flS v_.keys]) (c := vO flV 4 s1.2) (qr flV (nb := true) (id := 4) (xs := s1.2) (by kernel_rfl)) (by kernel_rfl) ?_
 exact retE hb 0 (he1 _ (injO hq))
 refine ifE hb 12 [72, 73] [] hq (fun hq _ => ?_) (fun hq _ => ?_)
 exact retE hb 7 (injO hq).symm
 refine cpE hb 18 [2, 3, 4, 6, 7] (s' := ⟨none, [pk Tryz.f174 1018], [(0, [pk Tryz.f174 255])], sl 111 [(2, pt 0), (3, pt 1), (4, pt 2), (6, pt 3), (7, c1 (vi 0))], [bx (aV v_), bx (aT t_), bx zV, bx [vi v_.kind, vi 0, vS eS, vN, vL flS v_.keys]]⟩) ?_
 refine q17 hb 0 3 3 5 (cs := [vi v_.kind, vi 0, vS eS, vN, vL flS v_.keys]) (by kernel_rfl) ?_
 refine qj hb 0 (gQ3e r_r11_to v_ t_) (fun s1 => sl 111 [(2, pt 0), (3, pt 1), (4, pt 2), (6, pt 3), (7, c1 (vi s1.1))]) (fun s1 => [bx (aV v_), bx (aT t_), bx zV, bx [vi v_.kind, vi 0, vS eS, vO flV 4 s1.2, vL flS v_.keys], some (arO true flV.sz 0 (flV.f s1.2))]) [2, 3, 4, 6, 7] [] 5 (s0 := (0, [])) ⟨(by kernel_rfl), (by kernel_rfl), (by kernel_rfl), (by kernel_rfl), (q8 _ _ _ _ _), trivial⟩ hq (fun s1 x1 hq hn1 he1 => ?_)
 refine ifE hb 9 [84] [] hq (fun hq _ => ?_) (fun hq _ => ?_)
 refine qe hb mixed 5 14 [12] ?_
 refine idxE hb flV 3 hq fun x30 hx30 hq => ?_
 refine idxE hb flT 3 hq fun x31 hx31 hq => ?_
 refine q6 hb 1 hq (hr_r11_to x30 x31) fun y32 hy32 hq => ?_
 refine ifE hb 14 [101] [] hq (fun hq _ => ?_) (fun hq _ => ?_)
 exact retE hb 8 (he1 _ (injO hq))
 refine qg flV hb 7 4 true 0 (flV.one y32.1) hq fun l34 hl34 hq => ?_
 exact q9 hb 9 [2, 3, 4, 6, 7] [] 5 (hn1 _ (injO hq)) ⟨(by kernel_rfl), (by kernel_rfl), (by kernel_rfl), (by kernel_rfl), (q8 _ _ _ _ _), trivial⟩
 refine qq hb 8 4 true (sz := flV.sz) (fr := 0) (cs := flV.f s1.2) (by kernel_rfl) (Nat.zero_le _) ?_
 refine qn hb 0 2 3 (cs := [vi v_.kind, vi 0, vS eS, vO flV 4 s1.2, vL flS v_.keys]) (c := vO flV 4 s1.2) (qr flV (nb := true) (id := 4) (xs := s1.2) (by kernel_rfl)) (by kernel_rfl) ?_
 exact retE hb 0 (he1 _ (injO hq))
noncomputable def tQan (rec : Ty → Val → Option (Val × Int)) (a : Ty) (b : Val) : Option (Val × Int) :=
 gQ3b (gQ35 (fun a0 a1 => rec a1 a0)) (fun a0 a1 => rec a1 a0) b a
noncomputable def tQal (a0 : Val) (a1 : Ty) : Option (Val × Int) := tieF relT wfT tQan a1 a0
theorem tQam (hb : Base E E0 G) (he : ∀ w, E w → EnvV w) (a0 : Val) (a1 : Ty) (r : Val × Int) (hq : tQal a0 a1 = some r) : Pure E E0 Tryz.prog 174 [.agg (aV a0), .agg (aT a1)] (.tup [.agg (aV r.1), .cell (vi r.2)]) :=
 q30 (C := fun a b r => Pure E E0 Tryz.prog 174 [.agg (aV b), .agg (aT a)] (.tup [.agg (aV r.1), .cell (vi r.2)])) (fun rec hr a b r hq => gQ3f hb he (gQ35 (fun a0 a1 => rec a1 a0)) (fun a0 a1 => rec a1 a0) (gQ38 hb he (fun a0 a1 => rec a1 a0) (fun a0 a1 r e => hr a1 a0 r e)) (fun a0 a1 r e => hr a1 a0 r e) b a r hq) a1 a0 r hq
noncomputable def gQ30  (v_ : Val) (t_ : Ty) : Option (Val × Int) :=
 (tQal v_ t_).bind fun y1 => bif (!decide (y1.2 = 0)) then some ((Val.mk 0 0 eS [] []), y1.2) else (q28 y1.1).bind fun y3 => bif (!decide (y3 = 0)) then some ((Val.mk 0 0 eS [] []), y3) else some (y1.1, 0)
theorem gQ31 (hb : Base E E0 G) (he : ∀ w, E w → EnvV w)   (v_ : Val) (t_ : Ty) : ∀ r_ : Val × Int, gQ30 v_ t_ = some r_ →
 Pure E E0 Tryz.prog 145 [.agg (aV v_), .agg (aT t_)] (.tup [.agg (aV r_.1), .cell (vi r_.2)]) := by
 refine fnE hb Tryz.func145 rfl fun r_ hq => ?_
 refine q6 hb 11 hq (tQam hb he v_ t_) fun y1 hy1 hq => ?_
 refine ifE hb 13 [15] [] hq (fun hq _ => ?_) (fun hq _ => ?_)
 exact retE hb 8 (injO hq).symm
 refine q6 hb 5 hq (qbg hb he y1.1) fun y3 hy3 hq => ?_
 refine ifE hb 8 [21] [] hq (fun hq _ => ?_) (fun hq _ => ?_)
 exact retE hb 8 (injO hq).symm
 exact retE hb 8 (injO hq).symm
noncomputable def gQ54  (a_ : AttrG) (x_ : Val) (who_ : ByteArray) : Option (Val × DiagG) :=
 bif (decide (a_.mode = 1)) then bif (decide (x_.kind = 0)) then (gQ5a 12 who_).bind fun y3 => some ((Val.mk 0 0 eS [] []), y3) else bif (decide (a_.mode = 3)) then (gQ5a 13 who_).bind fun y5 => some ((Val.mk 0 0 eS [] []), y5) else (gQ30 x_ a_.type_).bind fun y6 => bif (!decide (y6.2 = 0)) then (gQ5a y6.2 who_).bind fun y8 => some ((Val.mk 0 0 eS [] []), y8) else some (y6.1, (DiagG.mk 0 0 eS)) else bif (decide (a_.mode = 3)) then bif (!decide (x_.kind = 0)) then (gQ5a 13 who_).bind fun y11 => some ((Val.mk 0 0 eS [] []), y11) else (gQ30 x_ a_.type_).bind fun y12 => bif (!decide (y12.2 = 0)) then (gQ5a y12.2 who_).bind fun y14 => some ((Val.mk 0 0 eS [] []), y14) else some (y12.1, (DiagG.mk 0 0 eS)) else (gQ30 x_ a_.type_).bind fun y15 => bif (!decide (y15.2 = 0)) then (gQ5a y15.2 who_).bind fun y17 => some ((Val.mk 0 0 eS [] []), y17) else some (y15.1, (DiagG.mk 0 0 eS))
theorem gQ55 (hb : Base E E0 G) (he : ∀ w, E w → EnvV w)   (a_ : AttrG) (x_ : Val) (who_ : ByteArray) : ∀ r_ : Val × DiagG, gQ54 a_ x_ who_ = some r_ →
 Pure E E0 Tryz.prog 111 [.agg [vS a_.name, vi a_.type_.kind, vL flT a_.type_.elems, vL flS a_.type_.names, vi a_.mode, vB a_.replace, vB a_.sensitive, vB a_.volatile], .agg (aV x_), .cell (vS who_)] (.tup [.agg (aV r_.1), .agg [vi r_.2.kind, vi r_.2.at_, vS r_.2.name]]) := by
 refine fnE hb Tryz.func111 rfl fun r_ hq => ?_
 refine ifE hb 14 [12, 13] [] hq (fun hq _ => ?_) (fun hq _ => ?_)
 refine ifE hb 5 [16, 17] [] hq (fun hq _ => ?_) (fun hq hc2 => ?_)
 refine q6 hb 5 hq (gQ5b hb he 12 who_) fun y3 hy3 hq => ?_
 exact retE hb 3 (injO hq).symm
 refine ifE hb 9 [23, 24] [] hq (fun hq _ => ?_) (fun hq _ => ?_)
 refine knE hb 5 [27, 28] [] (b := (!decide (x_.kind = 0))) (v := true) (congrArg (fun z => !z) hc2) ?_
 refine q6 hb 5 hq (gQ5b hb he 13 who_) fun y5 hy5 hq => ?_
 exact retE hb 3 (injO hq).symm
 refine q6 hb 12 hq (gQ31 hb he x_ a_.type_) fun y6 hy6 hq => ?_
 refine ifE hb 13 [40] [] hq (fun hq _ => ?_) (fun hq _ => ?_)
 refine q6 hb 6 hq (gQ5b hb he y6.2 who_) fun y8 hy8 hq => ?_
 exact retE hb 3 (injO hq).symm
 exact retE hb 9 (injO hq).symm
 refine ifE hb 14 [23, 24] [] hq (fun hq _ => ?_) (fun hq _ => ?_)
 refine ifE hb 5 [27, 28] [] hq (fun hq _ => ?_) (fun hq _ => ?_)
 refine q6 hb 5 hq (gQ5b hb he 13 who_) fun y11 hy11 hq => ?_
 exact retE hb 3 (injO hq).symm
 refine q6 hb 7 hq (gQ31 hb he x_ a_.type_) fun y12 hy12 hq => ?_
 refine ifE hb 13 [40] [] hq (fun hq _ => ?_) (fun hq _ => ?_)
 refine q6 hb 6 hq (gQ5b hb he y12.2 who_) fun y14 hy14 hq => ?_
 exact retE hb 3 (injO hq).symm
 exact retE hb 9 (injO hq).symm
 refine q6 hb 12 hq (gQ31 hb he x_ a_.type_) fun y15 hy15 hq => ?_
 refine ifE hb 13 [40] [] hq (fun hq _ => ?_) (fun hq _ => ?_)
 refine q6 hb 6 hq (gQ5b hb he y15.2 who_) fun y17 hy17 hq => ?_
 exact retE hb 3 (injO hq).symm
 exact retE hb 9 (injO hq).symm
noncomputable def gQ2i (v_ : Val) (key_ : ByteArray) (x_ : Val) (s1 : Bool × Int × List Val × List ByteArray) : Option ((Bool × Int × List Val × List ByteArray) ⊕ (Val)) :=
 bif (decide (s1.2.1 < (v_.keys.length : Int))) then bif (decide (s1.2.1 < (v_.items.length : Int))) then bif (!s1.1) then (idx v_.keys s1.2.1).bind fun x4 => bif (!Op.bytesLess x4.toList key_.toList) then (app 16 s1.2.2.2 [key_]).bind fun l6 => (app 80 s1.2.2.1 [x_]).bind fun l7 => (idx v_.keys s1.2.1).bind fun x8 => bif (!decide (x8 = key_)) then (idx v_.keys s1.2.1).bind fun x10 => (app 16 l6 [x10]).bind fun l11 => (idx v_.items s1.2.1).bind fun x12 => (app 80 l7 [x12]).bind fun l13 => some (.inl (true, (IntKind.i64.wrap (s1.2.1 + 1)), l13, l11)) else some (.inl (true, (IntKind.i64.wrap (s1.2.1 + 1)), l7, l6)) else (idx v_.keys s1.2.1).bind fun x14 => bif (!decide (x14 = key_)) then (idx v_.keys s1.2.1).bind fun x16 => (app 16 s1.2.2.2 [x16]).bind fun l17 => (idx v_.items s1.2.1).bind fun x18 => (app 80 s1.2.2.1 [x18]).bind fun l19 => some (.inl (s1.1, (IntKind.i64.wrap (s1.2.1 + 1)), l19, l17)) else some (.inl (s1.1, (IntKind.i64.wrap (s1.2.1 + 1)), s1.2.2.1, s1.2.2.2)) else (idx v_.keys s1.2.1).bind fun x20 => bif (!decide (x20 = key_)) then (idx v_.keys s1.2.1).bind fun x22 => (app 16 s1.2.2.2 [x22]).bind fun l23 => (idx v_.items s1.2.1).bind fun x24 => (app 80 s1.2.2.1 [x24]).bind fun l25 => some (.inl (s1.1, (IntKind.i64.wrap (s1.2.1 + 1)), l25, l23)) else some (.inl (s1.1, (IntKind.i64.wrap (s1.2.1 + 1)), s1.2.2.1, s1.2.2.2)) else bif (!s1.1) then (app 16 s1.2.2.2 [key_]).bind fun l27 => (app 80 s1.2.2.1 [x_]).bind fun l28 => some (.inr (Val.mk 5 0 eS l28 l27)) else some (.inr (Val.mk 5 0 eS s1.2.2.1 s1.2.2.2)) else bif (!s1.1) then (app 16 s1.2.2.2 [key_]).bind fun l30 => (app 80 s1.2.2.1 [x_]).bind fun l31 => some (.inr (Val.mk 5 0 eS l31 l30)) else some (.inr (Val.mk 5 0 eS s1.2.2.1 s1.2.2.2))
noncomputable def gQ2h  (v_ : Val) (key_ : ByteArray) (x_ : Val) : Option (Val) :=
 qb (gQ2i v_ key_ x_) (false, 0, [], [])
theorem gQ2j (hb : Base E E0 G) (he : ∀ w, E w → EnvV w)   (v_ : Val) (key_ : ByteArray) (x_ : Val) : ∀ r_ : Val, gQ2h v_ key_ x_ = some r_ →
 Pure E E0 Tryz.prog 112 [.agg (aV v_), .cell (vS key_), .agg (aV x_)] (.one (.agg (aV r_))) := by
 refine fnE hb Tryz.func112 rfl fun r_ hq => ?_
 refine q17 hb 22 3 3 5 (cs := [vi 5, vi 0, vS eS, vN, vN]) (by kernel_rfl) ?_
 refine q17 hb 0 3 4 1 (cs := [vi 5, vi 0, vS eS, vO flV 4 [], vN]) (by kernel_rfl) ?_
 refine qj hb 0 (gQ2i v_ key_ x_) (fun s1 => sl 90 [(1, c1 (vS key_)), (3, pt 0), (5, pt 1), (6, pt 2), (7, pt 3), (8, c1 (vB s1.1)), (9, c1 (vi s1.2.1))]) (fun s1 => [bx (aV v_), bx (aV x_), bx zV, bx [vi 5, vi 0, vS eS, vO flV 4 s1.2.2.1, vO flS 5 s1.2.2.2], some (arO true flV.sz 0 (flV.f s1.2.2.1)), some (arO true flS.sz 0 (flS.f s1.2.2.2))]) [1, 3, 5, 6, 7, 8, 9] [] 6 (s0 := (false, 0, [], [])) ⟨(by kernel_rfl), (by kernel_rfl), (by kernel_rfl), (by kernel_rfl), (q8 _ _ _ _ _), (q8 _ _ _ _ _), trivial⟩ hq (fun s1 x1 hq hn1 he1 => ?_)
 refine ifE hb 9 [15, 16] [] hq (fun hq _ => ?_) (fun hq _ => ?_)
 refine ifE hb 7 [21, 22] [] hq (fun hq _ => ?_) (fun hq _ => ?_)
 refine ifE hb 10 [26, 27] [] hq (fun hq _ => ?_) (fun hq _ => ?_)
 refine idxE hb flS 3 hq fun x4 hx4 hq => ?_
 refine ifE hb 5 [34, 35] [] hq (fun hq _ => ?_) (fun hq _ => ?_)
 refine qg flS hb 7 5 true 0 (flS.one key_) hq fun l6 hl6 hq => ?_
 refine qg flV hb 9 4 true 0 (flV.one x_) hq fun l7 hl7 hq => ?_
 refine idxE hb flS 11 hq fun x8 hx8 hq => ?_
 refine ifE hb 4 [54] [] hq (fun hq _ => ?_) (fun hq _ => ?_)
 refine qe hb mixed 2 8 [] ?_
 refine idxE hb flS 5 hq fun x10 hx10 hq => ?_
 refine qg flS hb 3 5 true 0 (flS.one x10) hq fun l11 hl11 hq => ?_
 refine qe hb mixed 3 8 [] ?_
 refine idxE hb flV 5 hq fun x12 hx12 hq => ?_
 refine qg flV hb 3 4 true 0 (flV.one x12) hq fun l13 hl13 hq => ?_
 exact q9 hb 9 [1, 3, 5, 6, 7, 8, 9] [] 6 (hn1 _ (injO hq)) ⟨(by kernel_rfl), (by kernel_rfl), (by kernel_rfl), (by kernel_rfl), (q8 _ _ _ _ _), (q8 _ _ _ _ _), trivial⟩
 exact q9 hb 8 [1, 3, 5, 6, 7, 8, 9] [] 6 (hn1 _ (injO hq)) ⟨(by kernel_rfl), (by kernel_rfl), (by kernel_rfl), (by kernel_rfl), (q8 _ _ _ _ _), (q8 _ _ _ _ _), trivial⟩
 refine idxE hb flS 7 hq fun x14 hx14 hq => ?_
 refine ifE hb 4 [54] [] hq (fun hq _ => ?_) (fun hq _ => ?_)
 refine qe hb mixed 2 8 [] ?_
 refine idxE hb flS 5 hq fun x16 hx16 hq => ?_
 refine qg flS hb 3 5 true 0 (flS.one x16) hq fun l17 hl17 hq => ?_
 refine qe hb mixed 3 8 [] ?_
 refine idxE hb flV 5 hq fun x18 hx18 hq => ?_
 refine qg flV hb 3 4 true 0 (flV.one x18) hq fun l19 hl19 hq => ?_
 exact q9 hb 9 [1, 3, 5, 6, 7, 8, 9] [] 6 (hn1 _ (injO hq)) ⟨(by kernel_rfl), (by kernel_rfl), (by kernel_rfl), (by kernel_rfl), (q8 _ _ _ _ _), (q8 _ _ _ _ _), trivial⟩
 exact q9 hb 8 [1, 3, 5, 6, 7, 8, 9] [] 6 (hn1 _ (injO hq)) ⟨(by kernel_rfl), (by kernel_rfl), (by kernel_rfl), (by kernel_rfl), (q8 _ _ _ _ _), (q8 _ _ _ _ _), trivial⟩
 refine idxE hb flS 16 hq fun x20 hx20 hq => ?_
 refine ifE hb 4 [54] [] hq (fun hq _ => ?_) (fun hq _ => ?_)
 refine qe hb mixed 2 8 [] ?_
 refine idxE hb flS 5 hq fun x22 hx22 hq => ?_
 refine qg flS hb 3 5 true 0 (flS.one x22) hq fun l23 hl23 hq => ?_
 refine qe hb mixed 3 8 [] ?_
 refine idxE hb flV 5 hq fun x24 hx24 hq => ?_
 refine qg flV hb 3 4 true 0 (flV.one x24) hq fun l25 hl25 hq => ?_
 exact q9 hb 9 [1, 3, 5, 6, 7, 8, 9] [] 6 (hn1 _ (injO hq)) ⟨(by kernel_rfl), (by kernel_rfl), (by kernel_rfl), (by kernel_rfl), (q8 _ _ _ _ _), (q8 _ _ _ _ _), trivial⟩
 exact q9 hb 8 [1, 3, 5, 6, 7, 8, 9] [] 6 (hn1 _ (injO hq)) ⟨(by kernel_rfl), (by kernel_rfl), (by kernel_rfl), (by kernel_rfl), (q8 _ _ _ _ _), (q8 _ _ _ _ _), trivial⟩
 refine ifE hb 8 [76] [] hq (fun hq _ => ?_) (fun hq _ => ?_)
 refine qg flS hb 7 5 true 0 (flS.one key_) hq fun l27 hl27 hq => ?_
 refine qg flV hb 8 4 true 0 (flV.one x_) hq fun l28 hl28 hq => ?_
 refine qq hb 8 4 true (sz := flV.sz) (fr := 0) (cs := flV.f l28) (by kernel_rfl) (Nat.zero_le _) ?_
 refine qn hb 0 2 3 (cs := [vi 5, vi 0, vS eS, vO flV 4 l28, vO flS 5 l27]) (c := vO flV 4 l28) (qr flV (nb := true) (id := 4) (xs := l28) (by kernel_rfl)) (by kernel_rfl) ?_
 refine qq hb 0 5 true (sz := flS.sz) (fr := 0) (cs := flS.f l27) (by kernel_rfl) (Nat.zero_le _) ?_
 refine qn hb 0 2 4 (cs := [vi 5, vi 0, vS eS, vL flV l28, vO flS 5 l27]) (c := vO flS 5 l27) (qr flS (nb := true) (id := 5) (xs := l27) (by kernel_rfl)) (by kernel_rfl) ?_
 exact retE hb 0 (he1 _ (injO hq))
 refine qq hb 7 4 true (sz := flV.sz) (fr := 0) (cs := flV.f s1.2.2.1) (by kernel_rfl) (Nat.zero_le _) ?_
 refine qn hb 0 2 3 (cs := [vi 5, vi 0, vS eS, vO flV 4 s1.2.2.1, vO flS 5 s1.2.2.2]) (c := vO flV 4 s1.2.2.1) (qr flV (nb := true) (id := 4) (xs := s1.2.2.1) (by kernel_rfl)) (by kernel_rfl) ?_
 refine qq hb 0 5 true (sz := flS.sz) (fr := 0) (cs := flS.f s1.2.2.2) (by kernel_rfl) (Nat.zero_le _) ?_
 refine qn hb 0 2 4 (cs := [vi 5, vi 0, vS eS, vL flV s1.2.2.1, vO flS 5 s1.2.2.2]) (c := vO flS 5 s1.2.2.2) (qr flS (nb := true) (id := 5) (xs := s1.2.2.2) (by kernel_rfl)) (by kernel_rfl) ?_
 exact retE hb 0 (he1 _ (injO hq))
 refine ifE hb 15 [76] [] hq (fun hq _ => ?_) (fun hq _ => ?_)
 refine qg flS hb 7 5 true 0 (flS.one key_) hq fun l30 hl30 hq => ?_
 refine qg flV hb 8 4 true 0 (flV.one x_) hq fun l31 hl31 hq => ?_
 refine qq hb 8 4 true (sz := flV.sz) (fr := 0) (cs := flV.f l31) (by kernel_rfl) (Nat.zero_le _) ?_
 refine qn hb 0 2 3 (cs := [vi 5, vi 0, vS eS, vO flV 4 l31, vO flS 5 l30]) (c := vO flV 4 l31) (qr flV (nb := true) (id := 4) (xs := l31) (by kernel_rfl)) (by kernel_rfl) ?_
 refine qq hb 0 5 true (sz := flS.sz) (fr := 0) (cs := flS.f l30) (by kernel_rfl) (Nat.zero_le _) ?_
 refine qn hb 0 2 4 (cs := [vi 5, vi 0, vS eS, vL flV l31, vO flS 5 l30]) (c := vO flS 5 l30) (qr flS (nb := true) (id := 5) (xs := l30) (by kernel_rfl)) (by kernel_rfl) ?_
 exact retE hb 0 (he1 _ (injO hq))
 refine qq hb 7 4 true (sz := flV.sz) (fr := 0) (cs := flV.f s1.2.2.1) (by kernel_rfl) (Nat.zero_le _) ?_
 refine qn hb 0 2 3 (cs := [vi 5, vi 0, vS eS, vO flV 4 s1.2.2.1, vO flS 5 s1.2.2.2]) (c := vO flV 4 s1.2.2.1) (qr flV (nb := true) (id := 4) (xs := s1.2.2.1) (by kernel_rfl)) (by kernel_rfl) ?_
 refine qq hb 0 5 true (sz := flS.sz) (fr := 0) (cs := flS.f s1.2.2.2) (by kernel_rfl) (Nat.zero_le _) ?_
 refine qn hb 0 2 4 (cs := [vi 5, vi 0, vS eS, vL flV s1.2.2.1, vO flS 5 s1.2.2.2]) (c := vO flS 5 s1.2.2.2) (qr flS (nb := true) (id := 5) (xs := s1.2.2.2) (by kernel_rfl)) (by kernel_rfl) ?_
 exact retE hb 0 (he1 _ (injO hq))
noncomputable def gQ4q (n_ : NestedG) (x_ : Val) (s2 : Int × List Val × List ByteArray) : Option ((Int × List Val × List ByteArray) ⊕ ((Int) ⊕ (Val × DiagG))) :=
 bif (decide (s2.1 < (n_.attrs.length : Int))) then (idx n_.attrs s2.1).bind fun x10 => (idx n_.attrs s2.1).bind fun x11 => (gQ45 x_ x11.name).bind fun y12 => (gQ54 x10 y12 n_.name).bind fun y13 => bif (!decide (y13.2.kind = 0)) then some (.inr (.inr ((Val.mk 0 0 eS [] []), y13.2))) else (idx n_.attrs s2.1).bind fun x15 => (app 16 s2.2.2 [x15.name]).bind fun l16 => (app 80 s2.2.1 [y13.1]).bind fun l17 => some (.inl ((IntKind.i64.wrap (s2.1 + 1)), l17, l16)) else some (.inr (.inr ((Val.mk 5 0 eS s2.2.1 s2.2.2), (DiagG.mk 0 0 eS))))
noncomputable def gQ4p (n_ : NestedG) (x_ : Val) (s1 : Int) : Option ((Int) ⊕ (Val × DiagG)) :=
 bif (decide (s1 < (x_.keys.length : Int))) then (idx x_.keys s1).bind fun x5 => (gQ3i n_.attrs x5).bind fun y6 => bif (!y6.2) then (gQ5a 13 n_.name).bind fun y8 => some (.inr ((Val.mk 0 0 eS [] []), y8)) else some (.inl (IntKind.i64.wrap (s1 + 1))) else qb (gQ4q n_ x_) (0, [], [])
noncomputable def gQ4o  (n_ : NestedG) (x_ : Val) : Option (Val × DiagG) :=
 bif (decide (x_.kind = 6)) then some (x_, (DiagG.mk 0 0 eS)) else bif (!decide (x_.kind = 5)) then (gQ5a 6 n_.name).bind fun y3 => some ((Val.mk 0 0 eS [] []), y3) else qb (gQ4p n_ x_) 0
theorem gQ4r (hb : Base E E0 G) (he : ∀ w, E w → EnvV w)   (n_ : NestedG) (x_ : Val) : ∀ r_ : Val × DiagG, gQ4o n_ x_ = some r_ →
 Pure E E0 Tryz.prog 146 [.agg [vS n_.name, vi n_.min, vi n_.max, vL q7 n_.attrs, vB n_.replace], .agg (aV x_)] (.tup [.agg (aV r_.1), .agg [vi r_.2.kind, vi r_.2.at_, vS r_.2.name]]) := by
 refine fnE hb Tryz.func146 rfl fun r_ hq => ?_
 refine ifE hb 14 [15] [] hq (fun hq _ => ?_) (fun hq _ => ?_)
 exact retE hb 8 (injO hq).symm
 refine ifE hb 9 [20] [] hq (fun hq _ => ?_) (fun hq _ => ?_)
 refine q6 hb 6 hq (gQ5b hb he 6 n_.name) fun y3 hy3 hq => ?_
 exact retE hb 3 (injO hq).symm
 refine qj hb 8 (gQ4p n_ x_) (fun s1 => sl 100 [(2, pt 0), (3, pt 1), (4, pt 2), (5, pt 3), (6, c1 (vi s1))]) (fun s1 => [bx [vS n_.name, vi n_.min, vi n_.max, vL q7 n_.attrs, vB n_.replace], bx (aV x_), bx zV, bx [vi 0, vi 0, vS eS]]) [2, 3, 4, 5, 6] [] 4 (s0 := 0) ⟨(by kernel_rfl), (by kernel_rfl), (by kernel_rfl), (by kernel_rfl), trivial⟩ hq (fun s1 x1 hq hn1 he1 => ?_)
 refine ifE hb 9 [29] [] hq (fun hq _ => ?_) (fun hq _ => ?_)
 refine qe hb mixed 5 12 [10] ?_
 refine idxE hb flS 5 hq fun x5 hx5 hq => ?_
 refine q6 hb 1 hq (gQ3k hb he n_.attrs x5) fun y6 hy6 hq => ?_
 refine ifE hb 13 [44] [] hq (fun hq _ => ?_) (fun hq _ => ?_)
 refine q6 hb 6 hq (gQ5b hb he 13 n_.name) fun y8 hy8 hq => ?_
 exact retE hb 3 (he1 _ (injO hq))
 exact q9 hb 8 [2, 3, 4, 5, 6] [] 4 (hn1 _ (injO hq)) ⟨(by kernel_rfl), (by kernel_rfl), (by kernel_rfl), (by kernel_rfl), trivial⟩
 refine q17 hb 14 4 3 5 (cs := [vi 5, vi 0, vS eS, vN, vN]) (by kernel_rfl) ?_
 refine q17 hb 0 4 4 1 (cs := [vi 5, vi 0, vS eS, vO flV 5 [], vN]) (by kernel_rfl) ?_
 refine qj hb 0 (gQ4q n_ x_) (fun s2 => sl 100 [(2, pt 0), (3, pt 1), (4, pt 2), (5, pt 3), (9, pt 4), (10, c1 (vi s2.1))]) (fun s2 => [bx [vS n_.name, vi n_.min, vi n_.max, vL q7 n_.attrs, vB n_.replace], bx (aV x_), bx zV, bx [vi 0, vi 0, vS eS], bx [vi 5, vi 0, vS eS, vO flV 5 s2.2.1, vO flS 6 s2.2.2], some (arO true flV.sz 0 (flV.f s2.2.1)), some (arO true flS.sz 0 (flS.f s2.2.2))]) [2, 3, 4, 5, 9, 10] [] 7 (s0 := (0, [], [])) ⟨(by kernel_rfl), (by kernel_rfl), (by kernel_rfl), (by kernel_rfl), (by kernel_rfl), (q8 _ _ _ _ _), (q8 _ _ _ _ _), trivial⟩ hq (fun s2 x2 hq hn2 he2 => ?_)
 refine ifE hb 9 [54] [] hq (fun hq _ => ?_) (fun hq _ => ?_)
 refine qe hb mixed 5 21 [18] ?_
 refine idxE hb q7 3 hq fun x10 hx10 hq => ?_
 refine idxE hb q7 5 hq fun x11 hx11 hq => ?_
 refine q6 hb 2 hq (gQ46 hb he x_ x11.name) fun y12 hy12 hq => ?_
 refine q6 hb 2 hq (gQ55 hb he x10 y12 n_.name) fun y13 hy13 hq => ?_
 refine ifE hb 16 [78] [] hq (fun hq _ => ?_) (fun hq _ => ?_)
 refine frzE hb 2 12 8 (ps := [pI .i64 y13.2.kind, pI .i64 y13.2.at_, pS y13.2.name]) (by kernel_rfl) ?_
 refine qe hb mixed 0 2 [1] ?_
 exact retE hb 6 (he1 _ ((he2 _ (injO hq)).symm))
 refine qe hb mixed 3 9 [] ?_
 refine idxE hb q7 5 hq fun x15 hx15 hq => ?_
 refine qg flS hb 4 6 true 0 (flS.one x15.name) hq fun l16 hl16 hq => ?_
 refine qg flV hb 8 5 true 0 (flV.one y13.1) hq fun l17 hl17 hq => ?_
 exact q9 hb 9 [2, 3, 4, 5, 9, 10] [] 7 (hn2 _ (injO hq)) ⟨(by kernel_rfl), (by kernel_rfl), (by kernel_rfl), (by kernel_rfl), (by kernel_rfl), (q8 _ _ _ _ _), (q8 _ _ _ _ _), trivial⟩
 refine qq hb 9 5 true (sz := flV.sz) (fr := 0) (cs := flV.f s2.2.1) (by kernel_rfl) (Nat.zero_le _) ?_
 refine qn hb 0 2 3 (cs := [vi 5, vi 0, vS eS, vO flV 5 s2.2.1, vO flS 6 s2.2.2]) (c := vO flV 5 s2.2.1) (qr flV (nb := true) (id := 5) (xs := s2.2.1) (by kernel_rfl)) (by kernel_rfl) ?_
 refine qq hb 0 6 true (sz := flS.sz) (fr := 0) (cs := flS.f s2.2.2) (by kernel_rfl) (Nat.zero_le _) ?_
 refine qn hb 0 2 4 (cs := [vi 5, vi 0, vS eS, vL flV s2.2.1, vO flS 6 s2.2.2]) (c := vO flS 6 s2.2.2) (qr flS (nb := true) (id := 6) (xs := s2.2.2) (by kernel_rfl)) (by kernel_rfl) ?_
 exact retE hb 0 (he1 _ ((he2 _ (injO hq)).symm))
noncomputable def gQ4y  (s1 : Unit) : Option ((Unit) ⊕ (Val × DiagG)) :=
 some (.inr ((Val.mk 4 0 eS [] []), (DiagG.mk 0 0 eS)))
noncomputable def gQ4z (n_ : NestedG) (x_ : Val) (s1b : Int × List Val) : Option ((Int × List Val) ⊕ (Val × DiagG)) :=
 bif (decide (s1b.1 < (x_.items.length : Int))) then (idx x_.items s1b.1).bind fun x14 => (gQ4o n_ x14).bind fun y15 => bif (!decide (y15.2.kind = 0)) then some (.inr ((Val.mk 0 0 eS [] []), y15.2)) else (app 80 s1b.2 [y15.1]).bind fun l17 => some (.inl ((IntKind.i64.wrap (s1b.1 + 1)), l17)) else some (.inr ((Val.mk 4 0 eS s1b.2 []), (DiagG.mk 0 0 eS)))
noncomputable def gQ4x  (n_ : NestedG) (x_ : Val) : Option (Val × DiagG) :=
 bif (decide (x_.kind = 6)) then some (x_, (DiagG.mk 0 0 eS)) else bif (decide (x_.kind = 0)) then bif (decide (0 < n_.min)) then (gQ5a 12 n_.name).bind fun y4 => some ((Val.mk 0 0 eS [] []), y4) else bif (decide (0 > n_.max)) then (gQ5a 14 n_.name).bind fun y6 => some ((Val.mk 0 0 eS [] []), y6) else qb gQ4y () else bif (!decide (x_.kind = 4)) then (gQ5a 6 n_.name).bind fun y8 => some ((Val.mk 0 0 eS [] []), y8) else bif (decide ((x_.items.length : Int) < n_.min)) then (gQ5a 12 n_.name).bind fun y10 => some ((Val.mk 0 0 eS [] []), y10) else bif (decide ((x_.items.length : Int) > n_.max)) then (gQ5a 14 n_.name).bind fun y12 => some ((Val.mk 0 0 eS [] []), y12) else qb (gQ4z n_ x_) (0, [])
theorem gQ50 (hb : Base E E0 G) (he : ∀ w, E w → EnvV w)   (n_ : NestedG) (x_ : Val) : ∀ r_ : Val × DiagG, gQ4x n_ x_ = some r_ →
 Pure E E0 Tryz.prog 113 [.agg [vS n_.name, vi n_.min, vi n_.max, vL q7 n_.attrs, vB n_.replace], .agg (aV x_)] (.tup [.agg (aV r_.1), .agg [vi r_.2.kind, vi r_.2.at_, vS r_.2.name]]) := by
 refine fnE hb Tryz.func113 rfl fun r_ hq => ?_
 refine ifE hb 14 [12] [] hq (fun hq _ => ?_) (fun hq _ => ?_)
 exact retE hb 8 (injO hq).symm
 refine ifE hb 9 [17] [] hq (fun hq _ => ?_) (fun hq _ => ?_)
 refine ifE hb 24 [31] [] hq (fun hq _ => ?_) (fun hq _ => ?_)
 refine q6 hb 6 hq (gQ5b hb he 12 n_.name) fun y4 hy4 hq => ?_
 exact retE hb 3 (injO hq).symm
 refine ifE hb 12 [41] [] hq (fun hq _ => ?_) (fun hq _ => ?_)
 refine q6 hb 6 hq (gQ5b hb he 14 n_.name) fun y6 hy6 hq => ?_
 exact retE hb 3 (injO hq).symm
 refine cpE hb 14 [2, 3, 4, 5, 6, 7] (s' := ⟨none, [pk Tryz.f113 2042], [(0, [pk Tryz.f113 511])], sl 77 [(2, pt 0), (3, pt 1), (4, pt 2), (5, pt 3), (6, pt 4), (7, c1 (vi 0))], [bx [vS n_.name, vi n_.min, vi n_.max, vL q7 n_.attrs, vB n_.replace], bx [vi 4, vi 0, vS eS, vN, vN], bx zV, bx [vi 0, vi 0, vS eS], bx [vi 4, vi 0, vS eS, vN, vN]]⟩) ?_
 refine qj hb 0 gQ4y (fun s1 => sl 77 [(2, pt 0), (3, pt 1), (4, pt 2), (5, pt 3), (6, pt 4), (7, c1 (vi 0))]) (fun s1 => [bx [vS n_.name, vi n_.min, vi n_.max, vL q7 n_.attrs, vB n_.replace], bx [vi 4, vi 0, vS eS, vN, vN], bx zV, bx [vi 0, vi 0, vS eS], bx [vi 4, vi 0, vS eS, vN, vN]]) [2, 3, 4, 5, 6, 7] [] 5 (s0 := ()) ⟨(by kernel_rfl), (by kernel_rfl), (by kernel_rfl), (by kernel_rfl), (by kernel_rfl), trivial⟩ hq (fun s1 x1 hq hn1 he1 => ?_)
 exact retE hb 18 (he1 _ (injO hq))
 refine ifE hb 9 [21] [] hq (fun hq _ => ?_) (fun hq _ => ?_)
 refine q6 hb 6 hq (gQ5b hb he 6 n_.name) fun y8 hy8 hq => ?_
 exact retE hb 3 (injO hq).symm
 refine ifE hb 12 [31] [] hq (fun hq _ => ?_) (fun hq _ => ?_)
 refine q6 hb 6 hq (gQ5b hb he 12 n_.name) fun y10 hy10 hq => ?_
 exact retE hb 3 (injO hq).symm
 refine ifE hb 12 [41] [] hq (fun hq _ => ?_) (fun hq _ => ?_)
 refine q6 hb 6 hq (gQ5b hb he 14 n_.name) fun y12 hy12 hq => ?_
 exact retE hb 3 (injO hq).symm
 refine cpE hb 14 [2, 3, 4, 5, 6, 7] (s' := ⟨none, [pk Tryz.f113 2042], [(0, [pk Tryz.f113 511])], sl 77 [(2, pt 0), (3, pt 1), (4, pt 2), (5, pt 3), (6, pt 4), (7, c1 (vi 0))], [bx [vS n_.name, vi n_.min, vi n_.max, vL q7 n_.attrs, vB n_.replace], bx (aV x_), bx zV, bx [vi 0, vi 0, vS eS], bx [vi 4, vi 0, vS eS, vN, vN]]⟩) ?_
 refine q17 hb 0 4 3 5 (cs := [vi 4, vi 0, vS eS, vN, vN]) (by kernel_rfl) ?_
 refine qj hb 0 (gQ4z n_ x_) (fun s1b => sl 77 [(2, pt 0), (3, pt 1), (4, pt 2), (5, pt 3), (6, pt 4), (7, c1 (vi s1b.1))]) (fun s1b => [bx [vS n_.name, vi n_.min, vi n_.max, vL q7 n_.attrs, vB n_.replace], bx (aV x_), bx zV, bx [vi 0, vi 0, vS eS], bx [vi 4, vi 0, vS eS, vO flV 5 s1b.2, vN], some (arO true flV.sz 0 (flV.f s1b.2))]) [2, 3, 4, 5, 6, 7] [] 6 (s0 := (0, [])) ⟨(by kernel_rfl), (by kernel_rfl), (by kernel_rfl), (by kernel_rfl), (by kernel_rfl), (q8 _ _ _ _ _), trivial⟩ hq (fun s1b x1 hq hn1 he1 => ?_)
 refine ifE hb 9 [51] [] hq (fun hq _ => ?_) (fun hq _ => ?_)
 refine qe hb mixed 5 12 [9] ?_
 refine idxE hb flV 4 hq fun x14 hx14 hq => ?_
 refine q6 hb 1 hq (gQ4r hb he n_ x14) fun y15 hy15 hq => ?_
 refine ifE hb 16 [66] [] hq (fun hq _ => ?_) (fun hq _ => ?_)
 refine frzE hb 2 9 7 (ps := [pI .i64 y15.2.kind, pI .i64 y15.2.at_, pS y15.2.name]) (by kernel_rfl) ?_
 refine qe hb mixed 0 2 [1] ?_
 exact retE hb 6 (he1 _ (injO hq))
 refine qg flV hb 7 5 true 0 (flV.one y15.1) hq fun l17 hl17 hq => ?_
 exact q9 hb 9 [2, 3, 4, 5, 6, 7] [] 6 (hn1 _ (injO hq)) ⟨(by kernel_rfl), (by kernel_rfl), (by kernel_rfl), (by kernel_rfl), (by kernel_rfl), (q8 _ _ _ _ _), trivial⟩
 refine qq hb 9 5 true (sz := flV.sz) (fr := 0) (cs := flV.f s1b.2) (by kernel_rfl) (Nat.zero_le _) ?_
 refine qn hb 0 2 3 (cs := [vi 4, vi 0, vS eS, vO flV 5 s1b.2, vN]) (c := vO flV 5 s1b.2) (qr flV (nb := true) (id := 5) (xs := s1b.2) (by kernel_rfl)) (by kernel_rfl) ?_
 exact retE hb 0 (he1 _ (injO hq))
noncomputable def gQ58 (s_ : SchemaG) (v_ : Val) (s2 : Int × Int × ByteArray × List Val × List ByteArray × Int) : Option ((Int × Int × ByteArray × List Val × List ByteArray × Int) ⊕ ((Int × Int × ByteArray × List Val × List ByteArray × Int) ⊕ (Val × DiagG))) :=
 bif (decide (s2.2.2.2.2.2 < (s_.nested.length : Int))) then (idx s_.nested s2.2.2.2.2.2).bind fun x11 => (idx s_.nested s2.2.2.2.2.2).bind fun x12 => (gQ45 v_ x12.name).bind fun y13 => (gQ4x x11 y13).bind fun y14 => bif (!decide (y14.2.kind = 0)) then some (.inr (.inr ((Val.mk 0 0 eS [] []), y14.2))) else (idx s_.nested s2.2.2.2.2.2).bind fun x16 => (gQ2h (Val.mk s2.1 s2.2.1 s2.2.2.1 s2.2.2.2.1 s2.2.2.2.2.1) x16.name y14.1).bind fun y17 => some (.inl (y17.kind, y17.num, y17.str, y17.items, y17.keys, (IntKind.i64.wrap (s2.2.2.2.2.2 + 1)))) else some (.inr (.inr ((Val.mk s2.1 s2.2.1 s2.2.2.1 s2.2.2.2.1 s2.2.2.2.2.1), (DiagG.mk 0 0 eS))))
noncomputable def gQ57 (s_ : SchemaG) (v_ : Val) (s1 : Int × Int × ByteArray × List Val × List ByteArray × Int) : Option ((Int × Int × ByteArray × List Val × List ByteArray × Int) ⊕ (Val × DiagG)) :=
 bif (decide (s1.2.2.2.2.2 < (s_.attrs.length : Int))) then (idx s_.attrs s1.2.2.2.2.2).bind fun x2 => (idx s_.attrs s1.2.2.2.2.2).bind fun x3 => (gQ45 v_ x3.name).bind fun y4 => (idx s_.attrs s1.2.2.2.2.2).bind fun x5 => (gQ54 x2 y4 x5.name).bind fun y6 => bif (!decide (y6.2.kind = 0)) then some (.inr ((Val.mk 0 0 eS [] []), y6.2)) else (idx s_.attrs s1.2.2.2.2.2).bind fun x8 => (gQ2h (Val.mk s1.1 s1.2.1 s1.2.2.1 s1.2.2.2.1 s1.2.2.2.2.1) x8.name y6.1).bind fun y9 => some (.inl (y9.kind, y9.num, y9.str, y9.items, y9.keys, (IntKind.i64.wrap (s1.2.2.2.2.2 + 1)))) else qb (gQ58 s_ v_) (s1.1, s1.2.1, s1.2.2.1, s1.2.2.2.1, s1.2.2.2.2.1, 0)
noncomputable def gQ56  (s_ : SchemaG) (v_ : Val) : Option (Val × DiagG) :=
 qb (gQ57 s_ v_) (5, 0, eS, [], [], 0)
theorem gQ59 (hb : Base E E0 G) (he : ∀ w, E w → EnvV w)   (s_ : SchemaG) (v_ : Val) : ∀ r_ : Val × DiagG, gQ56 s_ v_ = some r_ →
 Pure E E0 Tryz.prog 65 [.agg [vL q7 s_.attrs, vL qd s_.nested], .agg (aV v_)] (.tup [.agg (aV r_.1), .agg [vi r_.2.kind, vi r_.2.at_, vS r_.2.name]]) := by
 refine fnE hb Tryz.func65 rfl fun r_ hq => ?_
 refine qn hb 19 4 3 (cs := [vi 5, vi 0, vS eS, vN, vN]) (c := vN) (q86 flV) (by kernel_rfl) ?_
 refine qn hb 0 4 4 (cs := [vi 5, vi 0, vS eS, vL flV [], vN]) (c := vN) (q86 flS) (by kernel_rfl) ?_
 refine qj hb 0 (gQ57 s_ v_) (fun s1 => sl 98 [(2, pt 0), (3, pt 1), (4, pt 2), (5, pt 3), (6, pt 4), (7, c1 (vi s1.2.2.2.2.2))]) (fun s1 => [bx [vL q7 s_.attrs, vL qd s_.nested], bx (aV v_), bx zV, bx [vi 0, vi 0, vS eS], bx [vi s1.1, vi s1.2.1, vS s1.2.2.1, vL flV s1.2.2.2.1, vL flS s1.2.2.2.2.1]]) [2, 3, 4, 5, 6, 7] [] 5 (s0 := (5, 0, eS, [], [], 0)) ⟨(by kernel_rfl), (by kernel_rfl), (by kernel_rfl), (by kernel_rfl), (by kernel_rfl), trivial⟩ hq (fun s1 x1 hq hn1 he1 => ?_)
 refine ifE hb 9 [18] [] hq (fun hq _ => ?_) (fun hq _ => ?_)
 refine qe hb mixed 5 25 [22] ?_
 refine idxE hb q7 3 hq fun x2 hx2 hq => ?_
 refine idxE hb q7 5 hq fun x3 hx3 hq => ?_
 refine q6 hb 2 hq (gQ46 hb he v_ x3.name) fun y4 hy4 hq => ?_
 refine idxE hb q7 3 hq fun x5 hx5 hq => ?_
 refine q6 hb 2 hq (gQ55 hb he x2 y4 x5.name) fun y6 hy6 hq => ?_
 refine ifE hb 16 [46] [] hq (fun hq _ => ?_) (fun hq _ => ?_)
 refine frzE hb 2 9 6 (ps := [pI .i64 y6.2.kind, pI .i64 y6.2.at_, pS y6.2.name]) (by kernel_rfl) ?_
 refine qe hb mixed 0 2 [1] ?_
 exact retE hb 6 (he1 _ (injO hq))
 refine qe hb mixed 2 8 [] ?_
 refine idxE hb q7 4 hq fun x8 hx8 hq => ?_
 refine q6 hb 4 hq (gQ2j hb he (Val.mk s1.1 s1.2.1 s1.2.2.1 s1.2.2.2.1 s1.2.2.2.2.1) x8.name y6.1) fun y9 hy9 hq => ?_
 exact q9 hb 8 [2, 3, 4, 5, 6, 7] [] 5 (hn1 _ (injO hq)) ⟨(by kernel_rfl), (by kernel_rfl), (by kernel_rfl), (by kernel_rfl), (by kernel_rfl), trivial⟩
 refine qj hb 8 (gQ58 s_ v_) (fun s2 => sl 98 [(2, pt 0), (3, pt 1), (4, pt 2), (5, pt 3), (6, pt 4), (10, c1 (vi s2.2.2.2.2.2))]) (fun s2 => [bx [vL q7 s_.attrs, vL qd s_.nested], bx (aV v_), bx zV, bx [vi 0, vi 0, vS eS], bx [vi s2.1, vi s2.2.1, vS s2.2.2.1, vL flV s2.2.2.2.1, vL flS s2.2.2.2.2.1]]) [2, 3, 4, 5, 6, 10] [] 5 (s0 := (s1.1, s1.2.1, s1.2.2.1, s1.2.2.2.1, s1.2.2.2.2.1, 0)) ⟨(by kernel_rfl), (by kernel_rfl), (by kernel_rfl), (by kernel_rfl), (by kernel_rfl), trivial⟩ hq (fun s2 x2 hq hn2 he2 => ?_)
 refine ifE hb 9 [62] [] hq (fun hq _ => ?_) (fun hq _ => ?_)
 refine qe hb mixed 5 19 [16] ?_
 refine idxE hb qd 3 hq fun x11 hx11 hq => ?_
 refine idxE hb qd 5 hq fun x12 hx12 hq => ?_
 refine q6 hb 2 hq (gQ46 hb he v_ x12.name) fun y13 hy13 hq => ?_
 refine q6 hb 0 hq (gQ50 hb he x11 y13) fun y14 hy14 hq => ?_
 refine ifE hb 16 [84] [] hq (fun hq _ => ?_) (fun hq _ => ?_)
 refine frzE hb 2 12 6 (ps := [pI .i64 y14.2.kind, pI .i64 y14.2.at_, pS y14.2.name]) (by kernel_rfl) ?_
 refine qe hb mixed 0 2 [1] ?_
 exact retE hb 6 (he1 _ ((he2 _ (injO hq)).symm))
 refine qe hb mixed 2 8 [] ?_
 refine idxE hb qd 4 hq fun x16 hx16 hq => ?_
 refine q6 hb 4 hq (gQ2j hb he (Val.mk s2.1 s2.2.1 s2.2.2.1 s2.2.2.2.1 s2.2.2.2.2.1) x16.name y14.1) fun y17 hy17 hq => ?_
 exact q9 hb 8 [2, 3, 4, 5, 6, 10] [] 5 (hn2 _ (injO hq)) ⟨(by kernel_rfl), (by kernel_rfl), (by kernel_rfl), (by kernel_rfl), (by kernel_rfl), trivial⟩
 exact retE hb 9 (he1 _ ((he2 _ (injO hq)).symm))
noncomputable def gQ3s (s_ : SchemaG) (v_ : Val) (s1 : Int) : Option ((Int) ⊕ (Val × DiagG)) :=
 bif (decide (s1 < (v_.keys.length : Int))) then (idx v_.keys s1).bind fun x7 => (gQ3i s_.attrs x7).bind fun y8 => (idx v_.keys s1).bind fun x9 => (gQ42 s_ x9).bind fun y10 => bif (!y8.2) then bif (!y10.2) then (idx v_.keys s1).bind fun x13 => (gQ5a 13 x13).bind fun y14 => some (.inr ((Val.mk 0 0 eS [] []), y14)) else some (.inl (IntKind.i64.wrap (s1 + 1))) else some (.inl (IntKind.i64.wrap (s1 + 1))) else (gQ56 s_ v_).bind fun y15 => bif (!decide (y15.2.kind = 0)) then some (.inr ((Val.mk 0 0 eS [] []), y15.2)) else (q28 y15.1).bind fun y17 => bif (!decide (y17 = 0)) then (gQ5a y17 eS).bind fun y19 => some (.inr ((Val.mk 0 0 eS [] []), y19)) else some (.inr (y15.1, (DiagG.mk 0 0 eS)))
noncomputable def gQ3r  (s_ : SchemaG) (v_ : Val) : Option (Val × DiagG) :=
 (q28 v_).bind fun y1 => bif (!decide (y1 = 0)) then (gQ5a 1 eS).bind fun y3 => some ((Val.mk 0 0 eS [] []), y3) else bif (!decide (v_.kind = 5)) then (gQ5a 6 eS).bind fun y5 => some ((Val.mk 0 0 eS [] []), y5) else qb (gQ3s s_ v_) 0
theorem gQ3t (hb : Base E E0 G) (he : ∀ w, E w → EnvV w)   (s_ : SchemaG) (v_ : Val) : ∀ r_ : Val × DiagG, gQ3r s_ v_ = some r_ →
 Pure E E0 Tryz.prog 18 [.agg [vL q7 s_.attrs, vL qd s_.nested], .agg (aV v_)] (.tup [.agg (aV r_.1), .agg [vi r_.2.kind, vi r_.2.at_, vS r_.2.name]]) := by
 refine fnE hb Tryz.func18 rfl fun r_ hq => ?_
 refine q6 hb 11 hq (qbg hb he v_) fun y1 hy1 hq => ?_
 refine ifE hb 2 [16] [] hq (fun hq _ => ?_) (fun hq _ => ?_)
 refine q6 hb 4 hq (gQ5b hb he 1 eS) fun y3 hy3 hq => ?_
 exact retE hb 3 (injO hq).symm
 refine ifE hb 9 [21] [] hq (fun hq _ => ?_) (fun hq _ => ?_)
 refine q6 hb 4 hq (gQ5b hb he 6 eS) fun y5 hy5 hq => ?_
 exact retE hb 3 (injO hq).symm
 refine qj hb 8 (gQ3s s_ v_) (fun s1 => sl 85 [(2, pt 0), (3, pt 1), (4, pt 2), (5, pt 3), (6, c1 (vi s1))]) (fun s1 => [bx [vL q7 s_.attrs, vL qd s_.nested], bx (aV v_), bx zV, bx [vi 0, vi 0, vS eS]]) [2, 3, 4, 5, 6] [] 4 (s0 := 0) ⟨(by kernel_rfl), (by kernel_rfl), (by kernel_rfl), (by kernel_rfl), trivial⟩ hq (fun s1 x1 hq hn1 he1 => ?_)
 refine ifE hb 9 [28] [] hq (fun hq _ => ?_) (fun hq _ => ?_)
 refine qe hb mixed 5 12 [10] ?_
 refine idxE hb flS 5 hq fun x7 hx7 hq => ?_
 refine q6 hb 1 hq (gQ3k hb he s_.attrs x7) fun y8 hy8 hq => ?_
 refine qe hb mixed 9 11 [9] ?_
 refine idxE hb flS 4 hq fun x9 hx9 hq => ?_
 refine q6 hb 1 hq (gQ44 hb he s_ x9) fun y10 hy10 hq => ?_
 refine ifE hb 13 [53, 54] [] hq (fun hq _ => ?_) (fun hq _ => ?_)
 refine ifE hb 4 [56, 57] [] hq (fun hq _ => ?_) (fun hq _ => ?_)
 refine idxE hb flS 7 hq fun x13 hx13 hq => ?_
 refine q6 hb 1 hq (gQ5b hb he 13 x13) fun y14 hy14 hq => ?_
 exact retE hb 3 (he1 _ (injO hq))
 exact q9 hb 8 [2, 3, 4, 5, 6] [] 4 (hn1 _ (injO hq)) ⟨(by kernel_rfl), (by kernel_rfl), (by kernel_rfl), (by kernel_rfl), trivial⟩
 exact q9 hb 12 [2, 3, 4, 5, 6] [] 4 (hn1 _ (injO hq)) ⟨(by kernel_rfl), (by kernel_rfl), (by kernel_rfl), (by kernel_rfl), trivial⟩
 refine q6 hb 6 hq (gQ59 hb he s_ v_) fun y15 hy15 hq => ?_
 refine ifE hb 15 [73] [] hq (fun hq _ => ?_) (fun hq _ => ?_)
 refine frzE hb 2 12 5 (ps := [pI .i64 y15.2.kind, pI .i64 y15.2.at_, pS y15.2.name]) (by kernel_rfl) ?_
 refine qe hb mixed 0 2 [1] ?_
 exact retE hb 6 (he1 _ (injO hq))
 refine q6 hb 6 hq (qbg hb he y15.1) fun y17 hy17 hq => ?_
 refine ifE hb 7 [79] [] hq (fun hq _ => ?_) (fun hq _ => ?_)
 refine q6 hb 5 hq (gQ5b hb he y17 eS) fun y19 hy19 hq => ?_
 exact retE hb 3 (he1 _ (injO hq))
 exact retE hb 9 (he1 _ (injO hq))
noncomputable def gQ0s  (s_ : SchemaG) (v_ : Val) : Option (Bool) :=
 (gQ1y s_).bind fun y1 => bif (!y1) then (gQ1e).bind fun y3 => some (y3) else (q79 v_ 150).bind fun y4 => bif (!y4) then (gQ1e).bind fun y6 => some (y6) else (gQ5k s_ v_).bind fun y7 => (gQ3r s_ v_).bind fun y8 => bif (decide ((y7.2.kind : Int) = y8.2.kind) && (decide ((y7.2.at_ : Int) = y8.2.at_) && (decide (y7.2.name = y8.2.name) && true))) then (tQa6 y7.1 y8.1).bind fun y10 => bif y10 then (gQ1e).bind fun y12 => some (y12) else some (false) else some (false)
theorem gQ0t (hb : Base E E0 G) (he : ∀ w, E w → EnvV w)   (s_ : SchemaG) (v_ : Val) : ∀ r_ : Bool, gQ0s s_ v_ = some r_ →
 Pure E E0 Tryz.prog 4 [.agg [vL q7 s_.attrs, vL qd s_.nested], .agg (aV v_)] (c1 (vB r_)) := by
 refine fnE hb Tryz.func4 rfl fun r_ hq => ?_
 refine q6 hb 10 hq (gQ1z hb he s_) fun y1 hy1 hq => ?_
 refine ifE hb 2 [11, 12] [] hq (fun hq _ => ?_) (fun hq _ => ?_)
 refine q6 hb 8 hq (gQ1g hb he ) fun y3 hy3 hq => ?_
 exact retE hb 2 (injO hq).symm
 refine q6 hb 1 hq (qf1 hb he v_ 150) fun y4 hy4 hq => ?_
 refine ifE hb 3 [15, 16] [] hq (fun hq _ => ?_) (fun hq _ => ?_)
 refine q6 hb 3 hq (gQ1g hb he ) fun y6 hy6 hq => ?_
 exact retE hb 2 (injO hq).symm
 refine q6 hb 6 hq (gQ5n hb he s_ v_) fun y7 hy7 hq => ?_
 refine q6 hb 12 hq (gQ3t hb he s_ v_) fun y8 hy8 hq => ?_
 refine ifE hb 14 [32, 33] [] hq (fun hq _ => ?_) (fun hq _ => ?_)
 refine q6 hb 2 hq (tQa7 hb he y7.1 y8.1) fun y10 hy10 hq => ?_
 refine ifE hb 2 [36, 37, 38] [] hq (fun hq _ => ?_) (fun hq _ => ?_)
 refine q6 hb 0 hq (gQ1g hb he ) fun y12 hy12 hq => ?_
 exact retE hb 3 (injO hq).symm
 exact retE hb 4 (injO hq).symm
 exact retE hb 9 (injO hq).symm
noncomputable def gQ1p  (v_ : Val) : Option (Bool) :=
 (q79 v_ 150).bind fun y1 => bif y1 then (q28 v_).bind fun y3 => some (decide (y3 = 0)) else some (false)
theorem gQ1q (hb : Base E E0 G) (he : ∀ w, E w → EnvV w)   (v_ : Val) : ∀ r_ : Bool, gQ1p v_ = some r_ →
 Pure E E0 Tryz.prog 23 [.agg (aV v_)] (c1 (vB r_)) := by
 refine fnE hb Tryz.func23 rfl fun r_ hq => ?_
 refine q6 hb 8 hq (qf1 hb he v_ 150) fun y1 hy1 hq => ?_
 refine ifE hb 1 [4, 5] [] hq (fun hq _ => ?_) (fun hq _ => ?_)
 refine q6 hb 1 hq (qbg hb he v_) fun y3 hy3 hq => ?_
 exact retE hb 4 (injO hq).symm
 exact retE hb 6 (injO hq).symm
noncomputable def gQ40  (s_ : SchemaG) : Option (List ByteArray) :=
 (gQ4e s_).bind fun y1 => some (y1.names)
theorem gQ41 (hb : Base E E0 G) (he : ∀ w, E w → EnvV w)   (s_ : SchemaG) : ∀ r_ : List ByteArray, gQ40 s_ = some r_ →
 Pure E E0 Tryz.prog 73 [.agg [vL q7 s_.attrs, vL qd s_.nested]] (c1 (vL flS r_)) := by
 refine fnE hb Tryz.func73 rfl fun r_ hq => ?_
 refine q6 hb 8 hq (gQ4g hb he s_) fun y1 hy1 hq => ?_
 exact retE hb 3 (injO hq).symm
noncomputable def gQ1n (v_ : Val) (y1 : List ByteArray) (s1 : Int) : Option ((Int) ⊕ (Bool)) :=
 bif (decide (s1 < (y1.length : Int))) then (idx v_.keys s1).bind fun x5 => (idx y1 s1).bind fun x6 => bif (!decide (x5 = x6)) then some (.inr (false)) else some (.inl (IntKind.i64.wrap (s1 + 1))) else some (.inr (true))
noncomputable def gQ1m  (s_ : SchemaG) (v_ : Val) : Option (Bool) :=
 (gQ40 s_).bind fun y1 => bif (!decide (v_.kind = 5)) then some (false) else bif (!decide ((v_.keys.length : Int) = (y1.length : Int))) then some (false) else qb (gQ1n v_ y1) 0
theorem gQ1o (hb : Base E E0 G) (he : ∀ w, E w → EnvV w)   (s_ : SchemaG) (v_ : Val) : ∀ r_ : Bool, gQ1m s_ v_ = some r_ →
 Pure E E0 Tryz.prog 24 [.agg [vL q7 s_.attrs, vL qd s_.nested], .agg (aV v_)] (c1 (vB r_)) := by
 refine fnE hb Tryz.func24 rfl fun r_ hq => ?_
 refine q6 hb 9 hq (gQ41 hb he s_) fun y1 hy1 hq => ?_
 refine ifE hb 9 [11, 12] [] hq (fun hq _ => ?_) (fun hq _ => ?_)
 exact retE hb 13 (injO hq).symm
 refine ifE hb 8 [18, 19] [] hq (fun hq _ => ?_) (fun hq _ => ?_)
 exact retE hb 5 (injO hq).symm
 refine qj hb 8 (gQ1n v_ y1) (fun s1 => sl 36 [(3, pt 1), (5, c1 (vL flS y1)), (6, c1 (vi s1))]) (fun s1 => [none, bx (aV v_)]) [3, 5, 6] [0] 2 (s0 := 0) ⟨rfl, (by kernel_rfl), trivial⟩ hq (fun s1 x1 hq hn1 he1 => ?_)
 refine ifE hb 8 [23] [] hq (fun hq _ => ?_) (fun hq _ => ?_)
 refine qe hb mixed 5 9 [] ?_
 refine idxE hb flS 3 hq fun x5 hx5 hq => ?_
 refine idxE hb flS 3 hq fun x6 hx6 hq => ?_
 refine ifE hb 4 [35] [] hq (fun hq _ => ?_) (fun hq _ => ?_)
 exact retE hb 5 (he1 _ (injO hq))
 exact q9 hb 8 [3, 5, 6] [] 2 (hn1 _ (injO hq)) ⟨rfl, (by kernel_rfl), trivial⟩
 exact retE hb 6 (he1 _ (injO hq))
noncomputable def gQ4m  (s_ : SchemaG) (config_ : Val) (name_ : ByteArray) : Option (Bool) :=
 (gQ3i s_.attrs name_).bind fun y1 => bif (!y1.2) then some (true) else bif (decide (y1.1.mode = 1)) then some (true) else bif (decide (y1.1.mode = 2)) then some (true) else bif (decide (y1.1.mode = 4)) then (gQ45 config_ name_).bind fun y6 => some (!decide (y6.kind = 0)) else some (false)
theorem gQ4n (hb : Base E E0 G) (he : ∀ w, E w → EnvV w)   (s_ : SchemaG) (config_ : Val) (name_ : ByteArray) : ∀ r_ : Bool, gQ4m s_ config_ name_ = some r_ →
 Pure E E0 Tryz.prog 77 [.agg [vL q7 s_.attrs, vL qd s_.nested], .agg (aV config_), .cell (vS name_)] (c1 (vB r_)) := by
 refine fnE hb Tryz.func77 rfl fun r_ hq => ?_
 refine q6 hb 11 hq (gQ3k hb he s_.attrs name_) fun y1 hy1 hq => ?_
 refine ifE hb 13 [17, 18] [] hq (fun hq _ => ?_) (fun hq _ => ?_)
 exact retE hb 15 (injO hq).symm
 refine ifE hb 5 [21, 22, 23] [] hq (fun hq _ => ?_) (fun hq _ => ?_)
 exact retE hb 10 (injO hq).symm
 refine ifE hb 5 [26, 27] [] hq (fun hq _ => ?_) (fun hq _ => ?_)
 exact retE hb 5 (injO hq).symm
 refine ifE hb 8 [30, 31] [] hq (fun hq _ => ?_) (fun hq _ => ?_)
 refine q6 hb 2 hq (gQ46 hb he config_ name_) fun y6 hy6 hq => ?_
 exact retE hb 5 (injO hq).symm
 exact retE hb 8 (injO hq).symm
noncomputable def gQ2f (r_r07_Known : Val → Option (Bool)) (v_ : Val) (s1 : Int) : Option ((Int) ⊕ (Bool)) :=
 bif (decide (s1 < (v_.items.length : Int))) then (idx v_.items s1).bind fun x3 => (r_r07_Known x3).bind fun y4 => bif (!y4) then some (.inr (false)) else some (.inl (IntKind.i64.wrap (s1 + 1))) else some (.inr (true))
noncomputable def gQ2e (r_r07_Known : Val → Option (Bool)) (v_ : Val) : Option (Bool) :=
 bif (decide (v_.kind = 6)) then some (false) else qb (gQ2f r_r07_Known v_) 0
theorem gQ2g (hb : Base E E0 G) (he : ∀ w, E w → EnvV w) (r_r07_Known : Val → Option (Bool)) (hr_r07_Known : ∀ (a0 : Val) (r : Bool), r_r07_Known a0 = some r → Pure E E0 Tryz.prog 121 [.agg (aV a0)] (c1 (vB r))) (v_ : Val) : ∀ r_ : Bool, gQ2e r_r07_Known v_ = some r_ →
 Pure E E0 Tryz.prog 121 [.agg (aV v_)] (c1 (vB r_)) := by
 refine fnE hb Tryz.func121 rfl fun r_ hq => ?_
 refine ifE hb 12 [6] [] hq (fun hq _ => ?_) (fun hq _ => ?_)
 exact retE hb 5 (injO hq).symm
 refine qj hb 8 (gQ2f r_r07_Known v_) (fun s1 => sl 21 [(1, pt 0), (3, c1 (vi s1))]) (fun s1 => [bx (aV v_)]) [1, 3] [] 1 (s0 := 0) ⟨(by kernel_rfl), trivial⟩ hq (fun s1 x1 hq hn1 he1 => ?_)
 refine ifE hb 9 [11] [] hq (fun hq _ => ?_) (fun hq _ => ?_)
 refine idxE hb flV 9 hq fun x3 hx3 hq => ?_
 refine q6 hb 1 hq (hr_r07_Known x3) fun y4 hy4 hq => ?_
 refine ifE hb 2 [20] [] hq (fun hq _ => ?_) (fun hq _ => ?_)
 exact retE hb 5 (he1 _ (injO hq))
 exact q9 hb 8 [1, 3] [] 1 (hn1 _ (injO hq)) ⟨(by kernel_rfl), trivial⟩
 exact retE hb 6 (he1 _ (injO hq))
noncomputable def tQab (rec : Val → Unit → Option (Bool)) (a : Val) (b : Unit) : Option (Bool) :=
 gQ2e (fun a0 => rec a0 ()) a
noncomputable def tQa9 (a0 : Val) : Option (Bool) := tieF relV wfV tQab a0 ()
theorem tQaa (hb : Base E E0 G) (he : ∀ w, E w → EnvV w) (a0 : Val) (r : Bool) (hq : tQa9 a0 = some r) : Pure E E0 Tryz.prog 121 [.agg (aV a0)] (c1 (vB r)) :=
 q30 (C := fun a b r => Pure E E0 Tryz.prog 121 [.agg (aV a)] (c1 (vB r))) (fun rec hr a b r hq => gQ2g hb he (fun a0 => rec a0 ()) (fun a0 r e => hr a0 () r e) a r hq) a0 () r hq
noncomputable def gQ3u  (a_ : Val) (b_ : Val) : Option (Bool) :=
 (tQa6 a_ b_).bind fun y1 => bif (!y1) then some (true) else (tQa9 a_).bind fun y3 => bif (!y3) then some (true) else (tQa9 b_).bind fun y5 => some (!y5)
theorem gQ3v (hb : Base E E0 G) (he : ∀ w, E w → EnvV w)   (a_ : Val) (b_ : Val) : ∀ r_ : Bool, gQ3u a_ b_ = some r_ →
 Pure E E0 Tryz.prog 78 [.agg (aV a_), .agg (aV b_)] (c1 (vB r_)) := by
 refine fnE hb Tryz.func78 rfl fun r_ hq => ?_
 refine q6 hb 10 hq (tQa7 hb he a_ b_) fun y1 hy1 hq => ?_
 refine ifE hb 2 [8, 9] [] hq (fun hq _ => ?_) (fun hq _ => ?_)
 exact retE hb 11 (injO hq).symm
 refine q6 hb 1 hq (tQaa hb he a_) fun y3 hy3 hq => ?_
 refine ifE hb 3 [12, 13, 14] [] hq (fun hq _ => ?_) (fun hq _ => ?_)
 exact retE hb 6 (injO hq).symm
 refine q6 hb 1 hq (tQaa hb he b_) fun y5 hy5 hq => ?_
 exact retE hb 4 (injO hq).symm
noncomputable def gQ49 (s_ : SchemaG) (prior_ : Val) (config_ : Val) (y1 : List ByteArray) (s2 : Int × Bool × List Val × List ByteArray) : Option ((Int × Bool × List Val × List ByteArray) ⊕ ((Bool × Int) ⊕ (Val))) :=
 bif (decide (s2.1 < (y1.length : Int))) then (idx y1 s2.1).bind fun x13 => (gQ3i s_.attrs x13).bind fun y14 => (idx y1 s2.1).bind fun x15 => (gQ45 config_ x15).bind fun y16 => (idx y1 s2.1).bind fun x17 => (gQ4m s_ config_ x17).bind fun y18 => bif (!y18) then (idx y1 s2.1).bind fun x20 => (gQ45 prior_ x20).bind fun y21 => bif (decide (prior_.kind = 0)) then (idx y1 s2.1).bind fun x23 => (app 16 s2.2.2.2 [x23]).bind fun l24 => (app 80 s2.2.2.1 [(Val.mk 6 0 eS [] [])]).bind fun l25 => some (.inl ((IntKind.i64.wrap (s2.1 + 1)), s2.2.1, l25, l24)) else bif s2.2.1 then bif y14.1.volatile then (idx y1 s2.1).bind fun x28 => (app 16 s2.2.2.2 [x28]).bind fun l29 => (app 80 s2.2.2.1 [(Val.mk 6 0 eS [] [])]).bind fun l30 => some (.inl ((IntKind.i64.wrap (s2.1 + 1)), true, l30, l29)) else (idx y1 s2.1).bind fun x31 => (app 16 s2.2.2.2 [x31]).bind fun l32 => (app 80 s2.2.2.1 [y21]).bind fun l33 => some (.inl ((IntKind.i64.wrap (s2.1 + 1)), true, l33, l32)) else (idx y1 s2.1).bind fun x34 => (app 16 s2.2.2.2 [x34]).bind fun l35 => (app 80 s2.2.2.1 [y21]).bind fun l36 => some (.inl ((IntKind.i64.wrap (s2.1 + 1)), false, l36, l35)) else (idx y1 s2.1).bind fun x37 => (app 16 s2.2.2.2 [x37]).bind fun l38 => (app 80 s2.2.2.1 [y16]).bind fun l39 => some (.inl ((IntKind.i64.wrap (s2.1 + 1)), s2.2.1, l39, l38)) else some (.inr (.inr (Val.mk 5 0 eS s2.2.2.1 s2.2.2.2)))
noncomputable def gQ48 (s_ : SchemaG) (prior_ : Val) (config_ : Val) (y1 : List ByteArray) (s1 : Bool × Int) : Option ((Bool × Int) ⊕ (Val)) :=
 bif (decide (s1.2 < (y1.length : Int))) then (idx y1 s1.2).bind fun x3 => (gQ4m s_ config_ x3).bind fun y4 => bif y4 then (idx y1 s1.2).bind fun x6 => (gQ45 config_ x6).bind fun y7 => (idx y1 s1.2).bind fun x8 => (gQ45 prior_ x8).bind fun y9 => (gQ3u y7 y9).bind fun y10 => bif y10 then some (.inl (true, (IntKind.i64.wrap (s1.2 + 1)))) else some (.inl (s1.1, (IntKind.i64.wrap (s1.2 + 1)))) else some (.inl (s1.1, (IntKind.i64.wrap (s1.2 + 1)))) else qb (gQ49 s_ prior_ config_ y1) (0, s1.1, [], [])
noncomputable def gQ47  (s_ : SchemaG) (prior_ : Val) (config_ : Val) : Option (Val) :=
 (gQ40 s_).bind fun y1 => qb (gQ48 s_ prior_ config_ y1) (false, 0)
theorem gQ4a (hb : Base E E0 G) (he : ∀ w, E w → EnvV w)   (s_ : SchemaG) (prior_ : Val) (config_ : Val) : ∀ r_ : Val, gQ47 s_ prior_ config_ = some r_ →
 Pure E E0 Tryz.prog 26 [.agg [vL q7 s_.attrs, vL qd s_.nested], .agg (aV prior_), .agg (aV config_)] (.one (.agg (aV r_))) := by
 refine fnE hb Tryz.func26 rfl fun r_ hq => ?_
 refine q6 hb 10 hq (gQ41 hb he s_) fun y1 hy1 hq => ?_
 refine qj hb 12 (gQ48 s_ prior_ config_ y1) (fun s1 => sl 109 [(3, pt 0), (4, pt 1), (5, pt 2), (6, pt 3), (7, c1 (vL flS y1)), (8, c1 (vB s1.1)), (9, c1 (vi s1.2))]) (fun s1 => [bx [vL q7 s_.attrs, vL qd s_.nested], bx (aV prior_), bx (aV config_), bx zV]) [3, 4, 5, 6, 7, 8, 9] [] 4 (s0 := (false, 0)) ⟨(by kernel_rfl), (by kernel_rfl), (by kernel_rfl), (by kernel_rfl), trivial⟩ hq (fun s1 x1 hq hn1 he1 => ?_)
 refine ifE hb 8 [20] [] hq (fun hq _ => ?_) (fun hq _ => ?_)
 refine qe hb mixed 5 19 [] ?_
 refine idxE hb flS 4 hq fun x3 hx3 hq => ?_
 refine q6 hb 1 hq (gQ4n hb he s_ config_ x3) fun y4 hy4 hq => ?_
 refine ifE hb 1 [29, 30] [] hq (fun hq _ => ?_) (fun hq _ => ?_)
 refine idxE hb flS 3 hq fun x6 hx6 hq => ?_
 refine q6 hb 1 hq (gQ46 hb he config_ x6) fun y7 hy7 hq => ?_
 refine idxE hb flS 3 hq fun x8 hx8 hq => ?_
 refine q6 hb 2 hq (gQ46 hb he prior_ x8) fun y9 hy9 hq => ?_
 refine q6 hb 0 hq (gQ3v hb he y7 y9) fun y10 hy10 hq => ?_
 refine ifE hb 2 [43, 44] [] hq (fun hq _ => ?_) (fun hq _ => ?_)
 exact q9 hb 10 [3, 4, 5, 6, 7, 8, 9] [] 4 (hn1 _ (injO hq)) ⟨(by kernel_rfl), (by kernel_rfl), (by kernel_rfl), (by kernel_rfl), trivial⟩
 exact q9 hb 8 [3, 4, 5, 6, 7, 8, 9] [] 4 (hn1 _ (injO hq)) ⟨(by kernel_rfl), (by kernel_rfl), (by kernel_rfl), (by kernel_rfl), trivial⟩
 exact q9 hb 24 [3, 4, 5, 6, 7, 8, 9] [] 4 (hn1 _ (injO hq)) ⟨(by kernel_rfl), (by kernel_rfl), (by kernel_rfl), (by kernel_rfl), trivial⟩
 refine q17 hb 14 4 3 5 (cs := [vi 5, vi 0, vS eS, vN, vN]) (by kernel_rfl) ?_
 refine q17 hb 0 4 4 1 (cs := [vi 5, vi 0, vS eS, vO flV 5 [], vN]) (by kernel_rfl) ?_
 refine qj hb 0 (gQ49 s_ prior_ config_ y1) (fun s2 => sl 109 [(3, pt 0), (4, pt 1), (5, pt 2), (6, pt 3), (7, c1 (vL flS y1)), (8, c1 (vB s2.2.1)), (10, pt 4), (11, c1 (vi s2.1))]) (fun s2 => [bx [vL q7 s_.attrs, vL qd s_.nested], bx (aV prior_), bx (aV config_), bx zV, bx [vi 5, vi 0, vS eS, vO flV 5 s2.2.2.1, vO flS 6 s2.2.2.2], some (arO true flV.sz 0 (flV.f s2.2.2.1)), some (arO true flS.sz 0 (flS.f s2.2.2.2))]) [3, 4, 5, 6, 7, 8, 10, 11] [] 7 (s0 := (0, s1.1, [], [])) ⟨(by kernel_rfl), (by kernel_rfl), (by kernel_rfl), (by kernel_rfl), (by kernel_rfl), (q8 _ _ _ _ _), (q8 _ _ _ _ _), trivial⟩ hq (fun s2 x2 hq hn2 he2 => ?_)
 refine ifE hb 8 [49] [] hq (fun hq _ => ?_) (fun hq _ => ?_)
 refine qe hb mixed 5 11 [9] ?_
 refine idxE hb flS 4 hq fun x13 hx13 hq => ?_
 refine q6 hb 1 hq (gQ3k hb he s_.attrs x13) fun y14 hy14 hq => ?_
 refine qe hb mixed 9 7 [] ?_
 refine idxE hb flS 3 hq fun x15 hx15 hq => ?_
 refine q6 hb 1 hq (gQ46 hb he config_ x15) fun y16 hy16 hq => ?_
 refine qe hb mixed 6 6 [] ?_
 refine idxE hb flS 4 hq fun x17 hx17 hq => ?_
 refine q6 hb 2 hq (gQ4n hb he s_ config_ x17) fun y18 hy18 hq => ?_
 refine ifE hb 2 [75] [] hq (fun hq _ => ?_) (fun hq _ => ?_)
 refine qe hb mixed 2 5 [] ?_
 refine idxE hb flS 3 hq fun x20 hx20 hq => ?_
 refine q6 hb 2 hq (gQ46 hb he prior_ x20) fun y21 hy21 hq => ?_
 refine ifE hb 8 [84, 85] [] hq (fun hq _ => ?_) (fun hq _ => ?_)
 refine qe hb mixed 13 7 [] ?_
 refine idxE hb flS 4 hq fun x23 hx23 hq => ?_
 refine qg flS hb 3 6 true 0 (flS.one x23) hq fun l24 hl24 hq => ?_
 refine qg flV hb 8 5 true 0 (flV.one (Val.mk 6 0 eS [] [])) hq fun l25 hl25 hq => ?_
 exact q9 hb 9 [3, 4, 5, 6, 7, 8, 10, 11] [] 7 (hn2 _ (injO hq)) ⟨(by kernel_rfl), (by kernel_rfl), (by kernel_rfl), (by kernel_rfl), (by kernel_rfl), (q8 _ _ _ _ _), (q8 _ _ _ _ _), trivial⟩
 refine ifE hb 2 [8, 86, 87] [] hq (fun hq _ => ?_) (fun hq _ => ?_)
 refine ifE hb 5 [89, 90, 91] [] hq (fun hq _ => ?_) (fun hq _ => ?_)
 refine qe hb mixed 6 7 [] ?_
 refine idxE hb flS 4 hq fun x28 hx28 hq => ?_
 refine qg flS hb 3 6 true 0 (flS.one x28) hq fun l29 hl29 hq => ?_
 refine qg flV hb 8 5 true 0 (flV.one (Val.mk 6 0 eS [] [])) hq fun l30 hl30 hq => ?_
 refine cpE hb 4 [3, 4, 5, 6, 7, 8, 10, 11] (s' := ⟨none, [pk Tryz.f26 4051, pk Tryz.f26 506], [(2, [pk Tryz.f26 127])], sl 109 [(3, pt 0), (4, pt 1), (5, pt 2), (6, pt 3), (7, c1 (vL flS y1)), (8, c1 (vB true)), (10, pt 4), (11, c1 (vi s2.1))], [bx [vL q7 s_.attrs, vL qd s_.nested], bx (aV prior_), bx (aV config_), bx zV, bx [vi 5, vi 0, vS eS, vO flV 5 l30, vO flS 6 l29], some (arO true flV.sz 0 (flV.f l30)), some (arO true flS.sz 0 (flS.f l29)), bx [vS y14.1.name, vi y14.1.type_.kind, vL flT y14.1.type_.elems, vL flS y14.1.type_.names, vi y14.1.mode, vB y14.1.replace, vB y14.1.sensitive, vB y14.1.volatile], bx [vi 6, vi 0, vS eS, vN, vN]]⟩) ?_
 exact q9 hb 5 [3, 4, 5, 6, 7, 8, 10, 11] [] 7 (hn2 _ (injO hq)) ⟨(by kernel_rfl), (by kernel_rfl), (by kernel_rfl), (by kernel_rfl), (by kernel_rfl), (q8 _ _ _ _ _), (q8 _ _ _ _ _), trivial⟩
 refine qe hb mixed 3 7 [] ?_
 refine idxE hb flS 4 hq fun x31 hx31 hq => ?_
 refine qg flS hb 3 6 true 0 (flS.one x31) hq fun l32 hl32 hq => ?_
 refine qg flV hb 8 5 true 0 (flV.one y21) hq fun l33 hl33 hq => ?_
 refine cpE hb 4 [3, 4, 5, 6, 7, 8, 10, 11] (s' := ⟨none, [pk Tryz.f26 4051, pk Tryz.f26 506], [(2, [pk Tryz.f26 127])], sl 109 [(3, pt 0), (4, pt 1), (5, pt 2), (6, pt 3), (7, c1 (vL flS y1)), (8, c1 (vB true)), (10, pt 4), (11, c1 (vi s2.1))], [bx [vL q7 s_.attrs, vL qd s_.nested], bx (aV prior_), bx (aV config_), bx zV, bx [vi 5, vi 0, vS eS, vO flV 5 l33, vO flS 6 l32], some (arO true flV.sz 0 (flV.f l33)), some (arO true flS.sz 0 (flS.f l32)), bx [vS y14.1.name, vi y14.1.type_.kind, vL flT y14.1.type_.elems, vL flS y14.1.type_.names, vi y14.1.mode, vB y14.1.replace, vB y14.1.sensitive, vB y14.1.volatile], bx (aV y21)]⟩) ?_
 exact q9 hb 5 [3, 4, 5, 6, 7, 8, 10, 11] [] 7 (hn2 _ (injO hq)) ⟨(by kernel_rfl), (by kernel_rfl), (by kernel_rfl), (by kernel_rfl), (by kernel_rfl), (q8 _ _ _ _ _), (q8 _ _ _ _ _), trivial⟩
 refine qe hb mixed 8 7 [] ?_
 refine idxE hb flS 4 hq fun x34 hx34 hq => ?_
 refine qg flS hb 3 6 true 0 (flS.one x34) hq fun l35 hl35 hq => ?_
 refine qg flV hb 8 5 true 0 (flV.one y21) hq fun l36 hl36 hq => ?_
 exact q9 hb 9 [3, 4, 5, 6, 7, 8, 10, 11] [] 7 (hn2 _ (injO hq)) ⟨(by kernel_rfl), (by kernel_rfl), (by kernel_rfl), (by kernel_rfl), (by kernel_rfl), (q8 _ _ _ _ _), (q8 _ _ _ _ _), trivial⟩
 refine qe hb mixed 3 7 [] ?_
 refine idxE hb flS 4 hq fun x37 hx37 hq => ?_
 refine qg flS hb 3 6 true 0 (flS.one x37) hq fun l38 hl38 hq => ?_
 refine qg flV hb 8 5 true 0 (flV.one y16) hq fun l39 hl39 hq => ?_
 exact q9 hb 9 [3, 4, 5, 6, 7, 8, 10, 11] [] 7 (hn2 _ (injO hq)) ⟨(by kernel_rfl), (by kernel_rfl), (by kernel_rfl), (by kernel_rfl), (by kernel_rfl), (q8 _ _ _ _ _), (q8 _ _ _ _ _), trivial⟩
 refine qq hb 7 5 true (sz := flV.sz) (fr := 0) (cs := flV.f s2.2.2.1) (by kernel_rfl) (Nat.zero_le _) ?_
 refine qn hb 0 3 3 (cs := [vi 5, vi 0, vS eS, vO flV 5 s2.2.2.1, vO flS 6 s2.2.2.2]) (c := vO flV 5 s2.2.2.1) (qr flV (nb := true) (id := 5) (xs := s2.2.2.1) (by kernel_rfl)) (by kernel_rfl) ?_
 refine qq hb 0 6 true (sz := flS.sz) (fr := 0) (cs := flS.f s2.2.2.2) (by kernel_rfl) (Nat.zero_le _) ?_
 refine qn hb 0 3 4 (cs := [vi 5, vi 0, vS eS, vL flV s2.2.2.1, vO flS 6 s2.2.2.2]) (c := vO flS 6 s2.2.2.2) (qr flS (nb := true) (id := 6) (xs := s2.2.2.2) (by kernel_rfl)) (by kernel_rfl) ?_
 exact retE hb 0 (he1 _ ((he2 _ (injO hq)).symm))
noncomputable def gQ1u (a_ : List ByteArray) (b_ : List ByteArray) (s1 : Int) : Option ((Int) ⊕ (Bool)) :=
 bif (decide (s1 < (a_.length : Int))) then (idx a_ s1).bind fun x3 => (idx b_ s1).bind fun x4 => bif (!decide (x3 = x4)) then some (.inr (false)) else some (.inl (IntKind.i64.wrap (s1 + 1))) else some (.inr (true))
noncomputable def gQ1t  (a_ : List ByteArray) (b_ : List ByteArray) : Option (Bool) :=
 bif (!decide ((a_.length : Int) = (b_.length : Int))) then some (false) else qb (gQ1u a_ b_) 0
theorem gQ1v (hb : Base E E0 G) (he : ∀ w, E w → EnvV w)   (a_ : List ByteArray) (b_ : List ByteArray) : ∀ r_ : Bool, gQ1t a_ b_ = some r_ →
 Pure E E0 Tryz.prog 27 [.cell (vL flS a_), .cell (vL flS b_)] (c1 (vB r_)) := by
 refine fnE hb Tryz.func27 rfl fun r_ hq => ?_
 refine ifE hb 13 [10] [] hq (fun hq _ => ?_) (fun hq _ => ?_)
 exact retE hb 5 (injO hq).symm
 refine qj hb 8 (gQ1u a_ b_) (fun s1 => sl 26 [(0, c1 (vL flS a_)), (1, c1 (vL flS b_)), (5, c1 (vi s1))]) (fun s1 => []) [0, 1, 5] [] 0 (s0 := 0) trivial hq (fun s1 x1 hq hn1 he1 => ?_)
 refine ifE hb 8 [14] [] hq (fun hq _ => ?_) (fun hq _ => ?_)
 refine qe hb mixed 5 8 [] ?_
 refine idxE hb flS 2 hq fun x3 hx3 hq => ?_
 refine idxE hb flS 3 hq fun x4 hx4 hq => ?_
 refine ifE hb 4 [25] [] hq (fun hq _ => ?_) (fun hq _ => ?_)
 exact retE hb 5 (he1 _ (injO hq))
 exact q9 hb 8 [0, 1, 5] [] 0 (hn1 _ (injO hq)) trivial
 exact retE hb 6 (he1 _ (injO hq))
noncomputable def gQ3m (before_ : Val) (after_ : Val) (y1 : List ByteArray) (s1 : Int × List ByteArray) : Option ((Int × List ByteArray) ⊕ (List ByteArray)) :=
 bif (decide (s1.1 < (y1.length : Int))) then (idx y1 s1.1).bind fun x3 => (gQ45 before_ x3).bind fun y4 => (idx y1 s1.1).bind fun x5 => (gQ45 after_ x5).bind fun y6 => (gQ3u y4 y6).bind fun y7 => bif y7 then (idx y1 s1.1).bind fun x9 => (app 16 s1.2 [x9]).bind fun l10 => some (.inl ((IntKind.i64.wrap (s1.1 + 1)), l10)) else some (.inl ((IntKind.i64.wrap (s1.1 + 1)), s1.2)) else some (.inr (s1.2))
noncomputable def gQ3l  (s_ : SchemaG) (before_ : Val) (after_ : Val) : Option (List ByteArray) :=
 (gQ40 s_).bind fun y1 => qb (gQ3m before_ after_ y1) (0, [])
theorem gQ3n (hb : Base E E0 G) (he : ∀ w, E w → EnvV w)   (s_ : SchemaG) (before_ : Val) (after_ : Val) : ∀ r_ : List ByteArray, gQ3l s_ before_ after_ = some r_ →
 Pure E E0 Tryz.prog 29 [.agg [vL q7 s_.attrs, vL qd s_.nested], .agg (aV before_), .agg (aV after_)] (c1 (vL flS r_)) := by
 refine fnE hb Tryz.func29 rfl fun r_ hq => ?_
 refine q6 hb 10 hq (gQ41 hb he s_) fun y1 hy1 hq => ?_
 refine q4s hb 12 8 1 ?_
 refine qj hb 0 (gQ3m before_ after_ y1) (fun s1 => sl 39 [(4, pt 1), (5, pt 2), (7, c1 (vL flS y1)), (8, c1 (vO flS 3 s1.2)), (9, c1 (vi s1.1))]) (fun s1 => [none, bx (aV before_), bx (aV after_), some (arO true flS.sz 0 (flS.f s1.2))]) [4, 5, 7, 8, 9] [0] 4 (s0 := (0, [])) ⟨rfl, (by kernel_rfl), (by kernel_rfl), (q8 _ _ _ _ _), trivial⟩ hq (fun s1 x1 hq hn1 he1 => ?_)
 refine ifE hb 8 [15] [] hq (fun hq _ => ?_) (fun hq _ => ?_)
 refine qe hb mixed 5 11 [] ?_
 refine idxE hb flS 3 hq fun x3 hx3 hq => ?_
 refine q6 hb 1 hq (gQ46 hb he before_ x3) fun y4 hy4 hq => ?_
 refine idxE hb flS 3 hq fun x5 hx5 hq => ?_
 refine q6 hb 2 hq (gQ46 hb he after_ x5) fun y6 hy6 hq => ?_
 refine q6 hb 0 hq (gQ3v hb he y4 y6) fun y7 hy7 hq => ?_
 refine ifE hb 1 [30] [] hq (fun hq _ => ?_) (fun hq _ => ?_)
 refine idxE hb flS 5 hq fun x9 hx9 hq => ?_
 refine qg flS hb 2 3 true 0 (flS.one x9) hq fun l10 hl10 hq => ?_
 exact q9 hb 8 [4, 5, 7, 8, 9] [] 4 (hn1 _ (injO hq)) ⟨rfl, (by kernel_rfl), (by kernel_rfl), (q8 _ _ _ _ _), trivial⟩
 exact q9 hb 8 [4, 5, 7, 8, 9] [] 4 (hn1 _ (injO hq)) ⟨rfl, (by kernel_rfl), (by kernel_rfl), (q8 _ _ _ _ _), trivial⟩
 refine qq hb 7 3 true (sz := flS.sz) (fr := 0) (cs := flS.f s1.2) (by kernel_rfl) (Nat.zero_le _) ?_
 refine q54 hb 0 6 (c := vO flS 3 s1.2) (qr flS (nb := true) (id := 3) (xs := s1.2) (by kernel_rfl)) ?_
 exact retE hb 0 (he1 _ (injO hq))
noncomputable def gQ4c (s_ : SchemaG) (y1 : List ByteArray) (s1 : Int × List ByteArray) : Option ((Int × List ByteArray) ⊕ (List ByteArray)) :=
 bif (decide (s1.1 < (y1.length : Int))) then (idx y1 s1.1).bind fun x3 => (gQ3i s_.attrs x3).bind fun y4 => (idx y1 s1.1).bind fun x5 => (gQ42 s_ x5).bind fun y6 => bif y4.1.replace then (idx y1 s1.1).bind fun x8 => (app 16 s1.2 [x8]).bind fun l9 => some (.inl ((IntKind.i64.wrap (s1.1 + 1)), l9)) else bif y6.1.replace then (idx y1 s1.1).bind fun x11 => (app 16 s1.2 [x11]).bind fun l12 => some (.inl ((IntKind.i64.wrap (s1.1 + 1)), l12)) else some (.inl ((IntKind.i64.wrap (s1.1 + 1)), s1.2)) else some (.inr (s1.2))
noncomputable def gQ4b  (s_ : SchemaG) (before_ : Val) (after_ : Val) : Option (List ByteArray) :=
 (gQ3l s_ before_ after_).bind fun y1 => qb (gQ4c s_ y1) (0, [])
theorem gQ4d (hb : Base E E0 G) (he : ∀ w, E w → EnvV w)   (s_ : SchemaG) (before_ : Val) (after_ : Val) : ∀ r_ : List ByteArray, gQ4b s_ before_ after_ = some r_ →
 Pure E E0 Tryz.prog 31 [.agg [vL q7 s_.attrs, vL qd s_.nested], .agg (aV before_), .agg (aV after_)] (c1 (vL flS r_)) := by
 refine fnE hb Tryz.func31 rfl fun r_ hq => ?_
 refine q6 hb 12 hq (gQ3n hb he s_ before_ after_) fun y1 hy1 hq => ?_
 refine q4s hb 12 8 1 ?_
 refine qj hb 0 (gQ4c s_ y1) (fun s1 => sl 57 [(3, pt 0), (7, c1 (vL flS y1)), (8, c1 (vO flS 3 s1.2)), (9, c1 (vi s1.1))]) (fun s1 => [bx [vL q7 s_.attrs, vL qd s_.nested], none, none, some (arO true flS.sz 0 (flS.f s1.2))]) [3, 7, 8, 9] [1, 2] 4 (s0 := (0, [])) ⟨(by kernel_rfl), rfl, rfl, (q8 _ _ _ _ _), trivial⟩ hq (fun s1 x1 hq hn1 he1 => ?_)
 refine ifE hb 8 [21] [] hq (fun hq _ => ?_) (fun hq _ => ?_)
 refine qe hb mixed 5 11 [9] ?_
 refine idxE hb flS 4 hq fun x3 hx3 hq => ?_
 refine q6 hb 1 hq (gQ3k hb he s_.attrs x3) fun y4 hy4 hq => ?_
 refine qe hb mixed 9 10 [8] ?_
 refine idxE hb flS 3 hq fun x5 hx5 hq => ?_
 refine q6 hb 1 hq (gQ44 hb he s_ x5) fun y6 hy6 hq => ?_
 refine ifE hb 13 [44, 45] [] hq (fun hq _ => ?_) (fun hq _ => ?_)
 refine idxE hb flS 9 hq fun x8 hx8 hq => ?_
 refine qg flS hb 2 3 true 0 (flS.one x8) hq fun l9 hl9 hq => ?_
 exact q9 hb 8 [3, 7, 8, 9] [] 4 (hn1 _ (injO hq)) ⟨(by kernel_rfl), rfl, rfl, (q8 _ _ _ _ _), trivial⟩
 refine ifE hb 4 [47, 48] [] hq (fun hq _ => ?_) (fun hq _ => ?_)
 refine idxE hb flS 5 hq fun x11 hx11 hq => ?_
 refine qg flS hb 2 3 true 0 (flS.one x11) hq fun l12 hl12 hq => ?_
 exact q9 hb 8 [3, 7, 8, 9] [] 4 (hn1 _ (injO hq)) ⟨(by kernel_rfl), rfl, rfl, (q8 _ _ _ _ _), trivial⟩
 exact q9 hb 8 [3, 7, 8, 9] [] 4 (hn1 _ (injO hq)) ⟨(by kernel_rfl), rfl, rfl, (q8 _ _ _ _ _), trivial⟩
 refine qq hb 7 3 true (sz := flS.sz) (fr := 0) (cs := flS.f s1.2) (by kernel_rfl) (Nat.zero_le _) ?_
 refine q54 hb 0 6 (c := vO flS 3 s1.2) (qr flS (nb := true) (id := 3) (xs := s1.2) (by kernel_rfl)) ?_
 exact retE hb 0 (he1 _ (injO hq))
noncomputable def gQ19  (s_ : SchemaG) (prior_ : Val) (v_ : Val) : Option (Bool) :=
 (gQ1y s_).bind fun y1 => bif (!y1) then (gQ1e).bind fun y3 => some (y3) else (gQ1p prior_).bind fun y4 => bif (!y4) then (gQ1e).bind fun y6 => some (y6) else (gQ1p v_).bind fun y7 => bif (!y7) then (gQ1e).bind fun y9 => some (y9) else bif (!decide (prior_.kind = 0)) then (gQ1m s_ prior_).bind fun y11 => bif (!y11) then (gQ1e).bind fun y13 => some (y13) else (gQ3r s_ v_).bind fun y14 => bif (!decide (y14.2.kind = 0)) then (gQ1e).bind fun y16 => some (y16) else (gQ62 s_ prior_ y14.1).bind fun y17 => (gQ47 s_ prior_ y14.1).bind fun y18 => (tQa6 y17 y18).bind fun y19 => bif (!y19) then some (false) else (gQ5e s_ prior_ y17).bind fun y21 => (gQ3l s_ prior_ y17).bind fun y22 => (gQ1t y21 y22).bind fun y23 => bif (!y23) then some (false) else (gQ66 s_ prior_ y17).bind fun y25 => (gQ4b s_ prior_ y17).bind fun y26 => (gQ1t y25 y26).bind fun y27 => bif y27 then (gQ1e).bind fun y29 => some (y29) else some (false) else (gQ3r s_ v_).bind fun y30 => bif (!decide (y30.2.kind = 0)) then (gQ1e).bind fun y32 => some (y32) else (gQ62 s_ prior_ y30.1).bind fun y33 => (gQ47 s_ prior_ y30.1).bind fun y34 => (tQa6 y33 y34).bind fun y35 => bif (!y35) then some (false) else (gQ5e s_ prior_ y33).bind fun y37 => (gQ3l s_ prior_ y33).bind fun y38 => (gQ1t y37 y38).bind fun y39 => bif (!y39) then some (false) else (gQ66 s_ prior_ y33).bind fun y41 => (gQ4b s_ prior_ y33).bind fun y42 => (gQ1t y41 y42).bind fun y43 => bif y43 then (gQ1e).bind fun y45 => some (y45) else some (false)
theorem gQ1a (hb : Base E E0 G) (he : ∀ w, E w → EnvV w)   (s_ : SchemaG) (prior_ : Val) (v_ : Val) : ∀ r_ : Bool, gQ19 s_ prior_ v_ = some r_ →
 Pure E E0 Tryz.prog 6 [.agg [vL q7 s_.attrs, vL qd s_.nested], .agg (aV prior_), .agg (aV v_)] (c1 (vB r_)) := by
 refine fnE hb Tryz.func6 rfl fun r_ hq => ?_
 refine q6 hb 11 hq (gQ1z hb he s_) fun y1 hy1 hq => ?_
 refine ifE hb 2 [12, 13] [] hq (fun hq _ => ?_) (fun hq _ => ?_)
 refine q6 hb 24 hq (gQ1g hb he ) fun y3 hy3 hq => ?_
 exact retE hb 2 (injO hq).symm
 refine q6 hb 1 hq (gQ1q hb he prior_) fun y4 hy4 hq => ?_
 refine ifE hb 3 [16, 17, 18] [] hq (fun hq _ => ?_) (fun hq _ => ?_)
 refine q6 hb 19 hq (gQ1g hb he ) fun y6 hy6 hq => ?_
 exact retE hb 2 (injO hq).symm
 refine q6 hb 1 hq (gQ1q hb he v_) fun y7 hy7 hq => ?_
 refine ifE hb 3 [21, 22, 23] [] hq (fun hq _ => ?_) (fun hq _ => ?_)
 refine q6 hb 14 hq (gQ1g hb he ) fun y9 hy9 hq => ?_
 exact retE hb 2 (injO hq).symm
 refine ifE hb 4 [26, 27] [] hq (fun hq _ => ?_) (fun hq _ => ?_)
 refine q6 hb 2 hq (gQ1o hb he s_ prior_) fun y11 hy11 hq => ?_
 refine ifE hb 4 [31, 32, 33] [] hq (fun hq _ => ?_) (fun hq _ => ?_)
 refine q6 hb 3 hq (gQ1g hb he ) fun y13 hy13 hq => ?_
 exact retE hb 2 (injO hq).symm
 refine q6 hb 6 hq (gQ3t hb he s_ v_) fun y14 hy14 hq => ?_
 refine ifE hb 15 [43] [] hq (fun hq _ => ?_) (fun hq _ => ?_)
 refine q6 hb 3 hq (gQ1g hb he ) fun y16 hy16 hq => ?_
 exact retE hb 2 (injO hq).symm
 refine q6 hb 7 hq (gQ65 hb he s_ prior_ y14.1) fun y17 hy17 hq => ?_
 refine qe hb mixed 5 15 [] ?_
 refine q6 hb 4 hq (gQ4a hb he s_ prior_ y14.1) fun y18 hy18 hq => ?_
 refine q6 hb 0 hq (tQa7 hb he y17 y18) fun y19 hy19 hq => ?_
 refine ifE hb 2 [55, 56] [] hq (fun hq _ => ?_) (fun hq _ => ?_)
 exact retE hb 18 (injO hq).symm
 refine q6 hb 3 hq (gQ5g hb he s_ prior_ y17) fun y21 hy21 hq => ?_
 refine q6 hb 4 hq (gQ3n hb he s_ prior_ y17) fun y22 hy22 hq => ?_
 refine q6 hb 0 hq (gQ1v hb he y21 y22) fun y23 hy23 hq => ?_
 refine ifE hb 3 [66, 67] [] hq (fun hq _ => ?_) (fun hq _ => ?_)
 exact retE hb 5 (injO hq).symm
 refine qe hb mixed 3 7 [] ?_
 refine q6 hb 3 hq (gQ68 hb he s_ prior_ y17) fun y25 hy25 hq => ?_
 refine q6 hb 4 hq (gQ4d hb he s_ prior_ y17) fun y26 hy26 hq => ?_
 refine q6 hb 0 hq (gQ1v hb he y25 y26) fun y27 hy27 hq => ?_
 refine ifE hb 1 [76, 77] [] hq (fun hq _ => ?_) (fun hq _ => ?_)
 refine q6 hb 0 hq (gQ1g hb he ) fun y29 hy29 hq => ?_
 exact retE hb 3 (injO hq).symm
 exact retE hb 4 (injO hq).symm
 refine q6 hb 13 hq (gQ3t hb he s_ v_) fun y30 hy30 hq => ?_
 refine ifE hb 15 [43] [] hq (fun hq _ => ?_) (fun hq _ => ?_)
 refine q6 hb 3 hq (gQ1g hb he ) fun y32 hy32 hq => ?_
 exact retE hb 2 (injO hq).symm
 refine q6 hb 7 hq (gQ65 hb he s_ prior_ y30.1) fun y33 hy33 hq => ?_
 refine qe hb mixed 5 15 [] ?_
 refine q6 hb 4 hq (gQ4a hb he s_ prior_ y30.1) fun y34 hy34 hq => ?_
 refine q6 hb 0 hq (tQa7 hb he y33 y34) fun y35 hy35 hq => ?_
 refine ifE hb 2 [55, 56] [] hq (fun hq _ => ?_) (fun hq _ => ?_)
 exact retE hb 18 (injO hq).symm
 refine q6 hb 3 hq (gQ5g hb he s_ prior_ y33) fun y37 hy37 hq => ?_
 refine q6 hb 4 hq (gQ3n hb he s_ prior_ y33) fun y38 hy38 hq => ?_
 refine q6 hb 0 hq (gQ1v hb he y37 y38) fun y39 hy39 hq => ?_
 refine ifE hb 3 [66, 67] [] hq (fun hq _ => ?_) (fun hq _ => ?_)
 exact retE hb 5 (injO hq).symm
 refine qe hb mixed 3 7 [] ?_
 refine q6 hb 3 hq (gQ68 hb he s_ prior_ y33) fun y41 hy41 hq => ?_
 refine q6 hb 4 hq (gQ4d hb he s_ prior_ y33) fun y42 hy42 hq => ?_
 refine q6 hb 0 hq (gQ1v hb he y41 y42) fun y43 hy43 hq => ?_
 refine ifE hb 1 [76, 77] [] hq (fun hq _ => ?_) (fun hq _ => ?_)
 refine q6 hb 0 hq (gQ1g hb he ) fun y45 hy45 hq => ?_
 exact retE hb 3 (injO hq).symm
 exact retE hb 4 (injO hq).symm
end Abs
end Go.Proofs.YtkffpfapfljinaaGreatDoor
