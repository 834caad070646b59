/-
  Schema: Go functions as functions over plain values, with the proof that the code computes them; printed by gen.py.
-/
import Derived.Test.YtkffpfapfljinaaGreatDoorCtM
import Derived.Test.YtkffpfapfljinaaGreatDoorCtI
import Derived.Test.YtkffpfapfljinaaGreatDoorACd
import Derived.Test.YtkffpfapfljinaaGreatDoorAbsS
import Derived.Test.YtkffpfapfljinaaGreatDoorAbsN
namespace Go.Proofs.YtkffpfapfljinaaGreatDoor
namespace Abs
open Go.RowKit
variable {E : World → Prop} {E0 : Nat} {G : Nat → Option (List PV)}
set_option maxRecDepth 100000
set_option linter.unusedVariables false
set_option linter.unusedSimpArgs false
attribute [local irreducible] adv J KE KO mPut mSto q5a mFrm qb5 hedS unl Pure Ok sl qb awpL awp asq asqD asqX asqF
structure AttrG where
 name : ByteArray
 type_ : Ty
 mode : Int
 replace : Bool
 sensitive : Bool
 volatile : Bool
structure NestedG where
 name : ByteArray
 min : Int
 max : Int
 attrs : List AttrG
 replace : Bool
structure SchemaG where
 attrs : List AttrG
 nested : List NestedG
structure DiagG where
 kind : Int
 at_ : Int
 name : ByteArray
def q7 : Fl AttrG := Fl.of (fun x => [pS x.name, pI .i64 x.type_.kind, pL flT x.type_.elems, pL flS x.type_.names, pI .i64 x.mode, pB x.replace, pB x.sensitive, pB x.volatile]) 8 (by decide) (fun _ => rfl)
def qd : Fl NestedG := Fl.of (fun x => [pS x.name, pI .i64 x.min, pI .i64 x.max, pL q7 x.attrs, pB x.replace]) 5 (by decide) (fun _ => rfl)
def qp2 : Fl SchemaG := Fl.of (fun x => [pL q7 x.attrs, pL qd x.nested]) 2 (by decide) (fun _ => rfl)
noncomputable def gQ2t (r_r10_left : Ty → Int → Int → Option (Int)) (t_ : Ty) (levels_ : Int) (s1 : Int × Int) : Option ((Int × Int) ⊕ (Int)) :=
 bif (decide (s1.2 < (t_.elems.length : Int))) then bif (decide (s1.1 ≥ 0)) then (idx t_.elems s1.2).bind fun x5 => (r_r10_left x5 s1.1 (IntKind.i64.wrap (levels_ - 1))).bind fun y6 => some (.inl (y6, (IntKind.i64.wrap (s1.2 + 1)))) else some (.inr (s1.1)) else some (.inr (s1.1))
noncomputable def gQ2s (r_r10_left : Ty → Int → Int → Option (Int)) (t_ : Ty) (nodes_ : Int) (levels_ : Int) : Option (Int) :=
 bif (decide (nodes_ < 1)) then some (-1) else bif (decide (levels_ < 1)) then some (-1) else qb (gQ2t r_r10_left t_ levels_) ((IntKind.i64.wrap (nodes_ - 1)), 0)
theorem gQ2u (hb : Base E E0 G) (he : ∀ w, E w → EnvV w) (r_r10_left : Ty → Int → Int → Option (Int)) (hr_r10_left : ∀ (a0 : Ty) (a1 : Int) (a2 : Int) (r : Int), r_r10_left a0 a1 a2 = some r → Pure E E0 Tryz.prog 131 [.agg (aT a0), .cell (vi a1), .cell (vi a2)] (c1 (vi r))) (t_ : Ty) (nodes_ : Int) (levels_ : Int) : ∀ r_ : Int, gQ2s r_r10_left t_ nodes_ levels_ = some r_ →
 Pure E E0 Tryz.prog 131 [.agg (aT t_), .cell (vi nodes_), .cell (vi levels_)] (c1 (vi r_)) := by
 refine fnE hb Tryz.func131 rfl fun r_ hq => ?_
 refine ifE hb 11 [10, 11] [] hq (fun hq _ => ?_) (fun hq _ => ?_)
 exact retE hb 9 (injO hq).symm
 refine ifE hb 4 [13, 14] [] hq (fun hq _ => ?_) (fun hq _ => ?_)
 exact retE hb 5 (injO hq).symm
 refine qj hb 14 (gQ2t r_r10_left t_ levels_) (fun s1 => sl 38 [(2, c1 (vi levels_)), (3, pt 0), (7, c1 (vi s1.1)), (8, c1 (vi s1.2))]) (fun s1 => [bx (aT t_)]) [2, 3, 7, 8] [] 1 (s0 := ((IntKind.i64.wrap (nodes_ - 1)), 0)) ⟨(by kernel_rfl), trivial⟩ hq (fun s1 x1 hq hn1 he1 => ?_)
 refine ifE hb 9 [21, 22] [] hq (fun hq _ => ?_) (fun hq _ => ?_)
 refine ifE hb 4 [24, 25] [] hq (fun hq _ => ?_) (fun hq _ => ?_)
 refine idxE hb flT 8 hq fun x5 hx5 hq => ?_
 refine q6 hb 4 hq (hr_r10_left x5 s1.1 (IntKind.i64.wrap (levels_ - 1))) fun y6 hy6 hq => ?_
 exact q9 hb 8 [2, 3, 7, 8] [] 1 (hn1 _ (injO hq)) ⟨(by kernel_rfl), trivial⟩
 exact retE hb 7 (he1 _ (injO hq))
 exact retE hb 11 (he1 _ (injO hq))
noncomputable def tQah (rec : Ty → Int × Int → Option (Int)) (a : Ty) (b : Int × Int) : Option (Int) :=
 gQ2s (fun a0 a1 a2 => rec a0 (a1, a2)) a b.1 b.2
noncomputable def tQaf (a0 : Ty) (a1 : Int) (a2 : Int) : Option (Int) := tieF relT wfT tQah a0 (a1, a2)
theorem tQag (hb : Base E E0 G) (he : ∀ w, E w → EnvV w) (a0 : Ty) (a1 : Int) (a2 : Int) (r : Int) (hq : tQaf a0 a1 a2 = some r) : Pure E E0 Tryz.prog 131 [.agg (aT a0), .cell (vi a1), .cell (vi a2)] (c1 (vi r)) :=
 q30 (C := fun a b r => Pure E E0 Tryz.prog 131 [.agg (aT a), .cell (vi b.1), .cell (vi b.2)] (c1 (vi r))) (fun rec hr a b r hq => gQ2u hb he (fun a0 a1 a2 => rec a0 (a1, a2)) (fun a0 a1 a2 r e => hr a0 (a1, a2) r e) a b.1 b.2 r hq) a0 (a1, a2) r hq
noncomputable def gQ2w (r_r10_names : Ty → Option (Int)) (t_ : Ty) (s1 : Int × Int) : Option ((Int × Int) ⊕ (Int)) :=
 bif (decide (s1.2 < (t_.elems.length : Int))) then (idx t_.elems s1.2).bind fun x2 => (r_r10_names x2).bind fun y3 => some (.inl ((IntKind.i64.wrap (s1.1 + y3)), (IntKind.i64.wrap (s1.2 + 1)))) else some (.inr (s1.1))
noncomputable def gQ2v (r_r10_names : Ty → Option (Int)) (t_ : Ty) : Option (Int) :=
 qb (gQ2w r_r10_names t_) ((t_.names.length : Int), 0)
theorem gQ2x (hb : Base E E0 G) (he : ∀ w, E w → EnvV w) (r_r10_names : Ty → Option (Int)) (hr_r10_names : ∀ (a0 : Ty) (r : Int), r_r10_names a0 = some r → Pure E E0 Tryz.prog 132 [.agg (aT a0)] (c1 (vi r))) (t_ : Ty) : ∀ r_ : Int, gQ2v r_r10_names t_ = some r_ →
 Pure E E0 Tryz.prog 132 [.agg (aT t_)] (c1 (vi r_)) := by
 refine fnE hb Tryz.func132 rfl fun r_ hq => ?_
 refine qj hb 18 (gQ2w r_r10_names t_) (fun s1 => sl 24 [(1, pt 0), (3, c1 (vi s1.1)), (4, c1 (vi s1.2))]) (fun s1 => [bx (aT t_)]) [1, 3, 4] [] 1 (s0 := ((t_.names.length : Int), 0)) ⟨(by kernel_rfl), trivial⟩ hq (fun s1 x1 hq hn1 he1 => ?_)
 refine ifE hb 9 [12] [] hq (fun hq _ => ?_) (fun hq _ => ?_)
 refine idxE hb flT 9 hq fun x2 hx2 hq => ?_
 refine q6 hb 1 hq (hr_r10_names x2) fun y3 hy3 hq => ?_
 exact q9 hb 9 [1, 3, 4] [] 1 (hn1 _ (injO hq)) ⟨(by kernel_rfl), trivial⟩
 exact retE hb 7 (he1 _ (injO hq))
noncomputable def tQak (rec : Ty → Unit → Option (Int)) (a : Ty) (b : Unit) : Option (Int) :=
 gQ2v (fun a0 => rec a0 ()) a
noncomputable def tQai (a0 : Ty) : Option (Int) := tieF relT wfT tQak a0 ()
theorem tQaj (hb : Base E E0 G) (he : ∀ w, E w → EnvV w) (a0 : Ty) (r : Int) (hq : tQai a0 = some r) : Pure E E0 Tryz.prog 132 [.agg (aT a0)] (c1 (vi r)) :=
 q30 (C := fun a b r => Pure E E0 Tryz.prog 132 [.agg (aT a)] (c1 (vi r))) (fun rec hr a b r hq => gQ2x hb he (fun a0 => rec a0 ()) (fun a0 r e => hr a0 () r e) a r hq) a0 () r hq
noncomputable def gQ2m  (t_ : Ty) (nodes_ : Int) : Option (Bool) :=
 (tQaf t_ nodes_ 40).bind fun y1 => bif (decide (y1 ≥ 0)) then (tQai t_).bind fun y3 => some (decide (y3 ≤ (IntKind.i64.wrap (2 * nodes_)))) else some (false)
theorem gQ2n (hb : Base E E0 G) (he : ∀ w, E w → EnvV w)   (t_ : Ty) (nodes_ : Int) : ∀ r_ : Bool, gQ2m t_ nodes_ = some r_ →
 Pure E E0 Tryz.prog 94 [.agg (aT t_), .cell (vi nodes_)] (c1 (vB r_)) := by
 refine fnE hb Tryz.func94 rfl fun r_ hq => ?_
 refine q6 hb 9 hq (tQag hb he t_ nodes_ 40) fun y1 hy1 hq => ?_
 refine ifE hb 2 [8, 9] [] hq (fun hq _ => ?_) (fun hq _ => ?_)
 refine q6 hb 1 hq (tQaj hb he t_) fun y3 hy3 hq => ?_
 exact retE hb 6 (injO hq).symm
 exact retE hb 8 (injO hq).symm
noncomputable def gQ1c (l_ : List AttrG) (s1 : Int) : Option ((Int) ⊕ (Bool)) :=
 bif (decide (s1 < (l_.length : Int))) then (idx l_ s1).bind fun x3 => bif (decide ((x3.name.size : Int) > 200)) then some (.inr (false)) else (idx l_ s1).bind fun x5 => (gQ2m x5.type_ 40).bind fun y6 => bif (!y6) then some (.inr (false)) else some (.inl (IntKind.i64.wrap (s1 + 1))) else some (.inr (true))
noncomputable def gQ1b  (l_ : List AttrG) : Option (Bool) :=
 bif (decide ((l_.length : Int) > 70)) then some (false) else qb (gQ1c l_) 0
theorem gQ1d (hb : Base E E0 G) (he : ∀ w, E w → EnvV w)   (l_ : List AttrG) : ∀ r_ : Bool, gQ1b l_ = some r_ →
 Pure E E0 Tryz.prog 44 [.cell (vL q7 l_)] (c1 (vB r_)) := by
 refine fnE hb Tryz.func44 rfl fun r_ hq => ?_
 refine ifE hb 11 [6] [] hq (fun hq _ => ?_) (fun hq _ => ?_)
 exact retE hb 5 (injO hq).symm
 refine qj hb 8 (gQ1c l_) (fun s1 => sl 29 [(0, c1 (vL q7 l_)), (3, c1 (vi s1))]) (fun s1 => []) [0, 3] [] 0 (s0 := 0) trivial hq (fun s1 x1 hq hn1 he1 => ?_)
 refine ifE hb 8 [10] [] hq (fun hq _ => ?_) (fun hq _ => ?_)
 refine idxE hb q7 8 hq fun x3 hx3 hq => ?_
 refine ifE hb 5 [19, 20] [] hq (fun hq _ => ?_) (fun hq _ => ?_)
 exact retE hb 14 (he1 _ (injO hq))
 refine idxE hb q7 2 hq fun x5 hx5 hq => ?_
 refine q6 hb 2 hq (gQ2n hb he x5.type_ 40) fun y6 hy6 hq => ?_
 refine ifE hb 3 [27, 28] [] hq (fun hq _ => ?_) (fun hq _ => ?_)
 exact retE hb 5 (he1 _ (injO hq))
 exact q9 hb 8 [0, 3] [] 0 (hn1 _ (injO hq)) trivial
 exact retE hb 6 (he1 _ (injO hq))
noncomputable def gQ1k (s_ : SchemaG) (s1 : Int) : Option ((Int) ⊕ (Bool)) :=
 bif (decide (s1 < (s_.nested.length : Int))) then (idx s_.nested s1).bind fun x5 => (gQ1b x5.attrs).bind fun y6 => bif (!y6) then some (.inr (false)) else (idx s_.nested s1).bind fun x8 => bif (decide ((x8.name.size : Int) > 200)) then some (.inr (false)) else some (.inl (IntKind.i64.wrap (s1 + 1))) else some (.inr (true))
noncomputable def gQ1j  (s_ : SchemaG) : Option (Bool) :=
 (gQ1b s_.attrs).bind fun y1 => bif (!y1) then some (false) else bif (decide ((s_.nested.length : Int) > 70)) then some (false) else qb (gQ1k s_) 0
theorem gQ1l (hb : Base E E0 G) (he : ∀ w, E w → EnvV w)   (s_ : SchemaG) : ∀ r_ : Bool, gQ1j s_ = some r_ →
 Pure E E0 Tryz.prog 11 [.agg [vL q7 s_.attrs, vL qd s_.nested]] (c1 (vB r_)) := by
 refine fnE hb Tryz.func11 rfl fun r_ hq => ?_
 refine q6 hb 10 hq (gQ1d hb he s_.attrs) fun y1 hy1 hq => ?_
 refine ifE hb 2 [7, 8] [] hq (fun hq _ => ?_) (fun hq _ => ?_)
 exact retE hb 11 (injO hq).symm
 refine ifE hb 6 [12, 13] [] hq (fun hq _ => ?_) (fun hq _ => ?_)
 exact retE hb 5 (injO hq).symm
 refine qj hb 8 (gQ1k s_) (fun s1 => sl 39 [(1, pt 0), (3, c1 (vi s1))]) (fun s1 => [bx [vL q7 s_.attrs, vL qd s_.nested]]) [1, 3] [] 1 (s0 := 0) ⟨(by kernel_rfl), trivial⟩ hq (fun s1 x1 hq hn1 he1 => ?_)
 refine ifE hb 9 [18] [] hq (fun hq _ => ?_) (fun hq _ => ?_)
 refine idxE hb qd 9 hq fun x5 hx5 hq => ?_
 refine q6 hb 2 hq (gQ1d hb he x5.attrs) fun y6 hy6 hq => ?_
 refine ifE hb 2 [28, 29] [] hq (fun hq _ => ?_) (fun hq _ => ?_)
 exact retE hb 15 (he1 _ (injO hq))
 refine idxE hb qd 3 hq fun x8 hx8 hq => ?_
 refine ifE hb 6 [37, 38] [] hq (fun hq _ => ?_) (fun hq _ => ?_)
 exact retE hb 5 (he1 _ (injO hq))
 exact q9 hb 8 [1, 3] [] 1 (hn1 _ (injO hq)) ⟨(by kernel_rfl), trivial⟩
 exact retE hb 6 (he1 _ (injO hq))
noncomputable def gQ7u (t_ : Ty) (y1 : List ByteArray) (s1 : Unit) : Option ((Unit) ⊕ (Ty)) :=
 some (.inr (Ty.mk t_.kind [] y1))
noncomputable def gQ7v (r_schema_typed : Ty → Option (Ty)) (t_ : Ty) (y1 : List ByteArray) (l3 : List Ty) (s1b : Int × List Ty) : Option ((Int × List Ty) ⊕ (Ty)) :=
 bif (decide (s1b.1 < (l3.length : Int))) then (idx s1b.2 s1b.1).bind fun x5 => (r_schema_typed x5).bind fun y6 => (idx s1b.2 s1b.1).bind fun x7 => some (.inl ((IntKind.i64.wrap (s1b.1 + 1)), (upd s1b.2 s1b.1 y6))) else some (.inr (Ty.mk t_.kind s1b.2 y1))
noncomputable def gQ7t (r_schema_typed : Ty → Option (Ty)) (t_ : Ty) : Option (Ty) :=
 (clone 16 t_.names).bind fun y1 => bif (decide ((t_.elems.length : Int) = 0)) then qb (gQ7u t_ y1) () else (clone 56 t_.elems).bind fun l3 => qb (gQ7v r_schema_typed t_ y1 l3) (0, l3)
theorem gQ7w (hb : Base E E0 G) (he : ∀ w, E w → EnvV w) (r_schema_typed : Ty → Option (Ty)) (hr_schema_typed : ∀ (a0 : Ty) (r : Ty), r_schema_typed a0 = some r → Pure E E0 Tryz.prog 85 [.agg (aT a0)] (.one (.agg (aT r)))) (t_ : Ty) : ∀ r_ : Ty, gQ7t r_schema_typed t_ = some r_ →
 Pure E E0 Tryz.prog 85 [.agg (aT t_)] (.one (.agg (aT r_))) := by
 refine fnE hb Tryz.func85 rfl fun r_ hq => ?_
 refine q6 hb 9 hq (q6x hb he t_.names) fun y1 hy1 hq => ?_
 refine ifE hb 7 [] [] hq (fun hq hc2 => ?_) (fun hq hc2 => ?_)
 refine callUE hb 0 (qo2 hb he t_.elems hc2) ?_
 refine qj hb 12 (gQ7u t_ y1) (fun s1 => sl 30 [(1, pt 0), (2, pt 1), (14, c1 (vi 0)), (15, c1 (vi 0))]) (fun s1 => [bx [vi t_.kind, vL flT [], vL flS y1], bx [vi 0, vN, vN]]) [1, 2, 14, 15] [] 2 (s0 := ()) ⟨(by kernel_rfl), (by kernel_rfl), trivial⟩ hq (fun s1 x1 hq hn1 he1 => ?_)
 exact retE hb 12 (he1 _ (injO hq))
 refine q83 hb 0 hq (qo1 hb he _ t_.elems hc2) fun l3 hl3 hq => ?_
 refine q5z flT hb 8 2 false 0 l3 ?_
 refine cpE hb 3 [1, 2, 14, 15] (s' := ⟨none, [pk Tryz.f85 122], [(0, [pk Tryz.f85 31])], sl 30 [(1, pt 0), (2, pt 1), (14, c1 (vi (l3.length : Int))), (15, c1 (vi 0))], [bx [vi t_.kind, vO flT 2 l3, vL flS y1], bx [vi 0, vN, vN], some (arO false flT.sz 0 (flT.f l3))]⟩) ?_
 refine qj hb 0 (gQ7v r_schema_typed t_ y1 l3) (fun s1b => sl 30 [(1, pt 0), (2, pt 1), (14, c1 (vi (l3.length : Int))), (15, c1 (vi s1b.1))]) (fun s1b => [bx [vi t_.kind, vO flT 2 s1b.2, vL flS y1], bx [vi 0, vN, vN], some (arO false flT.sz 0 (flT.f s1b.2))]) [1, 2, 14, 15] [] 3 (s0 := (0, l3)) ⟨(by kernel_rfl), (by kernel_rfl), (q8 _ _ _ _ _), trivial⟩ hq (fun s1b x1 hq hn1 he1 => ?_)
 refine ifE hb 5 [16] [] hq (fun hq _ => ?_) (fun hq _ => ?_)
 refine qe hb mixed 9 9 [] ?_
 refine q46 flT hb 6 2 false 0 hq fun x5 hx5 hq => ?_
 refine qjm flT hb 0 2 false 0 hx5 ?_
 refine q6 hb 0 hq (hr_schema_typed x5) fun y6 hy6 hq => ?_
 refine q46 flT hb 1 2 false 0 hq fun x7 hx7 hq => ?_
 refine qfj flT hb 0 2 hx7 y6 ?_
 refine qn hb 2 0 1 (cs := [vi t_.kind, vO flT 2 s1b.2, vL flS y1]) (c := vO flT 2 s1b.2) (q55 (q5j flT (q4c s1b.2 s1b.1 y6))) (by kernel_rfl) ?_
 exact q9 hb 4 [1, 2, 14, 15] [] 3 (hn1 _ (injO hq)) ⟨(by kernel_rfl), (by kernel_rfl), (q8 _ _ _ _ _), trivial⟩
 refine qq hb 7 2 false (sz := flT.sz) (fr := 0) (cs := flT.f s1b.2) (by kernel_rfl) (Nat.zero_le _) ?_
 refine qn hb 0 1 1 (cs := [vi t_.kind, vO flT 2 s1b.2, vL flS y1]) (c := vO flT 2 s1b.2) (qr flT (nb := false) (id := 2) (xs := s1b.2) (by kernel_rfl)) (by kernel_rfl) ?_
 exact retE hb 0 (he1 _ (injO hq))
noncomputable def tQaq (rec : Ty → Unit → Option (Ty)) (a : Ty) (b : Unit) : Option (Ty) :=
 gQ7t (fun a0 => rec a0 ()) a
noncomputable def tQao (a0 : Ty) : Option (Ty) := tieF relT wfT tQaq a0 ()
theorem tQap (hb : Base E E0 G) (he : ∀ w, E w → EnvV w) (a0 : Ty) (r : Ty) (hq : tQao a0 = some r) : Pure E E0 Tryz.prog 85 [.agg (aT a0)] (.one (.agg (aT r))) :=
 q30 (C := fun a b r => Pure E E0 Tryz.prog 85 [.agg (aT a)] (.one (.agg (aT r)))) (fun rec hr a b r hq => gQ7w hb he (fun a0 => rec a0 ()) (fun a0 r e => hr a0 () r e) a r hq) a0 () r hq
noncomputable def gQ7r (l_ : List AttrG) (s1 : Int × List Ty × List ByteArray) : Option ((Int × List Ty × List ByteArray) ⊕ (Ty)) :=
 bif (decide (s1.1 < (l_.length : Int))) then (idx l_ s1.1).bind fun x2 => (app 16 s1.2.2 [x2.name]).bind fun l3 => (tQao x2.type_).bind fun y4 => (app 56 s1.2.1 [y4]).bind fun l5 => some (.inl ((IntKind.i64.wrap (s1.1 + 1)), l5, l3)) else some (.inr (Ty.mk 6 s1.2.1 s1.2.2))
noncomputable def gQ7q  (l_ : List AttrG) : Option (Ty) :=
 qb (gQ7r l_) (0, [], [])
theorem gQ7s (hb : Base E E0 G) (he : ∀ w, E w → EnvV w)   (l_ : List AttrG) : ∀ r_ : Ty, gQ7q l_ = some r_ →
 Pure E E0 Tryz.prog 69 [.cell (vL q7 l_)] (.one (.agg (aT r_))) := by
 refine fnE hb Tryz.func69 rfl fun r_ hq => ?_
 refine q17 hb 18 1 1 3 (cs := [vi 6, vN, vN]) (by kernel_rfl) ?_
 refine q17 hb 0 1 2 1 (cs := [vi 6, vO flT 2 [], vN]) (by kernel_rfl) ?_
 refine qj hb 0 (gQ7r l_) (fun s1 => sl 30 [(2, pt 0), (3, pt 1), (7, c1 (vL q7 l_)), (8, c1 (vi (l_.length : Int))), (9, c1 (vi s1.1))]) (fun s1 => [bx [vi 0, vN, vN], bx [vi 6, vO flT 2 s1.2.1, vO flS 3 s1.2.2], some (arO true flT.sz 0 (flT.f s1.2.1)), some (arO true flS.sz 0 (flS.f s1.2.2))]) [2, 3, 7, 8, 9] [] 4 (s0 := (0, [], [])) ⟨(by kernel_rfl), (by kernel_rfl), (q8 _ _ _ _ _), (q8 _ _ _ _ _), trivial⟩ hq (fun s1 x1 hq hn1 he1 => ?_)
 refine ifE hb 5 [10] [] hq (fun hq _ => ?_) (fun hq _ => ?_)
 refine idxE hb q7 6 hq fun x2 hx2 hq => ?_
 refine qg flS hb 11 3 true 0 (flS.one x2.name) hq fun l3 hl3 hq => ?_
 refine qe hb mixed 3 6 [] ?_
 refine q6 hb 4 hq (tQap hb he x2.type_) fun y4 hy4 hq => ?_
 refine qg flT hb 2 2 true 0 (flT.one y4) hq fun l5 hl5 hq => ?_
 exact q9 hb 8 [2, 3, 7, 8, 9] [] 4 (hn1 _ (injO hq)) ⟨(by kernel_rfl), (by kernel_rfl), (q8 _ _ _ _ _), (q8 _ _ _ _ _), trivial⟩
 refine qq hb 7 2 true (sz := flT.sz) (fr := 0) (cs := flT.f s1.2.1) (by kernel_rfl) (Nat.zero_le _) ?_
 refine qn hb 0 0 1 (cs := [vi 6, vO flT 2 s1.2.1, vO flS 3 s1.2.2]) (c := vO flT 2 s1.2.1) (qr flT (nb := true) (id := 2) (xs := s1.2.1) (by kernel_rfl)) (by kernel_rfl) ?_
 refine qq hb 0 3 true (sz := flS.sz) (fr := 0) (cs := flS.f s1.2.2) (by kernel_rfl) (Nat.zero_le _) ?_
 refine qn hb 0 0 2 (cs := [vi 6, vL flT s1.2.1, vO flS 3 s1.2.2]) (c := vO flS 3 s1.2.2) (qr flS (nb := true) (id := 3) (xs := s1.2.2) (by kernel_rfl)) (by kernel_rfl) ?_
 exact retE hb 0 (he1 _ (injO hq))
noncomputable def gQ05  (x_ : ByteArray) : Option (Bool) :=
 some (!decide (x_ = x_))
theorem gQ06 (hb : Base E E0 G) (he : ∀ w, E w → EnvV w)   (x_ : ByteArray) : ∀ r_ : Bool, gQ05 x_ = some r_ →
 Pure E E0 Tryz.prog 147 [.cell (vS x_)] (c1 (vB r_)) := by
 refine fnE hb Tryz.func147 rfl fun r_ hq => ?_
 exact retE hb 11 (injO hq).symm
noncomputable def gQ03  (x_ : ByteArray) (y_ : ByteArray) : Option (Bool) :=
 (gQ05 x_).bind fun y1 => bif y1 then (gQ05 y_).bind fun y3 => bif (!y3) then some (true) else some (Op.bytesLess x_.toList y_.toList) else some (Op.bytesLess x_.toList y_.toList)
theorem gQ04 (hb : Base E E0 G) (he : ∀ w, E w → EnvV w)   (x_ : ByteArray) (y_ : ByteArray) : ∀ r_ : Bool, gQ03 x_ y_ = some r_ →
 Pure E E0 Tryz.prog 115 [.cell (vS x_), .cell (vS y_)] (c1 (vB r_)) := by
 refine fnE hb Tryz.func115 rfl fun r_ hq => ?_
 refine q6 hb 7 hq (gQ06 hb he x_) fun y1 hy1 hq => ?_
 refine ifE hb 1 [6, 7] [] hq (fun hq _ => ?_) (fun hq _ => ?_)
 refine q6 hb 1 hq (gQ06 hb he y_) fun y3 hy3 hq => ?_
 refine ifE hb 3 [10, 11, 12] [] hq (fun hq _ => ?_) (fun hq _ => ?_)
 exact retE hb 6 (injO hq).symm
 exact retE hb 6 (injO hq).symm
 exact retE hb 11 (injO hq).symm
noncomputable def gQ88  (x_ : ByteArray) : Option (Bool) :=
 some (!decide (x_ = x_))
theorem gQ89 (hb : Base E E0 G) (he : ∀ w, E w → EnvV w)   (x_ : ByteArray) : ∀ r_ : Bool, gQ88 x_ = some r_ →
 Pure E E0 Tryz.prog 116 [.cell (vS x_)] (c1 (vB r_)) := by
 refine fnE hb Tryz.func116 rfl fun r_ hq => ?_
 exact retE hb 11 (injO hq).symm
noncomputable def gQ7y (x_ : List ByteArray) (target_ : ByteArray) (s1 : Int × Int) : Option ((Int × Int) ⊕ (Int × Bool)) :=
 bif (decide (s1.1 < s1.2)) then (idx x_ (IntKind.i64.wrap (Int.fdiv (IntKind.u64.wrap (IntKind.i64.wrap (s1.1 + s1.2))) (2 ^ (min (1 : Int).toNat IntKind.u64.bits))))).bind fun x2 => (gQ03 x2 target_).bind fun y3 => bif y3 then some (.inl ((IntKind.i64.wrap ((IntKind.i64.wrap (Int.fdiv (IntKind.u64.wrap (IntKind.i64.wrap (s1.1 + s1.2))) (2 ^ (min (1 : Int).toNat IntKind.u64.bits)))) + 1)), s1.2)) else some (.inl (s1.1, (IntKind.i64.wrap (Int.fdiv (IntKind.u64.wrap (IntKind.i64.wrap (s1.1 + s1.2))) (2 ^ (min (1 : Int).toNat IntKind.u64.bits)))))) else bif (decide (s1.1 < (x_.length : Int))) then (idx x_ s1.1).bind fun x6 => bif (decide (x6 = target_)) then some (.inr (s1.1, true)) else (idx x_ s1.1).bind fun x8 => (gQ88 x8).bind fun y9 => bif y9 then (gQ88 target_).bind fun y11 => some (.inr (s1.1, y11)) else some (.inr (s1.1, false)) else some (.inr (s1.1, false))
noncomputable def gQ7x  (x_ : List ByteArray) (target_ : ByteArray) : Option (Int × Bool) :=
 qb (gQ7y x_ target_) (0, (x_.length : Int))
theorem gQ7z (hb : Base E E0 G) (he : ∀ w, E w → EnvV w)   (x_ : List ByteArray) (target_ : ByteArray) : ∀ r_ : Int × Bool, gQ7x x_ target_ = some r_ →
 Pure E E0 Tryz.prog 70 [.cell (vL flS x_), .cell (vS target_)] (.tup [.cell (vi r_.1), .cell (vB r_.2)]) := by
 refine fnE hb Tryz.func70 rfl fun r_ hq => ?_
 refine qj hb 19 (gQ7y x_ target_) (fun s1 => sl 54 [(0, c1 (vL flS x_)), (1, c1 (vS target_)), (6, c1 (vi (x_.length : Int))), (7, c1 (vi s1.1)), (8, c1 (vi s1.2))]) (fun s1 => []) [0, 1, 6, 7, 8] [] 0 (s0 := (0, (x_.length : Int))) trivial hq (fun s1 x1 hq hn1 he1 => ?_)
 refine ifE hb 7 [15] [] hq (fun hq _ => ?_) (fun hq _ => ?_)
 refine idxE hb flS 17 hq fun x2 hx2 hq => ?_
 refine q6 hb 2 hq (gQ04 hb he x2 target_) fun y3 hy3 hq => ?_
 refine ifE hb 1 [27] [] hq (fun hq _ => ?_) (fun hq _ => ?_)
 exact q9 hb 7 [0, 1, 6, 7, 8] [] 0 (hn1 _ (injO hq)) trivial
 exact q9 hb 6 [0, 1, 6, 7, 8] [] 0 (hn1 _ (injO hq)) trivial
 refine ifE hb 9 [34, 35] [] hq (fun hq _ => ?_) (fun hq _ => ?_)
 refine idxE hb flS 2 hq fun x6 hx6 hq => ?_
 refine ifE hb 4 [41, 42] [] hq (fun hq _ => ?_) (fun hq _ => ?_)
 exact retE hb 14 (he1 _ (injO hq))
 refine idxE hb flS 2 hq fun x8 hx8 hq => ?_
 refine q6 hb 1 hq (gQ89 hb he x8) fun y9 hy9 hq => ?_
 refine ifE hb 1 [47, 48] [] hq (fun hq _ => ?_) (fun hq _ => ?_)
 refine q6 hb 1 hq (gQ89 hb he target_) fun y11 hy11 hq => ?_
 exact retE hb 6 (he1 _ (injO hq))
 exact retE hb 8 (he1 _ (injO hq))
 exact retE hb 21 (he1 _ (injO hq))
noncomputable def gQ6c (s_ : SchemaG) (s1i : Int × List Ty × List ByteArray) : Option ((Int × List Ty × List ByteArray) ⊕ (List Ty × List ByteArray)) :=
 bif (decide (s1i.1 < (s_.attrs.length : Int))) then (idx s_.attrs s1i.1).bind fun x2 => (app 16 s1i.2.2 [x2.name]).bind fun l3 => (tQao x2.type_).bind fun y4 => (app 56 s1i.2.1 [y4]).bind fun l5 => some (.inl ((IntKind.i64.wrap (s1i.1 + 1)), l5, l3)) else some (.inr (s1i.2.1, s1i.2.2))
noncomputable def gQ6b  (s_ : SchemaG) : Option (List Ty × List ByteArray) :=
 qb (gQ6c s_) (0, [], [])
theorem gQ6d (hb : Base E E0 G) (he : ∀ w, E w → EnvV w)   (s_ : SchemaG) : ∀ r_ : List Ty × List ByteArray, gQ6b s_ = some r_ →
 Ok E E0 Tryz.prog 69 [.cell (vL q7 s_.attrs)] [bx [vL q7 s_.attrs, vL qd s_.nested], bx [vi 0, vN, vN]] (.one (.agg [vi 6, vO flT 4 r_.1, vO flS 5 r_.2])) [bx [vL q7 s_.attrs, vL qd s_.nested], bx [vi 0, vN, vN], bx [vi 6, vO flT 4 r_.1, vO flS 5 r_.2], none, some (arO true flT.sz 0 (flT.f r_.1)), some (arO true flS.sz 0 (flS.f r_.2))] := by
 refine fnO2 hb Tryz.func69 rfl fun r_ hq => ?_
 refine q17 hb 18 3 1 3 (cs := [vi 6, vN, vN]) (by kernel_rfl) ?_
 refine q17 hb 0 3 2 1 (cs := [vi 6, vO flT 4 [], vN]) (by kernel_rfl) ?_
 refine qj hb 0 (gQ6c s_) (fun s1i => sl 30 [(2, pt 2), (3, pt 3), (7, c1 (vL q7 s_.attrs)), (8, c1 (vi (s_.attrs.length : Int))), (9, c1 (vi s1i.1))]) (fun s1i => [bx [vL q7 s_.attrs, vL qd s_.nested], bx [vi 0, vN, vN], bx [vi 0, vN, vN], bx [vi 6, vO flT 4 s1i.2.1, vO flS 5 s1i.2.2], some (arO true flT.sz 0 (flT.f s1i.2.1)), some (arO true flS.sz 0 (flS.f s1i.2.2))]) [2, 3, 7, 8, 9] [] 6 (s0 := (0, [], [])) ⟨(by kernel_rfl), (by kernel_rfl), (by kernel_rfl), (by kernel_rfl), (q8 _ _ _ _ _), (q8 _ _ _ _ _), trivial⟩ hq (fun s1i x1 hq hn1 he1 => ?_)
 refine ifE hb 5 [10] [] hq (fun hq _ => ?_) (fun hq _ => ?_)
 refine idxE hb q7 6 hq fun x2 hx2 hq => ?_
 refine qg flS hb 11 5 true 0 (flS.one x2.name) hq fun l3 hl3 hq => ?_
 refine qe hb mixed 3 6 [] ?_
 refine q6 hb 4 hq (tQap hb he x2.type_) fun y4 hy4 hq => ?_
 refine qg flT hb 2 4 true 0 (flT.one y4) hq fun l5 hl5 hq => ?_
 exact q9 hb 8 [2, 3, 7, 8, 9] [] 6 (hn1 _ (injO hq)) ⟨(by kernel_rfl), (by kernel_rfl), (by kernel_rfl), (by kernel_rfl), (q8 _ _ _ _ _), (q8 _ _ _ _ _), trivial⟩
 exact q2s hb 7 [2] [3] 6 (σ1 := fun r_ : List Ty × List ByteArray => [bx [vL q7 s_.attrs, vL qd s_.nested], bx [vi 0, vN, vN], bx [vi 6, vO flT 4 r_.1, vO flS 5 r_.2], none, some (arO true flT.sz 0 (flT.f r_.1)), some (arO true flS.sz 0 (flS.f r_.2))]) (he1 _ (injO hq)) ⟨(by kernel_rfl), (by kernel_rfl), (by kernel_rfl), rfl, (q8 _ _ _ _ _), (q8 _ _ _ _ _), trivial⟩
noncomputable def gQ6a (s_ : SchemaG) (s1 : Int × List Ty × List ByteArray) : Option ((Int × List Ty × List ByteArray) ⊕ (Ty)) :=
 bif (decide (s1.1 < (s_.nested.length : Int))) then (idx s_.nested s1.1).bind fun x8 => (gQ7x s1.2.2 x8.name).bind fun y9 => (q5b 16 s1.2.2 y9.1 x8.name).bind fun l10 => (gQ7q x8.attrs).bind fun y11 => (q5b 56 s1.2.1 y9.1 (Ty.mk 4 [y11] [])).bind fun l12 => some (.inl ((IntKind.i64.wrap (s1.1 + 1)), l12, l10)) else some (.inr (Ty.mk 6 s1.2.1 s1.2.2))
noncomputable def gQ69  (s_ : SchemaG) : Option (Ty) :=
 (gQ6b s_).bind fun y6 => qb (gQ6a s_) (0, y6.1, y6.2)
theorem gQ6e (hb : Base E E0 G) (he : ∀ w, E w → EnvV w)   (s_ : SchemaG) : ∀ r_ : Ty, gQ69 s_ = some r_ →
 Pure E E0 Tryz.prog 22 [.agg [vL q7 s_.attrs, vL qd s_.nested]] (.one (.agg (aT r_))) := by
 refine fnE hb Tryz.func22 rfl fun r_ hq => ?_
 refine q45 hb 9 hq (gQ6d hb he s_) fun y6 hy6 hq => ?_
 refine qj hb 12 (gQ6a s_) (fun s1 => sl 47 [(2, pt 1), (3, pt 6), (12, c1 (vL qd s_.nested)), (13, c1 (vi (s_.nested.length : Int))), (14, c1 (vi s1.1))]) (fun s1 => [none, bx [vi 0, vN, vN], none, none, some (arO true flT.sz 0 (flT.f s1.2.1)), some (arO true flS.sz 0 (flS.f s1.2.2)), bx [vi 6, vO flT 4 s1.2.1, vO flS 5 s1.2.2]]) [2, 3, 12, 13, 14] [0, 2] 7 (s0 := (0, y6.1, y6.2)) ⟨rfl, (by kernel_rfl), rfl, rfl, (q8 _ _ _ _ _), (q8 _ _ _ _ _), (by kernel_rfl), trivial⟩ hq (fun s1 x1 hq hn1 he1 => ?_)
 refine ifE hb 5 [15] [] hq (fun hq _ => ?_) (fun hq _ => ?_)
 refine idxE hb qd 6 hq fun x8 hx8 hq => ?_
 refine callVE hb 10 (vs := [.cell (vO flS 5 s1.2.2), .cell (vS x8.name)]) hq (qak (qdi (qal flS (b := true) (id := 5) (fr := 0) (xs := s1.2.2) (by kernel_rfl))) (qak (by kernel_rfl) rfl)) (fun _ => rfl) (gQ7z hb he s1.2.2 x8.name) fun y9 hy9 hq => ?_
 refine q83 hb 14 hq (insS_g hb he 5 true true s1.2.2 y9.1 (flS.one x8.name) (by kernel_rfl)) fun l10 hl10 hq => ?_
 refine qe hb mixed 3 9 [] ?_
 refine q6 hb 5 hq (gQ7s hb he x8.attrs) fun y11 hy11 hq => ?_
 refine q83 hb 4 hq (insT_g hb he 4 true true s1.2.1 y9.1 ((flT.one (Ty.mk 4 [y11] [])).trans (congrArg (fun z => [pI .i64 4, PV.sl false 1 z, pL flS []]) (flT.one y11))) (by kernel_rfl)) fun l12 hl12 hq => ?_
 exact q9 hb 8 [2, 3, 12, 13, 14] [] 7 (hn1 _ (injO hq)) ⟨rfl, (by kernel_rfl), rfl, rfl, (q8 _ _ _ _ _), (q8 _ _ _ _ _), (by kernel_rfl), trivial⟩
 refine qq hb 7 4 true (sz := flT.sz) (fr := 0) (cs := flT.f s1.2.1) (by kernel_rfl) (Nat.zero_le _) ?_
 refine qn hb 0 1 1 (cs := [vi 6, vO flT 4 s1.2.1, vO flS 5 s1.2.2]) (c := vO flT 4 s1.2.1) (qr flT (nb := true) (id := 4) (xs := s1.2.1) (by kernel_rfl)) (by kernel_rfl) ?_
 refine qq hb 0 5 true (sz := flS.sz) (fr := 0) (cs := flS.f s1.2.2) (by kernel_rfl) (Nat.zero_le _) ?_
 refine qn hb 0 1 2 (cs := [vi 6, vL flT s1.2.1, vO flS 5 s1.2.2]) (c := vO flS 5 s1.2.2) (qr flS (nb := true) (id := 5) (xs := s1.2.2) (by kernel_rfl)) (by kernel_rfl) ?_
 exact retE hb 0 (he1 _ (injO hq))
noncomputable def gQ5p (s_ : SchemaG) (name_ : ByteArray) (s1 : Int) : Option ((Int) ⊕ (AttrG × Bool)) :=
 bif (decide (s1 < (s_.attrs.length : Int))) then (idx s_.attrs s1).bind fun x2 => bif (decide (x2.name = name_)) then (tQao x2.type_).bind fun y4 => some (.inr ((AttrG.mk x2.name y4 x2.mode x2.replace x2.sensitive x2.volatile), true)) else some (.inl (IntKind.i64.wrap (s1 + 1))) else some (.inr ((AttrG.mk eS (Ty.mk 0 [] []) 0 false false false), false))
noncomputable def gQ5o  (s_ : SchemaG) (name_ : ByteArray) : Option (AttrG × Bool) :=
 qb (gQ5p s_ name_) 0
theorem gQ5q (hb : Base E E0 G) (he : ∀ w, E w → EnvV w)   (s_ : SchemaG) (name_ : ByteArray) : ∀ r_ : AttrG × Bool, gQ5o s_ name_ = some r_ →
 Pure E E0 Tryz.prog 37 [.agg [vL q7 s_.attrs, vL qd s_.nested], .cell (vS name_)] (.tup [.agg [vS r_.1.name, vi r_.1.type_.kind, vL flT r_.1.type_.elems, vL flS r_.1.type_.names, vi r_.1.mode, vB r_.1.replace, vB r_.1.sensitive, vB r_.1.volatile], .cell (vB r_.2)]) := by
 refine fnE hb Tryz.func37 rfl fun r_ hq => ?_
 refine qj hb 15 (gQ5p s_ name_) (fun s1 => sl 26 [(1, c1 (vS name_)), (4, pt 1), (9, c1 (vL q7 s_.attrs)), (10, c1 (vi (s_.attrs.length : Int))), (11, c1 (vi s1))]) (fun s1 => [none, bx [vS eS, vi 0, vN, vN, vi 0, vB false, vB false, vB false]]) [1, 4, 9, 10, 11] [0] 2 (s0 := 0) ⟨rfl, (by kernel_rfl), trivial⟩ hq (fun s1 x1 hq hn1 he1 => ?_)
 refine ifE hb 5 [12] [] hq (fun hq _ => ?_) (fun hq _ => ?_)
 refine idxE hb q7 6 hq fun x2 hx2 hq => ?_
 refine ifE hb 11 [18] [] hq (fun hq _ => ?_) (fun hq _ => ?_)
 refine q6 hb 5 hq (tQap hb he x2.type_) fun y4 hy4 hq => ?_
 exact retE hb 9 (he1 _ (injO hq))
 exact q9 hb 7 [1, 4, 9, 10, 11] [] 2 (hn1 _ (injO hq)) ⟨rfl, (by kernel_rfl), trivial⟩
 exact retE hb 8 (he1 _ (injO hq))
noncomputable def gQ01 (s_ : ByteArray) (s1 : Int) : Option ((Int) ⊕ (Bool)) :=
 bif (decide (s1 < (s_.size : Int))) then (sidx s_ s1).bind fun c2 => (sidx s_ s1).bind fun c3 => bif (!decide (c3 = 95)) then bif (decide ((IntKind.u8.wrap ((BitVec.ofInt IntKind.u8.bits c2 ||| BitVec.ofInt IntKind.u8.bits 32).toNat : Int)) < 97)) then bif (decide (s1 = 0)) then some (.inr (false)) else (sidx s_ s1).bind fun c7 => bif (decide (c7 < 48)) then some (.inr (false)) else (sidx s_ s1).bind fun c9 => bif (decide (c9 > 57)) then some (.inr (false)) else some (.inl (IntKind.i64.wrap (s1 + 1))) else bif (decide ((IntKind.u8.wrap ((BitVec.ofInt IntKind.u8.bits c2 ||| BitVec.ofInt IntKind.u8.bits 32).toNat : Int)) > 122)) then bif (decide (s1 = 0)) then some (.inr (false)) else (sidx s_ s1).bind fun c13 => bif (decide (c13 < 48)) then some (.inr (false)) else (sidx s_ s1).bind fun c15 => bif (decide (c15 > 57)) then some (.inr (false)) else some (.inl (IntKind.i64.wrap (s1 + 1))) else some (.inl (IntKind.i64.wrap (s1 + 1))) else some (.inl (IntKind.i64.wrap (s1 + 1))) else bif (!decide (s_ = eS)) then some (.inr (decide ((s_.size : Int) ≤ 64))) else some (.inr (false))
noncomputable def gQ00  (s_ : ByteArray) : Option (Bool) :=
 qb (gQ01 s_) 0
theorem gQ02 (hb : Base E E0 G) (he : ∀ w, E w → EnvV w)   (s_ : ByteArray) : ∀ r_ : Bool, gQ00 s_ = some r_ →
 Pure E E0 Tryz.prog 96 [.cell (vS s_)] (c1 (vB r_)) := by
 refine fnE hb Tryz.func96 rfl fun r_ hq => ?_
 refine qj hb 12 (gQ01 s_) (fun s1 => sl 50 [(0, c1 (vS s_)), (6, c1 (vi (s_.size : Int))), (7, c1 (vi s1))]) (fun s1 => []) [0, 6, 7] [] 0 (s0 := 0) trivial hq (fun s1 x1 hq hn1 he1 => ?_)
 refine ifE hb 5 [8] [] hq (fun hq _ => ?_) (fun hq _ => ?_)
 refine q4a hb 13 hq fun c2 hc2 hq => ?_
 refine q4a hb 7 hq fun c3 hc3 hq => ?_
 refine ifE hb 2 [17, 18] [] hq (fun hq _ => ?_) (fun hq _ => ?_)
 refine ifE hb 3 [20, 21] [] hq (fun hq _ => ?_) (fun hq _ => ?_)
 refine ifE hb 8 [28, 29] [] hq (fun hq _ => ?_) (fun hq _ => ?_)
 exact retE hb 18 (he1 _ (injO hq))
 refine q4a hb 2 hq fun c7 hc7 hq => ?_
 refine ifE hb 3 [33, 34, 35] [] hq (fun hq _ => ?_) (fun hq _ => ?_)
 exact retE hb 12 (he1 _ (injO hq))
 refine q4a hb 2 hq fun c9 hc9 hq => ?_
 refine ifE hb 4 [39, 40, 41] [] hq (fun hq _ => ?_) (fun hq _ => ?_)
 exact retE hb 5 (he1 _ (injO hq))
 exact q9 hb 7 [0, 6, 7] [] 0 (hn1 _ (injO hq)) trivial
 refine ifE hb 5 [23, 24, 25, 26] [] hq (fun hq _ => ?_) (fun hq _ => ?_)
 refine ifE hb 3 [28, 29] [] hq (fun hq _ => ?_) (fun hq _ => ?_)
 exact retE hb 18 (he1 _ (injO hq))
 refine q4a hb 2 hq fun c13 hc13 hq => ?_
 refine ifE hb 3 [33, 34, 35] [] hq (fun hq _ => ?_) (fun hq _ => ?_)
 exact retE hb 12 (he1 _ (injO hq))
 refine q4a hb 2 hq fun c15 hc15 hq => ?_
 refine ifE hb 4 [39, 40, 41] [] hq (fun hq _ => ?_) (fun hq _ => ?_)
 exact retE hb 5 (he1 _ (injO hq))
 exact q9 hb 7 [0, 6, 7] [] 0 (hn1 _ (injO hq)) trivial
 exact q9 hb 23 [0, 6, 7] [] 0 (hn1 _ (injO hq)) trivial
 exact q9 hb 31 [0, 6, 7] [] 0 (hn1 _ (injO hq)) trivial
 refine ifE hb 7 [44, 45] [] hq (fun hq _ => ?_) (fun hq _ => ?_)
 exact retE hb 6 (he1 _ (injO hq))
 exact retE hb 6 (he1 _ (injO hq))
noncomputable def gQ8s  (t_ : Ty) : Option (Bool) :=
 bif (decide (t_.kind = 4)) then bif (decide ((t_.elems.length : Int) = 1)) then some (decide ((t_.names.length : Int) = 0)) else some (false) else bif (decide (t_.kind = 5)) then bif (decide ((t_.elems.length : Int) = 1)) then some (decide ((t_.names.length : Int) = 0)) else some (false) else bif (decide (t_.kind = 6)) then some (decide ((t_.elems.length : Int) = (t_.names.length : Int))) else bif (decide (t_.kind ≥ 0)) then bif (decide (t_.kind ≤ 3)) then some (decide ((IntKind.i64.wrap ((t_.elems.length : Int) + (t_.names.length : Int))) = 0)) else some (false) else some (false)
theorem gQ8t (hb : Base E E0 G) (he : ∀ w, E w → EnvV w)   (t_ : Ty) : ∀ r_ : Bool, gQ8s t_ = some r_ →
 Pure E E0 Tryz.prog 133 [.agg (aT t_)] (c1 (vB r_)) := by
 refine fnE hb Tryz.func133 rfl fun r_ hq => ?_
 refine ifE hb 18 [5, 6] [] hq (fun hq _ => ?_) (fun hq _ => ?_)
 refine ifE hb 10 [11, 12] [] hq (fun hq _ => ?_) (fun hq _ => ?_)
 exact retE hb 7 (injO hq).symm
 exact retE hb 7 (injO hq).symm
 refine ifE hb 5 [5, 7] [] hq (fun hq _ => ?_) (fun hq _ => ?_)
 refine ifE hb 8 [11, 12] [] hq (fun hq _ => ?_) (fun hq _ => ?_)
 exact retE hb 7 (injO hq).symm
 exact retE hb 7 (injO hq).symm
 refine ifE hb 6 [18, 19] [] hq (fun hq _ => ?_) (fun hq _ => ?_)
 exact retE hb 12 (injO hq).symm
 refine ifE hb 9 [29, 30] [] hq (fun hq _ => ?_) (fun hq _ => ?_)
 refine ifE hb 5 [33, 34, 35] [] hq (fun hq _ => ?_) (fun hq _ => ?_)
 exact retE hb 11 (injO hq).symm
 exact retE hb 11 (injO hq).symm
 exact retE hb 16 (injO hq).symm
noncomputable def gQ8h (r_types_check : Ty → Int → Option (Int)) (t_ : Ty) (level_ : Int) (s2 : Int) : Option ((Int) ⊕ ((Int) ⊕ (Int))) :=
 bif (decide (s2 < (t_.elems.length : Int))) then (idx t_.elems s2).bind fun x12 => (r_types_check x12 (IntKind.i64.wrap (level_ + 1))).bind fun y13 => bif (!decide (y13 = 0)) then some (.inr (.inr (y13))) else some (.inl (IntKind.i64.wrap (s2 + 1))) else some (.inr (.inr (0)))
noncomputable def gQ8g (r_types_check : Ty → Int → Option (Int)) (t_ : Ty) (level_ : Int) (s1 : Int) : Option ((Int) ⊕ (Int)) :=
 bif (decide (s1 < (t_.names.length : Int))) then (idx t_.names s1).bind fun x5 => (gQ00 x5).bind fun y6 => bif (!y6) then some (.inr (7)) else bif (decide (s1 > 0)) then (idx t_.names (IntKind.i64.wrap (s1 - 1))).bind fun x9 => bif (Op.bytesLess x5.toList x9.toList || decide (x5 = x9)) then some (.inr (1)) else some (.inl (IntKind.i64.wrap (s1 + 1))) else some (.inl (IntKind.i64.wrap (s1 + 1))) else qb (gQ8h r_types_check t_ level_) 0
noncomputable def gQ8f (r_types_check : Ty → Int → Option (Int)) (t_ : Ty) (level_ : Int) : Option (Int) :=
 bif (decide (level_ > 32)) then some (4) else (gQ8s t_).bind fun y2 => bif (!y2) then some (1) else qb (gQ8g r_types_check t_ level_) 0
theorem gQ8i (hb : Base E E0 G) (he : ∀ w, E w → EnvV w) (r_types_check : Ty → Int → Option (Int)) (hr_types_check : ∀ (a0 : Ty) (a1 : Int) (r : Int), r_types_check a0 a1 = some r → Pure E E0 Tryz.prog 97 [.agg (aT a0), .cell (vi a1)] (c1 (vi r))) (t_ : Ty) (level_ : Int) : ∀ r_ : Int, gQ8f r_types_check t_ level_ = some r_ →
 Pure E E0 Tryz.prog 97 [.agg (aT t_), .cell (vi level_)] (c1 (vi r_)) := by
 refine fnE hb Tryz.func97 rfl fun r_ hq => ?_
 refine ifE hb 11 [11] [] hq (fun hq _ => ?_) (fun hq _ => ?_)
 exact retE hb 5 (injO hq).symm
 refine q6 hb 6 hq (gQ8t hb he t_) fun y2 hy2 hq => ?_
 refine ifE hb 2 [14] [] hq (fun hq _ => ?_) (fun hq _ => ?_)
 exact retE hb 5 (injO hq).symm
 refine qj hb 11 (gQ8g r_types_check t_ level_) (fun s1 => sl 54 [(1, c1 (vi level_)), (2, pt 0), (16, c1 (vL flS t_.names)), (17, c1 (vi (t_.names.length : Int))), (18, c1 (vi s1))]) (fun s1 => [bx (aT t_)]) [1, 2, 16, 17, 18] [] 1 (s0 := 0) ⟨(by kernel_rfl), trivial⟩ hq (fun s1 x1 hq hn1 he1 => ?_)
 refine ifE hb 5 [19] [] hq (fun hq _ => ?_) (fun hq _ => ?_)
 refine idxE hb flS 7 hq fun x5 hx5 hq => ?_
 refine q6 hb 8 hq (gQ02 hb he x5) fun y6 hy6 hq => ?_
 refine ifE hb 2 [25] [] hq (fun hq _ => ?_) (fun hq _ => ?_)
 exact retE hb 5 (he1 _ (injO hq))
 refine ifE hb 7 [27, 28] [] hq (fun hq _ => ?_) (fun hq _ => ?_)
 refine idxE hb flS 5 hq fun x9 hx9 hq => ?_
 refine ifE hb 4 [36, 37] [] hq (fun hq _ => ?_) (fun hq _ => ?_)
 exact retE hb 5 (he1 _ (injO hq))
 exact q9 hb 7 [1, 2, 16, 17, 18] [] 1 (hn1 _ (injO hq)) ⟨(by kernel_rfl), trivial⟩
 exact q9 hb 17 [1, 2, 16, 17, 18] [] 1 (hn1 _ (injO hq)) ⟨(by kernel_rfl), trivial⟩
 refine cpE hb 11 [1, 40, 41, 42] (s' := ⟨none, [pk Tryz.f97 250], [(2, [pk Tryz.f97 63])], sl 54 [(1, c1 (vi level_)), (40, c1 (vL flT t_.elems)), (41, c1 (vi (t_.elems.length : Int))), (42, c1 (vi 0))], [bx (aT t_)]⟩) ?_
 refine qj hb 0 (gQ8h r_types_check t_ level_) (fun s2 => sl 54 [(1, c1 (vi level_)), (40, c1 (vL flT t_.elems)), (41, c1 (vi (t_.elems.length : Int))), (42, c1 (vi s2))]) (fun s2 => [none]) [1, 40, 41, 42] [0] 1 (s0 := 0) ⟨rfl, trivial⟩ hq (fun s2 x2 hq hn2 he2 => ?_)
 refine ifE hb 5 [43] [] hq (fun hq _ => ?_) (fun hq _ => ?_)
 refine idxE hb flT 6 hq fun x12 hx12 hq => ?_
 refine q6 hb 9 hq (hr_types_check x12 (IntKind.i64.wrap (level_ + 1))) fun y13 hy13 hq => ?_
 refine ifE hb 7 [51] [] hq (fun hq _ => ?_) (fun hq _ => ?_)
 exact retE hb 6 (he1 _ ((he2 _ (injO hq)).symm))
 exact q9 hb 7 [1, 40, 41, 42] [] 1 (hn2 _ (injO hq)) ⟨rfl, trivial⟩
 exact retE hb 6 (he1 _ ((he2 _ (injO hq)).symm))
noncomputable def tQaw (rec : Ty → Int → Option (Int)) (a : Ty) (b : Int) : Option (Int) :=
 gQ8f (fun a0 a1 => rec a0 a1) a b
noncomputable def tQau (a0 : Ty) (a1 : Int) : Option (Int) := tieF relT wfT tQaw a0 a1
theorem tQav (hb : Base E E0 G) (he : ∀ w, E w → EnvV w) (a0 : Ty) (a1 : Int) (r : Int) (hq : tQau a0 a1 = some r) : Pure E E0 Tryz.prog 97 [.agg (aT a0), .cell (vi a1)] (c1 (vi r)) :=
 q30 (C := fun a b r => Pure E E0 Tryz.prog 97 [.agg (aT a), .cell (vi b)] (c1 (vi r))) (fun rec hr a b r hq => gQ8i hb he (fun a0 a1 => rec a0 a1) (fun a0 a1 r e => hr a0 a1 r e) a b r hq) a0 a1 r hq
noncomputable def gQ8a  (t_ : Ty) : Option (Int) :=
 (tQau t_ 1).bind fun y1 => some (y1)
theorem gQ8b (hb : Base E E0 G) (he : ∀ w, E w → EnvV w)   (t_ : Ty) : ∀ r_ : Int, gQ8a t_ = some r_ →
 Pure E E0 Tryz.prog 47 [.agg (aT t_)] (c1 (vi r_)) := by
 refine fnE hb Tryz.func47 rfl fun r_ hq => ?_
 refine q6 hb 8 hq (tQav hb he t_ 1) fun y1 hy1 hq => ?_
 exact retE hb 2 (injO hq).symm
noncomputable def gQ6f  (a_ : AttrG) (last_ : ByteArray) (first_ : Bool) : Option (Int) :=
 (gQ00 a_.name).bind fun y1 => bif (!y1) then some (7) else bif (!first_) then bif (Op.bytesLess a_.name.toList last_.toList || decide (a_.name = last_)) then some (1) else (gQ8a a_.type_).bind fun y5 => bif (!decide (y5 = 0)) then some (y5) else bif (decide (a_.mode < 1)) then some (1) else bif (decide (a_.mode > 4)) then some (1) else bif a_.volatile then bif (decide (a_.mode < 3)) then some (1) else some (0) else some (0) else (gQ8a a_.type_).bind fun y11 => bif (!decide (y11 = 0)) then some (y11) else bif (decide (a_.mode < 1)) then some (1) else bif (decide (a_.mode > 4)) then some (1) else bif a_.volatile then bif (decide (a_.mode < 3)) then some (1) else some (0) else some (0)
theorem gQ6g (hb : Base E E0 G) (he : ∀ w, E w → EnvV w)   (a_ : AttrG) (last_ : ByteArray) (first_ : Bool) : ∀ r_ : Int, gQ6f a_ last_ first_ = some r_ →
 Pure E E0 Tryz.prog 95 [.agg [vS a_.name, vi a_.type_.kind, vL flT a_.type_.elems, vL flS a_.type_.names, vi a_.mode, vB a_.replace, vB a_.sensitive, vB a_.volatile], .cell (vS last_), .cell (vB first_)] (c1 (vi r_)) := by
 refine fnE hb Tryz.func95 rfl fun r_ hq => ?_
 refine q6 hb 10 hq (gQ02 hb he a_.name) fun y1 hy1 hq => ?_
 refine ifE hb 2 [11] [] hq (fun hq _ => ?_) (fun hq _ => ?_)
 exact retE hb 5 (injO hq).symm
 refine ifE hb 8 [13, 14] [] hq (fun hq _ => ?_) (fun hq _ => ?_)
 refine ifE hb 6 [18, 19] [] hq (fun hq _ => ?_) (fun hq _ => ?_)
 exact retE hb 5 (injO hq).symm
 refine q6 hb 7 hq (gQ8b hb he a_.type_) fun y5 hy5 hq => ?_
 refine ifE hb 7 [24] [] hq (fun hq _ => ?_) (fun hq _ => ?_)
 exact retE hb 6 (injO hq).symm
 refine ifE hb 9 [28, 29] [] hq (fun hq _ => ?_) (fun hq _ => ?_)
 exact retE hb 19 (injO hq).symm
 refine ifE hb 5 [32, 33, 34] [] hq (fun hq _ => ?_) (fun hq _ => ?_)
 exact retE hb 14 (injO hq).symm
 refine ifE hb 3 [36, 37] [] hq (fun hq _ => ?_) (fun hq _ => ?_)
 refine ifE hb 6 [40, 41, 42] [] hq (fun hq _ => ?_) (fun hq _ => ?_)
 exact retE hb 5 (injO hq).symm
 exact retE hb 6 (injO hq).symm
 exact retE hb 12 (injO hq).symm
 refine q6 hb 13 hq (gQ8b hb he a_.type_) fun y11 hy11 hq => ?_
 refine ifE hb 7 [24] [] hq (fun hq _ => ?_) (fun hq _ => ?_)
 exact retE hb 6 (injO hq).symm
 refine ifE hb 9 [28, 29] [] hq (fun hq _ => ?_) (fun hq _ => ?_)
 exact retE hb 19 (injO hq).symm
 refine ifE hb 5 [32, 33, 34] [] hq (fun hq _ => ?_) (fun hq _ => ?_)
 exact retE hb 14 (injO hq).symm
 refine ifE hb 3 [36, 37] [] hq (fun hq _ => ?_) (fun hq _ => ?_)
 refine ifE hb 6 [40, 41, 42] [] hq (fun hq _ => ?_) (fun hq _ => ?_)
 exact retE hb 5 (injO hq).symm
 exact retE hb 6 (injO hq).symm
 exact retE hb 12 (injO hq).symm
noncomputable def gQ6i (l_ : List AttrG) (s1 : Bool × Int × ByteArray) : Option ((Bool × Int × ByteArray) ⊕ (Int)) :=
 bif (decide (s1.2.1 < (l_.length : Int))) then (idx l_ s1.2.1).bind fun x2 => (gQ6f x2 s1.2.2 (decide (s1.2.1 = 0))).bind fun y3 => bif (!decide (y3 = 0)) then some (.inr (y3)) else bif s1.1 then bif (decide (x2.mode > 2)) then some (.inr (1)) else some (.inl (true, (IntKind.i64.wrap (s1.2.1 + 1)), x2.name)) else some (.inl (false, (IntKind.i64.wrap (s1.2.1 + 1)), x2.name)) else some (.inr (0))
noncomputable def gQ6h  (l_ : List AttrG) (configured_ : Bool) : Option (Int) :=
 qb (gQ6i l_) (configured_, 0, eS)
theorem gQ6j (hb : Base E E0 G) (he : ∀ w, E w → EnvV w)   (l_ : List AttrG) (configured_ : Bool) : ∀ r_ : Int, gQ6h l_ configured_ = some r_ →
 Pure E E0 Tryz.prog 45 [.cell (vL q7 l_), .cell (vB configured_)] (c1 (vi r_)) := by
 refine fnE hb Tryz.func45 rfl fun r_ hq => ?_
 refine qj hb 16 (gQ6i l_) (fun s1 => sl 33 [(1, c1 (vB s1.1)), (5, c1 (vS s1.2.2)), (9, c1 (vL q7 l_)), (10, c1 (vi (l_.length : Int))), (11, c1 (vi s1.2.1))]) (fun s1 => []) [1, 5, 9, 10, 11] [] 0 (s0 := (configured_, 0, eS)) trivial hq (fun s1 x1 hq hn1 he1 => ?_)
 refine ifE hb 5 [12] [] hq (fun hq _ => ?_) (fun hq _ => ?_)
 refine idxE hb q7 7 hq fun x2 hx2 hq => ?_
 refine q6 hb 12 hq (gQ6g hb he x2 s1.2.2 (decide (s1.2.1 = 0))) fun y3 hy3 hq => ?_
 refine ifE hb 7 [22] [] hq (fun hq _ => ?_) (fun hq _ => ?_)
 exact retE hb 6 (he1 _ (injO hq))
 refine ifE hb 7 [1, 24, 25] [] hq (fun hq _ => ?_) (fun hq _ => ?_)
 refine ifE hb 5 [28, 29] [] hq (fun hq _ => ?_) (fun hq _ => ?_)
 exact retE hb 5 (he1 _ (injO hq))
 exact q9 hb 12 [1, 5, 9, 10, 11] [] 0 (hn1 _ (injO hq)) trivial
 exact q9 hb 17 [1, 5, 9, 10, 11] [] 0 (hn1 _ (injO hq)) trivial
 exact retE hb 6 (he1 _ (injO hq))
noncomputable def gQ7o  (s_ : SchemaG) (i_ : Int) : Option (Int) :=
 (idx s_.nested i_).bind fun x1 => (gQ00 x1.name).bind fun y2 => bif (!y2) then some (7) else bif (decide (i_ > 0)) then (idx s_.nested (IntKind.i64.wrap (i_ - 1))).bind fun x5 => bif (Op.bytesLess x1.name.toList x5.name.toList || decide (x1.name = x5.name)) then some (1) else (gQ5o s_ x1.name).bind fun y7 => bif y7.2 then some (8) else bif (decide (x1.min < 0)) then some (1) else bif (decide (x1.max < x1.min)) then some (1) else bif (decide (x1.max > 256)) then some (1) else bif (decide ((x1.attrs.length : Int) > 64)) then some (14) else (gQ6h x1.attrs true).bind fun y13 => some (y13) else (gQ5o s_ x1.name).bind fun y14 => bif y14.2 then some (8) else bif (decide (x1.min < 0)) then some (1) else bif (decide (x1.max < x1.min)) then some (1) else bif (decide (x1.max > 256)) then some (1) else bif (decide ((x1.attrs.length : Int) > 64)) then some (14) else (gQ6h x1.attrs true).bind fun y20 => some (y20)
theorem gQ7p (hb : Base E E0 G) (he : ∀ w, E w → EnvV w)   (s_ : SchemaG) (i_ : Int) : ∀ r_ : Int, gQ7o s_ i_ = some r_ →
 Pure E E0 Tryz.prog 46 [.agg [vL q7 s_.attrs, vL qd s_.nested], .cell (vi i_)] (c1 (vi r_)) := by
 refine fnE hb Tryz.func46 rfl fun r_ hq => ?_
 refine idxE hb qd 10 hq fun x1 hx1 hq => ?_
 refine q6 hb 9 hq (gQ02 hb he x1.name) fun y2 hy2 hq => ?_
 refine ifE hb 2 [16] [] hq (fun hq _ => ?_) (fun hq _ => ?_)
 exact retE hb 5 (injO hq).symm
 refine qe hb mixed 4 12 [] ?_
 refine ifE hb 3 [18, 19] [] hq (fun hq _ => ?_) (fun hq _ => ?_)
 refine idxE hb qd 6 hq fun x5 hx5 hq => ?_
 refine ifE hb 6 [29, 30] [] hq (fun hq _ => ?_) (fun hq _ => ?_)
 exact retE hb 5 (injO hq).symm
 refine q6 hb 8 hq (gQ5q hb he s_ x1.name) fun y7 hy7 hq => ?_
 refine ifE hb 11 [7, 37, 38] [] hq (fun hq _ => ?_) (fun hq _ => ?_)
 exact retE hb 5 (injO hq).symm
 refine ifE hb 9 [41, 42] [] hq (fun hq _ => ?_) (fun hq _ => ?_)
 exact retE hb 17 (injO hq).symm
 refine ifE hb 7 [47, 48, 49] [] hq (fun hq _ => ?_) (fun hq _ => ?_)
 exact retE hb 10 (injO hq).symm
 refine ifE hb 5 [52, 53] [] hq (fun hq _ => ?_) (fun hq _ => ?_)
 exact retE hb 5 (injO hq).symm
 refine ifE hb 10 [57] [] hq (fun hq _ => ?_) (fun hq _ => ?_)
 exact retE hb 5 (injO hq).symm
 refine q6 hb 6 hq (gQ6j hb he x1.attrs true) fun y13 hy13 hq => ?_
 exact retE hb 2 (injO hq).symm
 refine q6 hb 21 hq (gQ5q hb he s_ x1.name) fun y14 hy14 hq => ?_
 refine ifE hb 11 [7, 37, 38] [] hq (fun hq _ => ?_) (fun hq _ => ?_)
 exact retE hb 5 (injO hq).symm
 refine ifE hb 9 [41, 42] [] hq (fun hq _ => ?_) (fun hq _ => ?_)
 exact retE hb 17 (injO hq).symm
 refine ifE hb 7 [47, 48, 49] [] hq (fun hq _ => ?_) (fun hq _ => ?_)
 exact retE hb 10 (injO hq).symm
 refine ifE hb 5 [52, 53] [] hq (fun hq _ => ?_) (fun hq _ => ?_)
 exact retE hb 5 (injO hq).symm
 refine ifE hb 10 [57] [] hq (fun hq _ => ?_) (fun hq _ => ?_)
 exact retE hb 5 (injO hq).symm
 refine q6 hb 6 hq (gQ6j hb he x1.attrs true) fun y20 hy20 hq => ?_
 exact retE hb 2 (injO hq).symm
noncomputable def gQ5i (s_ : SchemaG) (s1 : Int) : Option ((Int) ⊕ (Int)) :=
 bif (decide (s1 < (s_.nested.length : Int))) then (gQ7o s_ s1).bind fun y5 => bif (!decide (y5 = 0)) then some (.inr (y5)) else some (.inl (IntKind.i64.wrap (s1 + 1))) else (gQ5o s_ (⟨#[105, 100]⟩ : ByteArray)).bind fun y7 => bif (!y7.2) then some (.inr (12)) else bif (!decide (y7.1.mode = 3)) then some (.inr (1)) else bif (!decide (y7.1.type_.kind = 3)) then some (.inr (1)) else bif y7.1.volatile then some (.inr (1)) else (gQ69 s_).bind fun y12 => (gQ8a y12).bind fun y13 => some (.inr (y13))
noncomputable def gQ5h  (s_ : SchemaG) : Option (Int) :=
 bif (decide ((if (s_.nested.length : Int) > (s_.attrs.length : Int) then (s_.nested.length : Int) else (s_.attrs.length : Int)) > 64)) then some (14) else (gQ6h s_.attrs false).bind fun y2 => bif (!decide (y2 = 0)) then some (y2) else qb (gQ5i s_) 0
theorem gQ5j (hb : Base E E0 G) (he : ∀ w, E w → EnvV w)   (s_ : SchemaG) : ∀ r_ : Int, gQ5h s_ = some r_ →
 Pure E E0 Tryz.prog 12 [.agg [vL q7 s_.attrs, vL qd s_.nested]] (c1 (vi r_)) := by
 refine fnE hb Tryz.func12 rfl fun r_ hq => ?_
 refine ifE hb 17 [15] [] hq (fun hq _ => ?_) (fun hq _ => ?_)
 exact retE hb 5 (injO hq).symm
 refine q6 hb 7 hq (gQ6j hb he s_.attrs false) fun y2 hy2 hq => ?_
 refine ifE hb 7 [20] [] hq (fun hq _ => ?_) (fun hq _ => ?_)
 exact retE hb 6 (injO hq).symm
 refine qj hb 11 (gQ5i s_) (fun s1 => sl 58 [(1, pt 0), (24, c1 (vi (s_.nested.length : Int))), (25, c1 (vi s1))]) (fun s1 => [bx [vL q7 s_.attrs, vL qd s_.nested]]) [1, 24, 25] [] 1 (s0 := 0) ⟨(by kernel_rfl), trivial⟩ hq (fun s1 x1 hq hn1 he1 => ?_)
 refine ifE hb 5 [26] [] hq (fun hq _ => ?_) (fun hq _ => ?_)
 refine q6 hb 13 hq (gQ7p hb he s_ s1) fun y5 hy5 hq => ?_
 refine ifE hb 7 [32] [] hq (fun hq _ => ?_) (fun hq _ => ?_)
 exact retE hb 6 (he1 _ (injO hq))
 exact q9 hb 7 [1, 24, 25] [] 1 (hn1 _ (injO hq)) ⟨(by kernel_rfl), trivial⟩
 refine q6 hb 5 hq (gQ5q hb he s_ (⟨#[105, 100]⟩ : ByteArray)) fun y7 hy7 hq => ?_
 refine ifE hb 13 [41] [] hq (fun hq _ => ?_) (fun hq _ => ?_)
 exact retE hb 5 (he1 _ (injO hq))
 refine ifE hb 9 [44, 45] [] hq (fun hq _ => ?_) (fun hq _ => ?_)
 exact retE hb 15 (he1 _ (injO hq))
 refine ifE hb 6 [49, 50, 51] [] hq (fun hq _ => ?_) (fun hq _ => ?_)
 exact retE hb 9 (he1 _ (injO hq))
 refine ifE hb 4 [53, 54] [] hq (fun hq _ => ?_) (fun hq _ => ?_)
 exact retE hb 5 (he1 _ (injO hq))
 refine q6 hb 5 hq (gQ6e hb he s_) fun y12 hy12 hq => ?_
 refine q6 hb 0 hq (gQ8b hb he y12) fun y13 hy13 hq => ?_
 exact retE hb 2 (he1 _ (injO hq))
noncomputable def gQ52 (l_ : List AttrG) (s1 : Int × List Ty × List ByteArray) : Option ((Int × List Ty × List ByteArray) ⊕ (Ty)) :=
 bif (decide (s1.1 < (l_.length : Int))) then (idx l_ s1.1).bind fun x2 => (app 16 s1.2.2 [x2.name]).bind fun l3 => (idx l_ s1.1).bind fun x4 => (app 56 s1.2.1 [x4.type_]).bind fun l5 => some (.inl ((IntKind.i64.wrap (s1.1 + 1)), l5, l3)) else some (.inr (Ty.mk 6 s1.2.1 s1.2.2))
noncomputable def gQ51  (l_ : List AttrG) : Option (Ty) :=
 qb (gQ52 l_) (0, [], [])
theorem gQ53 (hb : Base E E0 G) (he : ∀ w, E w → EnvV w)   (l_ : List AttrG) : ∀ r_ : Ty, gQ51 l_ = some r_ →
 Pure E E0 Tryz.prog 88 [.cell (vL q7 l_)] (.one (.agg (aT r_))) := by
 refine fnE hb Tryz.func88 rfl fun r_ hq => ?_
 refine q17 hb 16 1 1 3 (cs := [vi 6, vN, vN]) (by kernel_rfl) ?_
 refine q17 hb 0 1 2 1 (cs := [vi 6, vO flT 2 [], vN]) (by kernel_rfl) ?_
 refine qj hb 0 (gQ52 l_) (fun s1 => sl 33 [(0, c1 (vL q7 l_)), (2, pt 0), (3, pt 1), (4, c1 (vi s1.1))]) (fun s1 => [bx [vi 0, vN, vN], bx [vi 6, vO flT 2 s1.2.1, vO flS 3 s1.2.2], some (arO true flT.sz 0 (flT.f s1.2.1)), some (arO true flS.sz 0 (flS.f s1.2.2))]) [0, 2, 3, 4] [] 4 (s0 := (0, [], [])) ⟨(by kernel_rfl), (by kernel_rfl), (q8 _ _ _ _ _), (q8 _ _ _ _ _), trivial⟩ hq (fun s1 x1 hq hn1 he1 => ?_)
 refine ifE hb 8 [9] [] hq (fun hq _ => ?_) (fun hq _ => ?_)
 refine qe hb mixed 5 8 [] ?_
 refine idxE hb q7 4 hq fun x2 hx2 hq => ?_
 refine qg flS hb 4 3 true 0 (flS.one x2.name) hq fun l3 hl3 hq => ?_
 refine qe hb mixed 3 8 [] ?_
 refine idxE hb q7 4 hq fun x4 hx4 hq => ?_
 refine qg flT hb 4 2 true 0 (flT.one x4.type_) hq fun l5 hl5 hq => ?_
 exact q9 hb 9 [0, 2, 3, 4] [] 4 (hn1 _ (injO hq)) ⟨(by kernel_rfl), (by kernel_rfl), (q8 _ _ _ _ _), (q8 _ _ _ _ _), trivial⟩
 refine qq hb 7 2 true (sz := flT.sz) (fr := 0) (cs := flT.f s1.2.1) (by kernel_rfl) (Nat.zero_le _) ?_
 refine qn hb 0 0 1 (cs := [vi 6, vO flT 2 s1.2.1, vO flS 3 s1.2.2]) (c := vO flT 2 s1.2.1) (qr flT (nb := true) (id := 2) (xs := s1.2.1) (by kernel_rfl)) (by kernel_rfl) ?_
 refine qq hb 0 3 true (sz := flS.sz) (fr := 0) (cs := flS.f s1.2.2) (by kernel_rfl) (Nat.zero_le _) ?_
 refine qn hb 0 0 2 (cs := [vi 6, vL flT s1.2.1, vO flS 3 s1.2.2]) (c := vO flS 3 s1.2.2) (qr flS (nb := true) (id := 3) (xs := s1.2.2) (by kernel_rfl)) (by kernel_rfl) ?_
 exact retE hb 0 (he1 _ (injO hq))
noncomputable def gQ4f (s_ : SchemaG) (s1 : Int × Int × List Ty × List ByteArray) : Option ((Int × Int × List Ty × List ByteArray) ⊕ (Ty)) :=
 bif (decide (s1.1 < (s_.attrs.length : Int))) then bif (decide (s1.2.1 = (s_.nested.length : Int))) then (idx s_.attrs s1.1).bind fun x3 => (app 16 s1.2.2.2 [x3.name]).bind fun l4 => (idx s_.attrs s1.1).bind fun x5 => (app 56 s1.2.2.1 [x5.type_]).bind fun l6 => some (.inl ((IntKind.i64.wrap (s1.1 + 1)), s1.2.1, l6, l4)) else (idx s_.attrs s1.1).bind fun x7 => (idx s_.nested s1.2.1).bind fun x8 => bif (Op.bytesLess x7.name.toList x8.name.toList) then (idx s_.attrs s1.1).bind fun x10 => (app 16 s1.2.2.2 [x10.name]).bind fun l11 => (idx s_.attrs s1.1).bind fun x12 => (app 56 s1.2.2.1 [x12.type_]).bind fun l13 => some (.inl ((IntKind.i64.wrap (s1.1 + 1)), s1.2.1, l13, l11)) else (idx s_.nested s1.2.1).bind fun x14 => (app 16 s1.2.2.2 [x14.name]).bind fun l15 => (idx s_.nested s1.2.1).bind fun x16 => (gQ51 x16.attrs).bind fun y17 => (app 56 s1.2.2.1 [(Ty.mk 4 [y17] [])]).bind fun l18 => some (.inl (s1.1, (IntKind.i64.wrap (s1.2.1 + 1)), l18, l15)) else bif (decide (s1.2.1 < (s_.nested.length : Int))) then bif (decide (s1.2.1 = (s_.nested.length : Int))) then (idx s_.attrs s1.1).bind fun x21 => (app 16 s1.2.2.2 [x21.name]).bind fun l22 => (idx s_.attrs s1.1).bind fun x23 => (app 56 s1.2.2.1 [x23.type_]).bind fun l24 => some (.inl ((IntKind.i64.wrap (s1.1 + 1)), s1.2.1, l24, l22)) else (idx s_.nested s1.2.1).bind fun x25 => (app 16 s1.2.2.2 [x25.name]).bind fun l26 => (idx s_.nested s1.2.1).bind fun x27 => (gQ51 x27.attrs).bind fun y28 => (app 56 s1.2.2.1 [(Ty.mk 4 [y28] [])]).bind fun l29 => some (.inl (s1.1, (IntKind.i64.wrap (s1.2.1 + 1)), l29, l26)) else some (.inr (Ty.mk 6 s1.2.2.1 s1.2.2.2))
noncomputable def gQ4e  (s_ : SchemaG) : Option (Ty) :=
 qb (gQ4f s_) (0, 0, [], [])
theorem gQ4g (hb : Base E E0 G) (he : ∀ w, E w → EnvV w)   (s_ : SchemaG) : ∀ r_ : Ty, gQ4e s_ = some r_ →
 Pure E E0 Tryz.prog 41 [.agg [vL q7 s_.attrs, vL qd s_.nested]] (.one (.agg (aT r_))) := by
 refine fnE hb Tryz.func41 rfl fun r_ hq => ?_
 refine q17 hb 18 2 1 3 (cs := [vi 6, vN, vN]) (by kernel_rfl) ?_
 refine q17 hb 0 2 2 1 (cs := [vi 6, vO flT 3 [], vN]) (by kernel_rfl) ?_
 refine qj hb 0 (gQ4f s_) (fun s1 => sl 98 [(1, pt 0), (2, pt 1), (3, pt 2), (4, c1 (vi s1.1)), (5, c1 (vi s1.2.1))]) (fun s1 => [bx [vL q7 s_.attrs, vL qd s_.nested], bx [vi 0, vN, vN], bx [vi 6, vO flT 3 s1.2.2.1, vO flS 4 s1.2.2.2], some (arO true flT.sz 0 (flT.f s1.2.2.1)), some (arO true flS.sz 0 (flS.f s1.2.2.2))]) [1, 2, 3, 4, 5] [] 5 (s0 := (0, 0, [], [])) ⟨(by kernel_rfl), (by kernel_rfl), (by kernel_rfl), (q8 _ _ _ _ _), (q8 _ _ _ _ _), trivial⟩ hq (fun s1 x1 hq hn1 he1 => ?_)
 refine ifE hb 9 [11, 12] [] hq (fun hq hc1 => ?_) (fun hq hc1 => ?_)
 refine qe hb mixed 11 24 [] ?_
 refine ifE hb 6 [23, 24] [] hq (fun hq _ => ?_) (fun hq _ => ?_)
 refine qe hb mixed 25 9 [] ?_
 refine idxE hb q7 5 hq fun x3 hx3 hq => ?_
 refine qg flS hb 4 4 true 0 (flS.one x3.name) hq fun l4 hl4 hq => ?_
 refine qe hb mixed 4 9 [] ?_
 refine idxE hb q7 5 hq fun x5 hx5 hq => ?_
 refine qg flT hb 4 3 true 0 (flT.one x5.type_) hq fun l6 hl6 hq => ?_
 exact q9 hb 9 [1, 2, 3, 4, 5] [] 5 (hn1 _ (injO hq)) ⟨(by kernel_rfl), (by kernel_rfl), (by kernel_rfl), (q8 _ _ _ _ _), (q8 _ _ _ _ _), trivial⟩
 refine knE hb 6 [29, 30] [] (b := (decide (s1.1 < (s_.attrs.length : Int)))) (v := true) hc1 ?_
 refine idxE hb q7 3 hq fun x7 hx7 hq => ?_
 refine idxE hb qd 5 hq fun x8 hx8 hq => ?_
 refine ifE hb 7 [43, 44, 45] [] hq (fun hq _ => ?_) (fun hq _ => ?_)
 refine qe hb mixed 2 9 [] ?_
 refine idxE hb q7 5 hq fun x10 hx10 hq => ?_
 refine qg flS hb 4 4 true 0 (flS.one x10.name) hq fun l11 hl11 hq => ?_
 refine qe hb mixed 4 9 [] ?_
 refine idxE hb q7 5 hq fun x12 hx12 hq => ?_
 refine qg flT hb 4 3 true 0 (flT.one x12.type_) hq fun l13 hl13 hq => ?_
 exact q9 hb 9 [1, 2, 3, 4, 5] [] 5 (hn1 _ (injO hq)) ⟨(by kernel_rfl), (by kernel_rfl), (by kernel_rfl), (q8 _ _ _ _ _), (q8 _ _ _ _ _), trivial⟩
 refine qe hb mixed 2 9 [] ?_
 refine idxE hb qd 5 hq fun x14 hx14 hq => ?_
 refine qg flS hb 4 4 true 0 (flS.one x14.name) hq fun l15 hl15 hq => ?_
 refine qe hb mixed 4 12 [] ?_
 refine idxE hb qd 5 hq fun x16 hx16 hq => ?_
 refine q6 hb 2 hq (gQ53 hb he x16.attrs) fun y17 hy17 hq => ?_
 refine qg flT hb 4 3 true 0 ((flT.one (Ty.mk 4 [y17] [])).trans (congrArg (fun z => [pI .i64 4, PV.sl false 1 z, pL flS []]) (flT.one y17))) hq fun l18 hl18 hq => ?_
 exact q9 hb 9 [1, 2, 3, 4, 5] [] 5 (hn1 _ (injO hq)) ⟨(by kernel_rfl), (by kernel_rfl), (by kernel_rfl), (q8 _ _ _ _ _), (q8 _ _ _ _ _), trivial⟩
 refine ifE hb 7 [17, 18] [] hq (fun hq _ => ?_) (fun hq _ => ?_)
 refine qe hb mixed 4 24 [] ?_
 refine ifE hb 6 [23, 24] [] hq (fun hq _ => ?_) (fun hq _ => ?_)
 refine qe hb mixed 25 9 [] ?_
 refine idxE hb q7 5 hq fun x21 hx21 hq => ?_
 refine qg flS hb 4 4 true 0 (flS.one x21.name) hq fun l22 hl22 hq => ?_
 refine qe hb mixed 4 9 [] ?_
 refine idxE hb q7 5 hq fun x23 hx23 hq => ?_
 refine qg flT hb 4 3 true 0 (flT.one x23.type_) hq fun l24 hl24 hq => ?_
 exact q9 hb 9 [1, 2, 3, 4, 5] [] 5 (hn1 _ (injO hq)) ⟨(by kernel_rfl), (by kernel_rfl), (by kernel_rfl), (q8 _ _ _ _ _), (q8 _ _ _ _ _), trivial⟩
 refine knE hb 6 [29, 30] [] (b := (decide (s1.1 < (s_.attrs.length : Int)))) (v := false) hc1 ?_
 refine qe hb mixed 19 9 [] ?_
 refine idxE hb qd 5 hq fun x25 hx25 hq => ?_
 refine qg flS hb 4 4 true 0 (flS.one x25.name) hq fun l26 hl26 hq => ?_
 refine qe hb mixed 4 12 [] ?_
 refine idxE hb qd 5 hq fun x27 hx27 hq => ?_
 refine q6 hb 2 hq (gQ53 hb he x27.attrs) fun y28 hy28 hq => ?_
 refine qg flT hb 4 3 true 0 ((flT.one (Ty.mk 4 [y28] [])).trans (congrArg (fun z => [pI .i64 4, PV.sl false 1 z, pL flS []]) (flT.one y28))) hq fun l29 hl29 hq => ?_
 exact q9 hb 9 [1, 2, 3, 4, 5] [] 5 (hn1 _ (injO hq)) ⟨(by kernel_rfl), (by kernel_rfl), (by kernel_rfl), (q8 _ _ _ _ _), (q8 _ _ _ _ _), trivial⟩
 refine qq hb 7 3 true (sz := flT.sz) (fr := 0) (cs := flT.f s1.2.2.1) (by kernel_rfl) (Nat.zero_le _) ?_
 refine qn hb 0 1 1 (cs := [vi 6, vO flT 3 s1.2.2.1, vO flS 4 s1.2.2.2]) (c := vO flT 3 s1.2.2.1) (qr flT (nb := true) (id := 3) (xs := s1.2.2.1) (by kernel_rfl)) (by kernel_rfl) ?_
 refine qq hb 0 4 true (sz := flS.sz) (fr := 0) (cs := flS.f s1.2.2.2) (by kernel_rfl) (Nat.zero_le _) ?_
 refine qn hb 0 1 2 (cs := [vi 6, vL flT s1.2.2.1, vO flS 4 s1.2.2.2]) (c := vO flS 4 s1.2.2.2) (qr flS (nb := true) (id := 4) (xs := s1.2.2.2) (by kernel_rfl)) (by kernel_rfl) ?_
 exact retE hb 0 (he1 _ (injO hq))
noncomputable def gQ25  (c_ : Int) : Option (Bool) :=
 bif (decide (c_ ≥ 97)) then bif (decide (c_ ≤ 122)) then some (true) else bif (decide (c_ ≥ 65)) then bif (decide (c_ ≤ 90)) then some (true) else some (decide (c_ = 95)) else some (decide (c_ = 95)) else bif (decide (c_ ≥ 65)) then bif (decide (c_ ≤ 90)) then some (true) else some (decide (c_ = 95)) else some (decide (c_ = 95))
theorem gQ26 (hb : Base E E0 G) (he : ∀ w, E w → EnvV w)   (c_ : Int) : ∀ r_ : Bool, gQ25 c_ = some r_ →
 Pure E E0 Tryz.prog 134 [.cell (vI .u8 c_)] (c1 (vB r_)) := by
 refine fnE hb Tryz.func134 rfl fun r_ hq => ?_
 refine ifE hb 9 [4, 5] [] hq (fun hq _ => ?_) (fun hq _ => ?_)
 refine ifE hb 4 [7, 8, 9] [] hq (fun hq _ => ?_) (fun hq _ => ?_)
 exact retE hb 13 (injO hq).symm
 refine ifE hb 3 [11, 12] [] hq (fun hq _ => ?_) (fun hq _ => ?_)
 refine ifE hb 5 [14, 15, 16, 17] [] hq (fun hq _ => ?_) (fun hq _ => ?_)
 exact retE hb 5 (injO hq).symm
 exact retE hb 5 (injO hq).symm
 exact retE hb 10 (injO hq).symm
 refine ifE hb 7 [11, 12] [] hq (fun hq _ => ?_) (fun hq _ => ?_)
 refine ifE hb 5 [14, 15, 16, 17] [] hq (fun hq _ => ?_) (fun hq _ => ?_)
 exact retE hb 5 (injO hq).symm
 exact retE hb 5 (injO hq).symm
 exact retE hb 10 (injO hq).symm
noncomputable def gQ23 (s_ : ByteArray) (s1 : Int) : Option ((Int) ⊕ (Bool)) :=
 bif (decide (s1 < (s_.size : Int))) then (sidx s_ s1).bind fun c7 => (gQ25 c7).bind fun y8 => bif (!y8) then (sidx s_ s1).bind fun c10 => bif (decide (c10 < 48)) then some (.inr (false)) else (sidx s_ s1).bind fun c12 => bif (decide (c12 > 57)) then some (.inr (false)) else some (.inl (IntKind.i64.wrap (s1 + 1))) else some (.inl (IntKind.i64.wrap (s1 + 1))) else some (.inr (true))
noncomputable def gQ22  (s_ : ByteArray) : Option (Bool) :=
 bif (decide (s_ = eS)) then some (false) else bif (decide ((s_.size : Int) > 64)) then some (false) else (sidx s_ 0).bind fun c3 => (gQ25 c3).bind fun y4 => bif (!y4) then some (false) else qb (gQ23 s_) 0
theorem gQ24 (hb : Base E E0 G) (he : ∀ w, E w → EnvV w)   (s_ : ByteArray) : ∀ r_ : Bool, gQ22 s_ = some r_ →
 Pure E E0 Tryz.prog 99 [.cell (vS s_)] (c1 (vB r_)) := by
 refine fnE hb Tryz.func99 rfl fun r_ hq => ?_
 refine ifE hb 10 [5, 6] [] hq (fun hq _ => ?_) (fun hq _ => ?_)
 exact retE hb 16 (injO hq).symm
 refine ifE hb 5 [9, 10, 11] [] hq (fun hq _ => ?_) (fun hq _ => ?_)
 exact retE hb 11 (injO hq).symm
 refine q4a hb 1 hq fun c3 hc3 hq => ?_
 refine q6 hb 0 hq (gQ26 hb he c3) fun y4 hy4 hq => ?_
 refine ifE hb 3 [15, 16] [] hq (fun hq _ => ?_) (fun hq _ => ?_)
 exact retE hb 5 (injO hq).symm
 refine cpE hb 8 [0, 3] (s' := ⟨none, [pk Tryz.f99 58], [(0, [pk Tryz.f99 15])], sl 40 [(0, c1 (vS s_)), (3, c1 (vi 0))], []⟩) ?_
 refine qj hb 0 (gQ23 s_) (fun s1 => sl 40 [(0, c1 (vS s_)), (3, c1 (vi s1))]) (fun s1 => []) [0, 3] [] 0 (s0 := 0) trivial hq (fun s1 x1 hq hn1 he1 => ?_)
 refine ifE hb 8 [20] [] hq (fun hq _ => ?_) (fun hq _ => ?_)
 refine q4a hb 8 hq fun c7 hc7 hq => ?_
 refine q6 hb 0 hq (gQ26 hb he c7) fun y8 hy8 hq => ?_
 refine ifE hb 2 [27, 28] [] hq (fun hq _ => ?_) (fun hq _ => ?_)
 refine q4a hb 2 hq fun c10 hc10 hq => ?_
 refine ifE hb 2 [32, 33] [] hq (fun hq _ => ?_) (fun hq _ => ?_)
 exact retE hb 12 (he1 _ (injO hq))
 refine q4a hb 2 hq fun c12 hc12 hq => ?_
 refine ifE hb 4 [37, 38, 39] [] hq (fun hq _ => ?_) (fun hq _ => ?_)
 exact retE hb 5 (he1 _ (injO hq))
 exact q9 hb 8 [0, 3] [] 0 (hn1 _ (injO hq)) trivial
 exact q9 hb 20 [0, 3] [] 0 (hn1 _ (injO hq)) trivial
 exact retE hb 6 (he1 _ (injO hq))
noncomputable def gQ2y  (t_ : Ty) : Option (Bool) :=
 bif (decide (t_.kind < 0)) then some (false) else bif (decide (t_.kind > 6)) then some (false) else bif (decide (t_.kind = 6)) then some (decide ((t_.elems.length : Int) = (t_.names.length : Int))) else bif (decide (t_.kind = 4)) then bif (decide ((t_.elems.length : Int) = 1)) then some (decide ((t_.names.length : Int) = 0)) else some (false) else bif (decide (t_.kind = 5)) then bif (decide ((t_.elems.length : Int) = 1)) then some (decide ((t_.names.length : Int) = 0)) else some (false) else bif (decide ((t_.elems.length : Int) = 0)) then some (decide ((t_.names.length : Int) = 0)) else some (false)
theorem gQ2z (hb : Base E E0 G) (he : ∀ w, E w → EnvV w)   (t_ : Ty) : ∀ r_ : Bool, gQ2y t_ = some r_ →
 Pure E E0 Tryz.prog 135 [.agg (aT t_)] (c1 (vB r_)) := by
 refine fnE hb Tryz.func135 rfl fun r_ hq => ?_
 refine ifE hb 12 [5, 6] [] hq (fun hq _ => ?_) (fun hq _ => ?_)
 exact retE hb 10 (injO hq).symm
 refine ifE hb 5 [9, 10] [] hq (fun hq _ => ?_) (fun hq _ => ?_)
 exact retE hb 5 (injO hq).symm
 refine ifE hb 9 [13] [] hq (fun hq _ => ?_) (fun hq _ => ?_)
 exact retE hb 12 (injO hq).symm
 refine ifE hb 9 [23, 24] [] hq (fun hq _ => ?_) (fun hq _ => ?_)
 refine ifE hb 13 [32, 33] [] hq (fun hq _ => ?_) (fun hq _ => ?_)
 exact retE hb 7 (injO hq).symm
 exact retE hb 7 (injO hq).symm
 refine ifE hb 5 [27, 28] [] hq (fun hq _ => ?_) (fun hq _ => ?_)
 refine ifE hb 8 [32, 33] [] hq (fun hq _ => ?_) (fun hq _ => ?_)
 exact retE hb 7 (injO hq).symm
 exact retE hb 7 (injO hq).symm
 refine ifE hb 9 [42, 43] [] hq (fun hq _ => ?_) (fun hq _ => ?_)
 exact retE hb 7 (injO hq).symm
 exact retE hb 7 (injO hq).symm
noncomputable def gQ2q (r_r10_check : Ty → Int → Option (Int)) (t_ : Ty) (level_ : Int) (s2 : Int) : Option ((Int) ⊕ ((Int) ⊕ (Int))) :=
 bif (decide (s2 < (t_.elems.length : Int))) then (idx t_.elems s2).bind fun x13 => (r_r10_check x13 (IntKind.i64.wrap (level_ + 1))).bind fun y14 => bif (!decide (y14 = 0)) then some (.inr (.inr (y14))) else some (.inl (IntKind.i64.wrap (s2 + 1))) else some (.inr (.inr (0)))
noncomputable def gQ2p (r_r10_check : Ty → Int → Option (Int)) (t_ : Ty) (level_ : Int) (s1 : Int) : Option ((Int) ⊕ (Int)) :=
 bif (decide (s1 < (t_.names.length : Int))) then (idx t_.names s1).bind fun x5 => (gQ22 x5).bind fun y6 => bif (!y6) then some (.inr (7)) else bif (decide (s1 > 0)) then (idx t_.names (IntKind.i64.wrap (s1 - 1))).bind fun x9 => (idx t_.names s1).bind fun x10 => bif (!Op.bytesLess x9.toList x10.toList) then some (.inr (1)) else some (.inl (IntKind.i64.wrap (s1 + 1))) else some (.inl (IntKind.i64.wrap (s1 + 1))) else qb (gQ2q r_r10_check t_ level_) 0
noncomputable def gQ2o (r_r10_check : Ty → Int → Option (Int)) (t_ : Ty) (level_ : Int) : Option (Int) :=
 bif (decide (level_ > 32)) then some (4) else (gQ2y t_).bind fun y2 => bif (!y2) then some (1) else qb (gQ2p r_r10_check t_ level_) 0
theorem gQ2r (hb : Base E E0 G) (he : ∀ w, E w → EnvV w) (r_r10_check : Ty → Int → Option (Int)) (hr_r10_check : ∀ (a0 : Ty) (a1 : Int) (r : Int), r_r10_check a0 a1 = some r → Pure E E0 Tryz.prog 100 [.agg (aT a0), .cell (vi a1)] (c1 (vi r))) (t_ : Ty) (level_ : Int) : ∀ r_ : Int, gQ2o r_r10_check t_ level_ = some r_ →
 Pure E E0 Tryz.prog 100 [.agg (aT t_), .cell (vi level_)] (c1 (vi r_)) := by
 refine fnE hb Tryz.func100 rfl fun r_ hq => ?_
 refine ifE hb 11 [9] [] hq (fun hq _ => ?_) (fun hq _ => ?_)
 exact retE hb 5 (injO hq).symm
 refine q6 hb 6 hq (gQ2z hb he t_) fun y2 hy2 hq => ?_
 refine ifE hb 2 [12] [] hq (fun hq _ => ?_) (fun hq _ => ?_)
 exact retE hb 5 (injO hq).symm
 refine qj hb 8 (gQ2p r_r10_check t_ level_) (fun s1 => sl 61 [(1, c1 (vi level_)), (2, pt 0), (5, c1 (vi s1))]) (fun s1 => [bx (aT t_)]) [1, 2, 5] [] 1 (s0 := 0) ⟨(by kernel_rfl), trivial⟩ hq (fun s1 x1 hq hn1 he1 => ?_)
 refine ifE hb 9 [17] [] hq (fun hq _ => ?_) (fun hq _ => ?_)
 refine idxE hb flS 10 hq fun x5 hx5 hq => ?_
 refine q6 hb 1 hq (gQ24 hb he x5) fun y6 hy6 hq => ?_
 refine ifE hb 2 [26] [] hq (fun hq _ => ?_) (fun hq _ => ?_)
 exact retE hb 5 (he1 _ (injO hq))
 refine qe hb mixed 3 14 [] ?_
 refine ifE hb 3 [28, 29] [] hq (fun hq _ => ?_) (fun hq _ => ?_)
 refine idxE hb flS 4 hq fun x9 hx9 hq => ?_
 refine idxE hb flS 4 hq fun x10 hx10 hq => ?_
 refine ifE hb 5 [41, 42] [] hq (fun hq _ => ?_) (fun hq _ => ?_)
 exact retE hb 5 (he1 _ (injO hq))
 exact q9 hb 8 [1, 2, 5] [] 1 (hn1 _ (injO hq)) ⟨(by kernel_rfl), trivial⟩
 exact q9 hb 23 [1, 2, 5] [] 1 (hn1 _ (injO hq)) ⟨(by kernel_rfl), trivial⟩
 refine cpE hb 8 [1, 2, 6] (s' := ⟨none, [pk Tryz.f100 250], [(2, [pk Tryz.f100 63])], sl 61 [(1, c1 (vi level_)), (2, pt 0), (6, c1 (vi 0))], [bx (aT t_)]⟩) ?_
 refine qj hb 0 (gQ2q r_r10_check t_ level_) (fun s2 => sl 61 [(1, c1 (vi level_)), (2, pt 0), (6, c1 (vi s2))]) (fun s2 => [bx (aT t_)]) [1, 2, 6] [] 1 (s0 := 0) ⟨(by kernel_rfl), trivial⟩ hq (fun s2 x2 hq hn2 he2 => ?_)
 refine ifE hb 9 [47] [] hq (fun hq _ => ?_) (fun hq _ => ?_)
 refine idxE hb flT 9 hq fun x13 hx13 hq => ?_
 refine q6 hb 3 hq (hr_r10_check x13 (IntKind.i64.wrap (level_ + 1))) fun y14 hy14 hq => ?_
 refine ifE hb 7 [59] [] hq (fun hq _ => ?_) (fun hq _ => ?_)
 exact retE hb 6 (he1 _ ((he2 _ (injO hq)).symm))
 exact q9 hb 8 [1, 2, 6] [] 1 (hn2 _ (injO hq)) ⟨(by kernel_rfl), trivial⟩
 exact retE hb 6 (he1 _ ((he2 _ (injO hq)).symm))
noncomputable def tQae (rec : Ty → Int → Option (Int)) (a : Ty) (b : Int) : Option (Int) :=
 gQ2o (fun a0 a1 => rec a0 a1) a b
noncomputable def tQac (a0 : Ty) (a1 : Int) : Option (Int) := tieF relT wfT tQae a0 a1
theorem tQad (hb : Base E E0 G) (he : ∀ w, E w → EnvV w) (a0 : Ty) (a1 : Int) (r : Int) (hq : tQac a0 a1 = some r) : Pure E E0 Tryz.prog 100 [.agg (aT a0), .cell (vi a1)] (c1 (vi r)) :=
 q30 (C := fun a b r => Pure E E0 Tryz.prog 100 [.agg (aT a), .cell (vi b)] (c1 (vi r))) (fun rec hr a b r hq => gQ2r hb he (fun a0 a1 => rec a0 a1) (fun a0 a1 r e => hr a0 a1 r e) a b r hq) a0 a1 r hq
noncomputable def gQ2k  (t_ : Ty) : Option (Int) :=
 (tQac t_ 1).bind fun y1 => some (y1)
theorem gQ2l (hb : Base E E0 G) (he : ∀ w, E w → EnvV w)   (t_ : Ty) : ∀ r_ : Int, gQ2k t_ = some r_ →
 Pure E E0 Tryz.prog 51 [.agg (aT t_)] (c1 (vi r_)) := by
 refine fnE hb Tryz.func51 rfl fun r_ hq => ?_
 refine q6 hb 8 hq (tQad hb he t_ 1) fun y1 hy1 hq => ?_
 exact retE hb 2 (injO hq).symm
noncomputable def gQ4h  (a_ : AttrG) (before_ : ByteArray) (first_ : Bool) : Option (Int) :=
 (gQ22 a_.name).bind fun y1 => bif (!y1) then some (7) else bif (!first_) then bif (Op.bytesLess a_.name.toList before_.toList || decide (a_.name = before_)) then some (1) else (gQ2k a_.type_).bind fun y5 => bif (!decide (y5 = 0)) then some (y5) else bif (decide (a_.mode < 1)) then some (1) else bif (decide (a_.mode > 4)) then some (1) else bif a_.volatile then bif (decide (a_.mode = 1)) then some (1) else bif (decide (a_.mode = 2)) then some (1) else some (0) else some (0) else (gQ2k a_.type_).bind fun y12 => bif (!decide (y12 = 0)) then some (y12) else bif (decide (a_.mode < 1)) then some (1) else bif (decide (a_.mode > 4)) then some (1) else bif a_.volatile then bif (decide (a_.mode = 1)) then some (1) else bif (decide (a_.mode = 2)) then some (1) else some (0) else some (0)
theorem gQ4i (hb : Base E E0 G) (he : ∀ w, E w → EnvV w)   (a_ : AttrG) (before_ : ByteArray) (first_ : Bool) : ∀ r_ : Int, gQ4h a_ before_ first_ = some r_ →
 Pure E E0 Tryz.prog 98 [.agg [vS a_.name, vi a_.type_.kind, vL flT a_.type_.elems, vL flS a_.type_.names, vi a_.mode, vB a_.replace, vB a_.sensitive, vB a_.volatile], .cell (vS before_), .cell (vB first_)] (c1 (vi r_)) := by
 refine fnE hb Tryz.func98 rfl fun r_ hq => ?_
 refine q6 hb 10 hq (gQ24 hb he a_.name) fun y1 hy1 hq => ?_
 refine ifE hb 2 [11] [] hq (fun hq _ => ?_) (fun hq _ => ?_)
 exact retE hb 5 (injO hq).symm
 refine ifE hb 8 [13, 14] [] hq (fun hq _ => ?_) (fun hq _ => ?_)
 refine ifE hb 6 [18, 19] [] hq (fun hq _ => ?_) (fun hq _ => ?_)
 exact retE hb 5 (injO hq).symm
 refine q6 hb 6 hq (gQ2l hb he a_.type_) fun y5 hy5 hq => ?_
 refine ifE hb 8 [24] [] hq (fun hq _ => ?_) (fun hq _ => ?_)
 exact retE hb 6 (injO hq).symm
 refine ifE hb 9 [28, 29] [] hq (fun hq _ => ?_) (fun hq _ => ?_)
 exact retE hb 10 (injO hq).symm
 refine ifE hb 5 [32, 33] [] hq (fun hq _ => ?_) (fun hq _ => ?_)
 exact retE hb 5 (injO hq).symm
 refine ifE hb 8 [35, 36] [] hq (fun hq _ => ?_) (fun hq _ => ?_)
 refine ifE hb 4 [39, 40] [] hq (fun hq _ => ?_) (fun hq _ => ?_)
 exact retE hb 11 (injO hq).symm
 refine ifE hb 6 [43, 44, 45] [] hq (fun hq _ => ?_) (fun hq _ => ?_)
 exact retE hb 5 (injO hq).symm
 exact retE hb 6 (injO hq).symm
 exact retE hb 16 (injO hq).symm
 refine q6 hb 12 hq (gQ2l hb he a_.type_) fun y12 hy12 hq => ?_
 refine ifE hb 8 [24] [] hq (fun hq _ => ?_) (fun hq _ => ?_)
 exact retE hb 6 (injO hq).symm
 refine ifE hb 9 [28, 29] [] hq (fun hq _ => ?_) (fun hq _ => ?_)
 exact retE hb 10 (injO hq).symm
 refine ifE hb 5 [32, 33] [] hq (fun hq _ => ?_) (fun hq _ => ?_)
 exact retE hb 5 (injO hq).symm
 refine ifE hb 8 [35, 36] [] hq (fun hq _ => ?_) (fun hq _ => ?_)
 refine ifE hb 4 [39, 40] [] hq (fun hq _ => ?_) (fun hq _ => ?_)
 exact retE hb 11 (injO hq).symm
 refine ifE hb 6 [43, 44, 45] [] hq (fun hq _ => ?_) (fun hq _ => ?_)
 exact retE hb 5 (injO hq).symm
 exact retE hb 6 (injO hq).symm
 exact retE hb 16 (injO hq).symm
noncomputable def gQ4k (l_ : List AttrG) (s1 : Bool × ByteArray × Int) : Option ((Bool × ByteArray × Int) ⊕ (Int)) :=
 bif (decide (s1.2.2 < (l_.length : Int))) then (idx l_ s1.2.2).bind fun x2 => (gQ4h x2 s1.2.1 (decide (s1.2.2 = 0))).bind fun y3 => bif (!decide (y3 = 0)) then some (.inr (y3)) else bif s1.1 then (idx l_ s1.2.2).bind fun x6 => bif (!decide (x6.mode = 1)) then (idx l_ s1.2.2).bind fun x8 => bif (!decide (x8.mode = 2)) then some (.inr (1)) else (idx l_ s1.2.2).bind fun x10 => some (.inl (true, x10.name, (IntKind.i64.wrap (s1.2.2 + 1)))) else (idx l_ s1.2.2).bind fun x11 => some (.inl (true, x11.name, (IntKind.i64.wrap (s1.2.2 + 1)))) else (idx l_ s1.2.2).bind fun x12 => some (.inl (false, x12.name, (IntKind.i64.wrap (s1.2.2 + 1)))) else some (.inr (0))
noncomputable def gQ4j  (l_ : List AttrG) (nested_ : Bool) : Option (Int) :=
 qb (gQ4k l_) (nested_, eS, 0)
theorem gQ4l (hb : Base E E0 G) (he : ∀ w, E w → EnvV w)   (l_ : List AttrG) (nested_ : Bool) : ∀ r_ : Int, gQ4j l_ nested_ = some r_ →
 Pure E E0 Tryz.prog 48 [.cell (vL q7 l_), .cell (vB nested_)] (c1 (vi r_)) := by
 refine fnE hb Tryz.func48 rfl fun r_ hq => ?_
 refine qj hb 14 (gQ4k l_) (fun s1 => sl 47 [(0, c1 (vL q7 l_)), (1, c1 (vB s1.1)), (5, c1 (vS s1.2.1)), (6, c1 (vi s1.2.2))]) (fun s1 => []) [0, 1, 5, 6] [] 0 (s0 := (nested_, eS, 0)) trivial hq (fun s1 x1 hq hn1 he1 => ?_)
 refine ifE hb 8 [11] [] hq (fun hq _ => ?_) (fun hq _ => ?_)
 refine idxE hb q7 8 hq fun x2 hx2 hq => ?_
 refine q6 hb 4 hq (gQ4i hb he x2 s1.2.1 (decide (s1.2.2 = 0))) fun y3 hy3 hq => ?_
 refine ifE hb 8 [23] [] hq (fun hq _ => ?_) (fun hq _ => ?_)
 exact retE hb 6 (he1 _ (injO hq))
 refine ifE hb 7 [1, 25, 26] [] hq (fun hq _ => ?_) (fun hq _ => ?_)
 refine idxE hb q7 2 hq fun x6 hx6 hq => ?_
 refine ifE hb 5 [32, 33, 34] [] hq (fun hq _ => ?_) (fun hq _ => ?_)
 refine idxE hb q7 2 hq fun x8 hx8 hq => ?_
 refine ifE hb 5 [40, 41] [] hq (fun hq _ => ?_) (fun hq _ => ?_)
 exact retE hb 5 (he1 _ (injO hq))
 refine idxE hb q7 5 hq fun x10 hx10 hq => ?_
 exact q9 hb 10 [0, 1, 5, 6] [] 0 (hn1 _ (injO hq)) trivial
 refine idxE hb q7 13 hq fun x11 hx11 hq => ?_
 exact q9 hb 10 [0, 1, 5, 6] [] 0 (hn1 _ (injO hq)) trivial
 refine idxE hb q7 21 hq fun x12 hx12 hq => ?_
 exact q9 hb 10 [0, 1, 5, 6] [] 0 (hn1 _ (injO hq)) trivial
 exact retE hb 6 (he1 _ (injO hq))
noncomputable def gQ3j (l_ : List AttrG) (name_ : ByteArray) (s1 : Int) : Option ((Int) ⊕ (AttrG × Bool)) :=
 bif (decide (s1 < (l_.length : Int))) then (idx l_ s1).bind fun x2 => bif (decide (x2.name = name_)) then (idx l_ s1).bind fun x4 => some (.inr (x4, true)) else some (.inl (IntKind.i64.wrap (s1 + 1))) else some (.inr ((AttrG.mk eS (Ty.mk 0 [] []) 0 false false false), false))
noncomputable def gQ3i  (l_ : List AttrG) (name_ : ByteArray) : Option (AttrG × Bool) :=
 qb (gQ3j l_ name_) 0
theorem gQ3k (hb : Base E E0 G) (he : ∀ w, E w → EnvV w)   (l_ : List AttrG) (name_ : ByteArray) : ∀ r_ : AttrG × Bool, gQ3i l_ name_ = some r_ →
 Pure E E0 Tryz.prog 50 [.cell (vL q7 l_), .cell (vS name_)] (.tup [.agg [vS r_.1.name, vi r_.1.type_.kind, vL flT r_.1.type_.elems, vL flS r_.1.type_.names, vi r_.1.mode, vB r_.1.replace, vB r_.1.sensitive, vB r_.1.volatile], .cell (vB r_.2)]) := by
 refine fnE hb Tryz.func50 rfl fun r_ hq => ?_
 refine qj hb 11 (gQ3j l_ name_) (fun s1 => sl 25 [(0, c1 (vL q7 l_)), (1, c1 (vS name_)), (4, pt 0), (6, c1 (vi s1))]) (fun s1 => [bx [vS eS, vi 0, vN, vN, vi 0, vB false, vB false, vB false]]) [0, 1, 4, 6] [] 1 (s0 := 0) ⟨(by kernel_rfl), trivial⟩ hq (fun s1 x1 hq hn1 he1 => ?_)
 refine ifE hb 8 [10] [] hq (fun hq _ => ?_) (fun hq _ => ?_)
 refine idxE hb q7 8 hq fun x2 hx2 hq => ?_
 refine ifE hb 5 [19] [] hq (fun hq _ => ?_) (fun hq _ => ?_)
 refine idxE hb q7 5 hq fun x4 hx4 hq => ?_
 exact retE hb 4 (he1 _ (injO hq))
 exact q9 hb 8 [0, 1, 4, 6] [] 1 (hn1 _ (injO hq)) ⟨(by kernel_rfl), trivial⟩
 exact retE hb 8 (he1 _ (injO hq))
noncomputable def gQ4v  (s_ : SchemaG) (i_ : Int) : Option (Int) :=
 (idx s_.nested i_).bind fun x1 => (gQ22 x1.name).bind fun y2 => bif (!y2) then some (7) else bif (decide (i_ > 0)) then (idx s_.nested (IntKind.i64.wrap (i_ - 1))).bind fun x5 => bif (Op.bytesLess x1.name.toList x5.name.toList || decide (x1.name = x5.name)) then some (1) else (gQ3i s_.attrs x1.name).bind fun y7 => bif y7.2 then some (8) else bif (decide (x1.min < 0)) then some (1) else bif (decide (x1.max < x1.min)) then some (1) else bif (decide (x1.max > 256)) then some (1) else bif (decide ((x1.attrs.length : Int) > 64)) then some (14) else (gQ4j x1.attrs true).bind fun y13 => some (y13) else (gQ3i s_.attrs x1.name).bind fun y14 => bif y14.2 then some (8) else bif (decide (x1.min < 0)) then some (1) else bif (decide (x1.max < x1.min)) then some (1) else bif (decide (x1.max > 256)) then some (1) else bif (decide ((x1.attrs.length : Int) > 64)) then some (14) else (gQ4j x1.attrs true).bind fun y20 => some (y20)
theorem gQ4w (hb : Base E E0 G) (he : ∀ w, E w → EnvV w)   (s_ : SchemaG) (i_ : Int) : ∀ r_ : Int, gQ4v s_ i_ = some r_ →
 Pure E E0 Tryz.prog 49 [.agg [vL q7 s_.attrs, vL qd s_.nested], .cell (vi i_)] (c1 (vi r_)) := by
 refine fnE hb Tryz.func49 rfl fun r_ hq => ?_
 refine idxE hb qd 10 hq fun x1 hx1 hq => ?_
 refine q6 hb 9 hq (gQ24 hb he x1.name) fun y2 hy2 hq => ?_
 refine ifE hb 2 [16] [] hq (fun hq _ => ?_) (fun hq _ => ?_)
 exact retE hb 5 (injO hq).symm
 refine qe hb mixed 4 12 [] ?_
 refine ifE hb 3 [18, 19] [] hq (fun hq _ => ?_) (fun hq _ => ?_)
 refine idxE hb qd 6 hq fun x5 hx5 hq => ?_
 refine ifE hb 6 [29, 30] [] hq (fun hq _ => ?_) (fun hq _ => ?_)
 exact retE hb 5 (injO hq).symm
 refine q6 hb 8 hq (gQ3k hb he s_.attrs x1.name) fun y7 hy7 hq => ?_
 refine ifE hb 12 [7, 38, 39] [] hq (fun hq _ => ?_) (fun hq _ => ?_)
 exact retE hb 5 (injO hq).symm
 refine ifE hb 9 [42, 43] [] hq (fun hq _ => ?_) (fun hq _ => ?_)
 exact retE hb 17 (injO hq).symm
 refine ifE hb 7 [48, 49, 50] [] hq (fun hq _ => ?_) (fun hq _ => ?_)
 exact retE hb 10 (injO hq).symm
 refine ifE hb 5 [53, 54] [] hq (fun hq _ => ?_) (fun hq _ => ?_)
 exact retE hb 5 (injO hq).symm
 refine ifE hb 10 [58] [] hq (fun hq _ => ?_) (fun hq _ => ?_)
 exact retE hb 5 (injO hq).symm
 refine q6 hb 6 hq (gQ4l hb he x1.attrs true) fun y13 hy13 hq => ?_
 exact retE hb 2 (injO hq).symm
 refine q6 hb 21 hq (gQ3k hb he s_.attrs x1.name) fun y14 hy14 hq => ?_
 refine ifE hb 12 [7, 38, 39] [] hq (fun hq _ => ?_) (fun hq _ => ?_)
 exact retE hb 5 (injO hq).symm
 refine ifE hb 9 [42, 43] [] hq (fun hq _ => ?_) (fun hq _ => ?_)
 exact retE hb 17 (injO hq).symm
 refine ifE hb 7 [48, 49, 50] [] hq (fun hq _ => ?_) (fun hq _ => ?_)
 exact retE hb 10 (injO hq).symm
 refine ifE hb 5 [53, 54] [] hq (fun hq _ => ?_) (fun hq _ => ?_)
 exact retE hb 5 (injO hq).symm
 refine ifE hb 10 [58] [] hq (fun hq _ => ?_) (fun hq _ => ?_)
 exact retE hb 5 (injO hq).symm
 refine q6 hb 6 hq (gQ4l hb he x1.attrs true) fun y20 hy20 hq => ?_
 exact retE hb 2 (injO hq).symm
noncomputable def gQ3p (s_ : SchemaG) (s1 : Int) : Option ((Int) ⊕ (Int)) :=
 bif (decide (s1 < (s_.nested.length : Int))) then (gQ4v s_ s1).bind fun y6 => bif (!decide (y6 = 0)) then some (.inr (y6)) else some (.inl (IntKind.i64.wrap (s1 + 1))) else (gQ3i s_.attrs (⟨#[105, 100]⟩ : ByteArray)).bind fun y8 => bif (!y8.2) then some (.inr (12)) else bif (!decide (y8.1.mode = 3)) then some (.inr (1)) else bif (!decide (y8.1.type_.kind = 3)) then some (.inr (1)) else bif y8.1.volatile then some (.inr (1)) else (gQ4e s_).bind fun y13 => (gQ2k y13).bind fun y14 => some (.inr (y14))
noncomputable def gQ3o  (s_ : SchemaG) : Option (Int) :=
 bif (decide ((s_.attrs.length : Int) > 64)) then some (14) else bif (decide ((s_.nested.length : Int) > 64)) then some (14) else (gQ4j s_.attrs false).bind fun y3 => bif (!decide (y3 = 0)) then some (y3) else qb (gQ3p s_) 0
theorem gQ3q (hb : Base E E0 G) (he : ∀ w, E w → EnvV w)   (s_ : SchemaG) : ∀ r_ : Int, gQ3o s_ = some r_ →
 Pure E E0 Tryz.prog 13 [.agg [vL q7 s_.attrs, vL qd s_.nested]] (c1 (vi r_)) := by
 refine fnE hb Tryz.func13 rfl fun r_ hq => ?_
 refine ifE hb 13 [10, 11] [] hq (fun hq _ => ?_) (fun hq _ => ?_)
 exact retE hb 11 (injO hq).symm
 refine ifE hb 6 [15, 16] [] hq (fun hq _ => ?_) (fun hq _ => ?_)
 exact retE hb 5 (injO hq).symm
 refine q6 hb 6 hq (gQ4l hb he s_.attrs false) fun y3 hy3 hq => ?_
 refine ifE hb 8 [21] [] hq (fun hq _ => ?_) (fun hq _ => ?_)
 exact retE hb 6 (injO hq).symm
 refine cpE hb 8 [1, 4] (s' := ⟨none, [pk Tryz.f13 250], [(0, [pk Tryz.f13 63])], sl 60 [(1, pt 0), (4, c1 (vi 0))], [bx [vL q7 s_.attrs, vL qd s_.nested]]⟩) ?_
 refine qj hb 0 (gQ3p s_) (fun s1 => sl 60 [(1, pt 0), (4, c1 (vi s1))]) (fun s1 => [bx [vL q7 s_.attrs, vL qd s_.nested]]) [1, 4] [] 1 (s0 := 0) ⟨(by kernel_rfl), trivial⟩ hq (fun s1 x1 hq hn1 he1 => ?_)
 refine ifE hb 9 [27] [] hq (fun hq _ => ?_) (fun hq _ => ?_)
 refine q6 hb 8 hq (gQ4w hb he s_ s1) fun y6 hy6 hq => ?_
 refine ifE hb 7 [34] [] hq (fun hq _ => ?_) (fun hq _ => ?_)
 exact retE hb 6 (he1 _ (injO hq))
 exact q9 hb 8 [1, 4] [] 1 (hn1 _ (injO hq)) ⟨(by kernel_rfl), trivial⟩
 refine q6 hb 6 hq (gQ3k hb he s_.attrs (⟨#[105, 100]⟩ : ByteArray)) fun y8 hy8 hq => ?_
 refine ifE hb 13 [43] [] hq (fun hq _ => ?_) (fun hq _ => ?_)
 exact retE hb 5 (he1 _ (injO hq))
 refine ifE hb 9 [46, 47] [] hq (fun hq _ => ?_) (fun hq _ => ?_)
 exact retE hb 15 (he1 _ (injO hq))
 refine ifE hb 6 [51, 52, 53] [] hq (fun hq _ => ?_) (fun hq _ => ?_)
 exact retE hb 9 (he1 _ (injO hq))
 refine ifE hb 4 [55, 56] [] hq (fun hq _ => ?_) (fun hq _ => ?_)
 exact retE hb 5 (he1 _ (injO hq))
 refine q6 hb 5 hq (gQ4g hb he s_) fun y13 hy13 hq => ?_
 refine q6 hb 0 hq (gQ2l hb he y13) fun y14 hy14 hq => ?_
 exact retE hb 2 (he1 _ (injO hq))
noncomputable def gQ7m  (s_ : SchemaG) : Option (List ByteArray) :=
 (gQ69 s_).bind fun y1 => some (y1.names)
theorem gQ7n (hb : Base E E0 G) (he : ∀ w, E w → EnvV w)   (s_ : SchemaG) : ∀ r_ : List ByteArray, gQ7m s_ = some r_ →
 Pure E E0 Tryz.prog 74 [.agg [vL q7 s_.attrs, vL qd s_.nested]] (c1 (vL flS r_)) := by
 refine fnE hb Tryz.func74 rfl fun r_ hq => ?_
 refine q6 hb 8 hq (gQ6e hb he s_) fun y1 hy1 hq => ?_
 exact retE hb 3 (injO hq).symm
noncomputable def gQ86 (s_ : List ByteArray) (v_ : ByteArray) (s1 : Int) : Option ((Int) ⊕ (Int)) :=
 bif (decide (s1 < (s_.length : Int))) then (idx s_ s1).bind fun x2 => bif (decide (v_ = x2)) then some (.inr (s1)) else some (.inl (IntKind.i64.wrap (s1 + 1))) else some (.inr (-1))
noncomputable def gQ85  (s_ : List ByteArray) (v_ : ByteArray) : Option (Int) :=
 qb (gQ86 s_ v_) 0
theorem gQ87 (hb : Base E E0 G) (he : ∀ w, E w → EnvV w)   (s_ : List ByteArray) (v_ : ByteArray) : ∀ r_ : Int, gQ85 s_ v_ = some r_ →
 Pure E E0 Tryz.prog 136 [.cell (vL flS s_), .cell (vS v_)] (c1 (vi r_)) := by
 refine fnE hb Tryz.func136 rfl fun r_ hq => ?_
 refine qj hb 12 (gQ86 s_ v_) (fun s1 => sl 19 [(0, c1 (vL flS s_)), (1, c1 (vS v_)), (7, c1 (vi (s_.length : Int))), (8, c1 (vi s1))]) (fun s1 => []) [0, 1, 7, 8] [] 0 (s0 := 0) trivial hq (fun s1 x1 hq hn1 he1 => ?_)
 refine ifE hb 5 [9] [] hq (fun hq _ => ?_) (fun hq _ => ?_)
 refine idxE hb flS 14 hq fun x2 hx2 hq => ?_
 refine ifE hb 3 [16] [] hq (fun hq _ => ?_) (fun hq _ => ?_)
 exact retE hb 6 (he1 _ (injO hq))
 exact q9 hb 7 [0, 1, 7, 8] [] 0 (hn1 _ (injO hq)) trivial
 exact retE hb 6 (he1 _ (injO hq))
noncomputable def gQ80  (s_ : List ByteArray) (v_ : ByteArray) : Option (Bool) :=
 (gQ85 s_ v_).bind fun y1 => some (decide (y1 ≥ 0))
theorem gQ81 (hb : Base E E0 G) (he : ∀ w, E w → EnvV w)   (s_ : List ByteArray) (v_ : ByteArray) : ∀ r_ : Bool, gQ80 s_ v_ = some r_ →
 Pure E E0 Tryz.prog 102 [.cell (vL flS s_), .cell (vS v_)] (c1 (vB r_)) := by
 refine fnE hb Tryz.func102 rfl fun r_ hq => ?_
 refine q6 hb 8 hq (gQ87 hb he s_ v_) fun y1 hy1 hq => ?_
 exact retE hb 3 (injO hq).symm
noncomputable def gQ7c (v_ : Val) (y4 : List ByteArray) (s1 : Int) : Option ((Int) ⊕ (DiagG)) :=
 bif (decide (s1 < (v_.keys.length : Int))) then (idx v_.keys s1).bind fun x6 => (gQ80 y4 x6).bind fun y7 => bif (!y7) then some (.inr (DiagG.mk 13 0 x6)) else some (.inl (IntKind.i64.wrap (s1 + 1))) else some (.inr (DiagG.mk 0 0 eS))
noncomputable def gQ7b  (s_ : SchemaG) (v_ : Val) : Option (DiagG) :=
 (q28 v_).bind fun y1 => bif (!decide (y1 = 0)) then some (DiagG.mk 1 0 eS) else bif (!decide (v_.kind = 5)) then some (DiagG.mk 6 0 eS) else (gQ7m s_).bind fun y4 => qb (gQ7c v_ y4) 0
theorem gQ7d (hb : Base E E0 G) (he : ∀ w, E w → EnvV w)   (s_ : SchemaG) (v_ : Val) : ∀ r_ : DiagG, gQ7b s_ v_ = some r_ →
 Pure E E0 Tryz.prog 57 [.agg [vL q7 s_.attrs, vL qd s_.nested], .agg (aV v_)] (.one (.agg [vi r_.kind, vi r_.at_, vS r_.name])) := by
 refine fnE hb Tryz.func57 rfl fun r_ hq => ?_
 refine q6 hb 10 hq (q8u hb he v_) fun y1 hy1 hq => ?_
 refine ifE hb 2 [10] [] hq (fun hq _ => ?_) (fun hq _ => ?_)
 exact retE hb 6 (injO hq).symm
 refine ifE hb 9 [14] [] hq (fun hq _ => ?_) (fun hq _ => ?_)
 exact retE hb 6 (injO hq).symm
 refine q6 hb 5 hq (gQ7n hb he s_) fun y4 hy4 hq => ?_
 refine cpE hb 11 [4, 5, 19, 20, 21] (s' := ⟨none, [pk Tryz.f57 250], [(0, [pk Tryz.f57 63])], sl 33 [(4, pt 2), (5, c1 (vL flS y4)), (19, c1 (vL flS v_.keys)), (20, c1 (vi (v_.keys.length : Int))), (21, c1 (vi 0))], [bx [vL q7 s_.attrs, vL qd s_.nested], bx (aV v_), bx [vi 0, vi 0, vS eS]]⟩) ?_
 refine qj hb 0 (gQ7c v_ y4) (fun s1 => sl 33 [(4, pt 2), (5, c1 (vL flS y4)), (19, c1 (vL flS v_.keys)), (20, c1 (vi (v_.keys.length : Int))), (21, c1 (vi s1))]) (fun s1 => [none, none, bx [vi 0, vi 0, vS eS]]) [4, 5, 19, 20, 21] [0, 1] 3 (s0 := 0) ⟨rfl, rfl, (by kernel_rfl), trivial⟩ hq (fun s1 x1 hq hn1 he1 => ?_)
 refine ifE hb 5 [22] [] hq (fun hq _ => ?_) (fun hq _ => ?_)
 refine idxE hb flS 6 hq fun x6 hx6 hq => ?_
 refine q6 hb 7 hq (gQ81 hb he y4 x6) fun y7 hy7 hq => ?_
 refine ifE hb 2 [28] [] hq (fun hq _ => ?_) (fun hq _ => ?_)
 exact retE hb 7 (he1 _ (injO hq))
 exact q9 hb 7 [4, 5, 19, 20, 21] [] 3 (hn1 _ (injO hq)) ⟨rfl, rfl, (by kernel_rfl), trivial⟩
 exact retE hb 7 (he1 _ (injO hq))
noncomputable def gQa1 (r_value_copied : Val → Option (Val)) (l_ : List Val) (s1 : Int × List Val) : Option ((Int × List Val) ⊕ (List Val)) :=
 bif (decide (s1.1 < (l_.length : Int))) then (idx l_ s1.1).bind fun x4 => (r_value_copied x4).bind fun y5 => (app 80 s1.2 [y5]).bind fun l6 => some (.inl ((IntKind.i64.wrap (s1.1 + 1)), l6)) else some (.inr (s1.2))
noncomputable def gQa0 (r_value_copied : Val → Option (Val)) (l_ : List Val) : Option (List Val) :=
 bif (decide ((l_.length : Int) = 0)) then some ([]) else (mkc 80 (l_.length : Int)).bind fun u2 => qb (gQa1 r_value_copied l_) (0, [])
theorem gQa2 (hb : Base E E0 G) (he : ∀ w, E w → EnvV w) (r_value_copied : Val → Option (Val)) (hr_value_copied : ∀ (a0 : Val) (r : Val), r_value_copied a0 = some r → Pure E E0 Tryz.prog 109 [.agg (aV a0)] (.one (.agg (aV r)))) (l_ : List Val) : ∀ r_ : List Val, gQa0 r_value_copied l_ = some r_ →
 Pure E E0 Tryz.prog 138 [.cell (vL flV l_)] (c1 (vL flV r_)) := by
 refine fnE hb Tryz.func138 rfl fun r_ hq => ?_
 refine ifE hb 11 [8] [] hq (fun hq _ => ?_) (fun hq _ => ?_)
 exact retE hb 5 (injO hq).symm
 refine mk0E flV hb 6 hq fun u2 hu2 hq => ?_
 refine qj hb 10 (gQa1 r_value_copied l_) (fun s1 => sl 25 [(3, c1 (vO flV 0 s1.2)), (12, c1 (vL flV l_)), (13, c1 (vi (l_.length : Int))), (14, c1 (vi s1.1))]) (fun s1 => [some (arO false flV.sz 0 (flV.f s1.2))]) [3, 12, 13, 14] [] 1 (s0 := (0, [])) ⟨(q8 _ _ _ _ _), trivial⟩ hq (fun s1 x1 hq hn1 he1 => ?_)
 refine ifE hb 5 [15] [] hq (fun hq _ => ?_) (fun hq _ => ?_)
 refine idxE hb flV 6 hq fun x4 hx4 hq => ?_
 refine q6 hb 7 hq (hr_value_copied x4) fun y5 hy5 hq => ?_
 refine qg flV hb 1 0 false 0 (flV.one y5) hq fun l6 hl6 hq => ?_
 exact q9 hb 7 [3, 12, 13, 14] [] 1 (hn1 _ (injO hq)) ⟨(q8 _ _ _ _ _), trivial⟩
 refine qq hb 7 0 false (sz := flV.sz) (fr := 0) (cs := flV.f s1.2) (by kernel_rfl) (Nat.zero_le _) ?_
 refine q54 hb 0 2 (c := vO flV 0 s1.2) (qr flV (nb := false) (id := 0) (xs := s1.2) (by kernel_rfl)) ?_
 exact retE hb 0 (he1 _ (injO hq))
noncomputable def gQ9y (r_value_copies : List Val → Option (List Val)) (v_ : Val) : Option (Val) :=
 (clone 16 v_.keys).bind fun y1 => (r_value_copies v_.items).bind fun y2 => some (Val.mk v_.kind v_.num v_.str y2 y1)
theorem gQ9z (hb : Base E E0 G) (he : ∀ w, E w → EnvV w) (r_value_copies : List Val → Option (List Val)) (hr_value_copies : ∀ (a0 : List Val) (r : List Val), r_value_copies a0 = some r → Pure E E0 Tryz.prog 138 [.cell (vL flV a0)] (c1 (vL flV r))) (v_ : Val) : ∀ r_ : Val, gQ9y r_value_copies v_ = some r_ →
 Pure E E0 Tryz.prog 109 [.agg (aV v_)] (.one (.agg (aV r_))) := by
 refine fnE hb Tryz.func109 rfl fun r_ hq => ?_
 refine q6 hb 9 hq (q6x hb he v_.keys) fun y1 hy1 hq => ?_
 refine q6 hb 7 hq (hr_value_copies v_.items) fun y2 hy2 hq => ?_
 exact retE hb 8 (injO hq).symm
noncomputable def tQb8 (rec : Val → Unit → Option (Val)) (a : Val) (b : Unit) : Option (Val) :=
 gQ9y (gQa0 (fun a0 => rec a0 ())) a
noncomputable def tQb6 (a0 : Val) : Option (Val) := tieF relV wfV tQb8 a0 ()
theorem tQb7 (hb : Base E E0 G) (he : ∀ w, E w → EnvV w) (a0 : Val) (r : Val) (hq : tQb6 a0 = some r) : Pure E E0 Tryz.prog 109 [.agg (aV a0)] (.one (.agg (aV r))) :=
 q30 (C := fun a b r => Pure E E0 Tryz.prog 109 [.agg (aV a)] (.one (.agg (aV r)))) (fun rec hr a b r hq => gQ9z hb he (gQa0 (fun a0 => rec a0 ())) (gQa2 hb he (fun a0 => rec a0 ()) (fun a0 r e => hr a0 () r e)) a r hq) a0 () r hq
noncomputable def gQ91  (v_ : Val) (key_ : ByteArray) : Option (Val × Bool) :=
 (gQ7x v_.keys key_).bind fun y1 => bif (!decide (v_.kind = 5)) then some ((Val.mk 0 0 eS [] []), false) else bif (!y1.2) then some ((Val.mk 0 0 eS [] []), false) else bif (decide (y1.1 ≥ (v_.items.length : Int))) then some ((Val.mk 0 0 eS [] []), false) else (idx v_.items y1.1).bind fun x5 => (tQb6 x5).bind fun y6 => some (y6, true)
theorem gQ92 (hb : Base E E0 G) (he : ∀ w, E w → EnvV w)   (v_ : Val) (key_ : ByteArray) : ∀ r_ : Val × Bool, gQ91 v_ key_ = some r_ →
 Pure E E0 Tryz.prog 91 [.agg (aV v_), .cell (vS key_)] (.tup [.agg (aV r_.1), .cell (vB r_.2)]) := by
 refine fnE hb Tryz.func91 rfl fun r_ hq => ?_
 refine q6 hb 11 hq (gQ7z hb he v_.keys key_) fun y1 hy1 hq => ?_
 refine ifE hb 13 [17, 18] [] hq (fun hq _ => ?_) (fun hq _ => ?_)
 exact retE hb 18 (injO hq).symm
 refine ifE hb 4 [20, 21, 22] [] hq (fun hq _ => ?_) (fun hq _ => ?_)
 exact retE hb 14 (injO hq).symm
 refine ifE hb 7 [27, 28] [] hq (fun hq _ => ?_) (fun hq _ => ?_)
 exact retE hb 7 (injO hq).symm
 refine idxE hb flV 7 hq fun x5 hx5 hq => ?_
 refine q6 hb 1 hq (tQb7 hb he x5) fun y6 hy6 hq => ?_
 exact retE hb 3 (injO hq).symm
noncomputable def gQ7e  (v_ : Val) (name_ : ByteArray) : Option (Val) :=
 (gQ91 v_ name_).bind fun y1 => some (y1.1)
theorem gQ7f (hb : Base E E0 G) (he : ∀ w, E w → EnvV w)   (v_ : Val) (name_ : ByteArray) : ∀ r_ : Val, gQ7e v_ name_ = some r_ →
 Pure E E0 Tryz.prog 60 [.agg (aV v_), .cell (vS name_)] (.one (.agg (aV r_))) := by
 refine fnE hb Tryz.func60 rfl fun r_ hq => ?_
 refine q6 hb 9 hq (gQ92 hb he v_ name_) fun y1 hy1 hq => ?_
 exact retE hb 12 (injO hq).symm
noncomputable def gQ8u  (b_ : Bool) : Option (Val) :=
 bif b_ then some (Val.mk 1 1 eS [] []) else some (Val.mk 1 0 eS [] [])
theorem gQ8v (hb : Base E E0 G) (he : ∀ w, E w → EnvV w)   (b_ : Bool) : ∀ r_ : Val, gQ8u b_ = some r_ →
 Pure E E0 Tryz.prog 179 [.cell (vB b_)] (.one (.agg (aV r_))) := by
 refine fnE hb Tryz.func179 rfl fun r_ hq => ?_
 refine ifE hb 15 [0, 5] [] hq (fun hq _ => ?_) (fun hq _ => ?_)
 exact retE hb 10 (injO hq).symm
 exact retE hb 7 (injO hq).symm
noncomputable def gQ0d  (v_ : Val) : Option (Val × Int) :=
 bif (decide (v_.kind = 1)) then some (v_, 0) else bif (decide (v_.kind = 3)) then bif (decide (v_.str = (⟨#[116, 114, 117, 101]⟩ : ByteArray))) then (gQ8u true).bind fun y4 => some (y4, 0) else bif (decide (v_.str = (⟨#[102, 97, 108, 115, 101]⟩ : ByteArray))) then (gQ8u false).bind fun y6 => some (y6, 0) else some ((Val.mk 0 0 eS [] []), 6) else some ((Val.mk 0 0 eS [] []), 6)
theorem gQ0e (hb : Base E E0 G) (he : ∀ w, E w → EnvV w)   (v_ : Val) : ∀ r_ : Val × Int, gQ0d v_ = some r_ →
 Pure E E0 Tryz.prog 154 [.agg (aV v_)] (.tup [.agg (aV r_.1), .cell (vi r_.2)]) := by
 refine fnE hb Tryz.func154 rfl fun r_ hq => ?_
 refine ifE hb 15 [4, 7] [] hq (fun hq _ => ?_) (fun hq _ => ?_)
 exact retE hb 7 (injO hq).symm
 refine ifE hb 7 [12, 13] [] hq (fun hq hc2 => ?_) (fun hq hc2 => ?_)
 refine ifE hb 6 [9, 16, 17] [] hq (fun hq _ => ?_) (fun hq _ => ?_)
 refine q6 hb 3 hq (gQ8v hb he true) fun y4 hy4 hq => ?_
 exact retE hb 3 (injO hq).symm
 refine knE hb 7 [22, 23] [] (b := (decide (v_.kind = 3))) (v := true) hc2 ?_
 refine ifE hb 6 [19, 26, 27] [] hq (fun hq _ => ?_) (fun hq _ => ?_)
 refine q6 hb 3 hq (gQ8v hb he false) fun y6 hy6 hq => ?_
 exact retE hb 3 (injO hq).symm
 exact retE hb 9 (injO hq).symm
 refine knE hb 13 [22, 23] [] (b := (decide (v_.kind = 3))) (v := false) hc2 ?_
 exact retE hb 15 (injO hq).symm
noncomputable def gQ9g  (n_ : Int) : Option (Val) :=
 some (Val.mk 2 n_ eS [] [])
theorem gQ9h (hb : Base E E0 G) (he : ∀ w, E w → EnvV w)   (n_ : Int) : ∀ r_ : Val, gQ9g n_ = some r_ →
 Pure E E0 Tryz.prog 181 [.cell (vi n_)] (.one (.agg (aV r_))) := by
 refine fnE hb Tryz.func181 rfl fun r_ hq => ?_
 exact retE hb 10 (injO hq).symm
noncomputable def gQ0f  (v_ : Val) : Option (Val × Int) :=
 bif (decide (v_.kind = 2)) then some (v_, 0) else bif (!decide (v_.kind = 3)) then some ((Val.mk 0 0 eS [] []), 6) else (q5c v_.str).bind fun y3 => bif (!decide (y3.2 = 0)) then some ((Val.mk 0 0 eS [] []), 6) else (gQ9g y3.1).bind fun y5 => some (y5, 0)
theorem gQ0g (hb : Base E E0 G) (he : ∀ w, E w → EnvV w)   (v_ : Val) : ∀ r_ : Val × Int, gQ0f v_ = some r_ →
 Pure E E0 Tryz.prog 155 [.agg (aV v_)] (.tup [.agg (aV r_.1), .cell (vi r_.2)]) := by
 refine fnE hb Tryz.func155 rfl fun r_ hq => ?_
 refine ifE hb 13 [8] [] hq (fun hq _ => ?_) (fun hq _ => ?_)
 exact retE hb 7 (injO hq).symm
 refine ifE hb 9 [12] [] hq (fun hq _ => ?_) (fun hq _ => ?_)
 exact retE hb 7 (injO hq).symm
 refine q6 hb 6 hq (qsn hb he v_.str) fun y3 hy3 hq => ?_
 refine ifE hb 12 [21] [] hq (fun hq _ => ?_) (fun hq _ => ?_)
 exact retE hb 7 (injO hq).symm
 refine q6 hb 5 hq (gQ9h hb he y3.1) fun y5 hy5 hq => ?_
 exact retE hb 3 (injO hq).symm
noncomputable def gQ9u  (s_ : ByteArray) : Option (Val) :=
 some (Val.mk 3 0 s_ [] [])
theorem gQ9v (hb : Base E E0 G) (he : ∀ w, E w → EnvV w)   (s_ : ByteArray) : ∀ r_ : Val, gQ9u s_ = some r_ →
 Pure E E0 Tryz.prog 129 [.cell (vS s_)] (.one (.agg (aV r_))) := by
 refine fnE hb Tryz.func129 rfl fun r_ hq => ?_
 exact retE hb 10 (injO hq).symm
noncomputable def gQ0l  (v_ : Val) : Option (Val × Int) :=
 bif (decide (v_.kind = 3)) then some (v_, 0) else bif (decide (v_.kind = 2)) then (q78 v_.num).bind fun y3 => (gQ9u y3).bind fun y4 => some (y4, 0) else bif (decide (v_.kind = 1)) then bif (decide (v_.num = 1)) then (gQ9u (⟨#[116, 114, 117, 101]⟩ : ByteArray)).bind fun y7 => some (y7, 0) else (gQ9u (⟨#[102, 97, 108, 115, 101]⟩ : ByteArray)).bind fun y8 => some (y8, 0) else some ((Val.mk 0 0 eS [] []), 6)
theorem gQ0m (hb : Base E E0 G) (he : ∀ w, E w → EnvV w)   (v_ : Val) : ∀ r_ : Val × Int, gQ0l v_ = some r_ →
 Pure E E0 Tryz.prog 156 [.agg (aV v_)] (.tup [.agg (aV r_.1), .cell (vi r_.2)]) := by
 refine fnE hb Tryz.func156 rfl fun r_ hq => ?_
 refine ifE hb 15 [4, 7] [] hq (fun hq _ => ?_) (fun hq _ => ?_)
 exact retE hb 7 (injO hq).symm
 refine ifE hb 8 [9, 12] [] hq (fun hq _ => ?_) (fun hq _ => ?_)
 refine q6 hb 5 hq (qpa hb he v_.num) fun y3 hy3 hq => ?_
 refine q6 hb 0 hq (gQ9v hb he y3) fun y4 hy4 hq => ?_
 exact retE hb 3 (injO hq).symm
 refine ifE hb 7 [20, 21] [] hq (fun hq hc5 => ?_) (fun hq hc5 => ?_)
 refine ifE hb 6 [17, 24, 25] [] hq (fun hq _ => ?_) (fun hq _ => ?_)
 refine q6 hb 3 hq (gQ9v hb he (⟨#[116, 114, 117, 101]⟩ : ByteArray)) fun y7 hy7 hq => ?_
 exact retE hb 3 (injO hq).symm
 refine knE hb 8 [27, 30] [] (b := (decide (v_.kind = 1))) (v := true) hc5 ?_
 refine q6 hb 3 hq (gQ9v hb he (⟨#[102, 97, 108, 115, 101]⟩ : ByteArray)) fun y8 hy8 hq => ?_
 exact retE hb 3 (injO hq).symm
 refine knE hb 14 [27, 30] [] (b := (decide (v_.kind = 1))) (v := false) hc5 ?_
 exact retE hb 9 (injO hq).symm
noncomputable def gQ0a (r_convert_to : Val → Ty → Option (Val × Int)) (v_ : Val) (t_ : Ty) (y1 : List ByteArray) (s1 : Int × List Val) : Option ((Int × List Val) ⊕ (Val × Int)) :=
 bif (decide (s1.1 < (v_.items.length : Int))) then (idx v_.items s1.1).bind fun x3 => (r_convert_to x3 t_).bind fun y4 => bif (!decide (y4.2 = 0)) then some (.inr ((Val.mk 0 0 eS [] []), y4.2)) else (app 80 s1.2 [y4.1]).bind fun l6 => some (.inl ((IntKind.i64.wrap (s1.1 + 1)), l6)) else some (.inr ((Val.mk v_.kind 0 eS s1.2 y1), 0))
noncomputable def gQ09 (r_convert_to : Val → Ty → Option (Val × Int)) (v_ : Val) (t_ : Ty) : Option (Val × Int) :=
 (clone 16 v_.keys).bind fun y1 => qb (gQ0a r_convert_to v_ t_ y1) (0, [])
theorem gQ0b (hb : Base E E0 G) (he : ∀ w, E w → EnvV w) (r_convert_to : Val → Ty → Option (Val × Int)) (hr_convert_to : ∀ (a0 : Val) (a1 : Ty) (r : Val × Int), r_convert_to a0 a1 = some r → Pure E E0 Tryz.prog 137 [.agg (aV a0), .agg (aT a1)] (.tup [.agg (aV r.1), .cell (vi r.2)])) (v_ : Val) (t_ : Ty) : ∀ r_ : Val × Int, gQ09 r_convert_to v_ t_ = some r_ →
 Pure E E0 Tryz.prog 157 [.agg (aV v_), .agg (aT t_)] (.tup [.agg (aV r_.1), .cell (vi r_.2)]) := by
 refine fnE hb Tryz.func157 rfl fun r_ hq => ?_
 refine qe hb mixed 8 7 [] ?_
 refine q6 hb 4 hq (q6x hb he v_.keys) fun y1 hy1 hq => ?_
 refine q17 hb 14 3 3 5 (cs := [vi v_.kind, vi 0, vS eS, vN, vL flS y1]) (by kernel_rfl) ?_
 refine qj hb 0 (gQ0a r_convert_to v_ t_ y1) (fun s1 => sl 42 [(3, pt 1), (4, pt 2), (6, pt 3), (18, c1 (vL flV v_.items)), (19, c1 (vi (v_.items.length : Int))), (20, c1 (vi s1.1))]) (fun s1 => [none, bx (aT t_), bx zV, bx [vi v_.kind, vi 0, vS eS, vO flV 4 s1.2, vL flS y1], some (arO true flV.sz 0 (flV.f s1.2))]) [3, 4, 6, 18, 19, 20] [0] 5 (s0 := (0, [])) ⟨rfl, (by kernel_rfl), (by kernel_rfl), (by kernel_rfl), (q8 _ _ _ _ _), trivial⟩ hq (fun s1 x1 hq hn1 he1 => ?_)
 refine ifE hb 5 [21] [] hq (fun hq _ => ?_) (fun hq _ => ?_)
 refine idxE hb flV 6 hq fun x3 hx3 hq => ?_
 refine q6 hb 8 hq (hr_convert_to x3 t_) fun y4 hy4 hq => ?_
 refine ifE hb 13 [31] [] hq (fun hq _ => ?_) (fun hq _ => ?_)
 exact retE hb 8 (he1 _ (injO hq))
 refine qg flV hb 7 4 true 0 (flV.one y4.1) hq fun l6 hl6 hq => ?_
 exact q9 hb 8 [3, 4, 6, 18, 19, 20] [] 5 (hn1 _ (injO hq)) ⟨rfl, (by kernel_rfl), (by kernel_rfl), (by kernel_rfl), (q8 _ _ _ _ _), trivial⟩
 refine qq hb 8 4 true (sz := flV.sz) (fr := 0) (cs := flV.f s1.2) (by kernel_rfl) (Nat.zero_le _) ?_
 refine qn hb 0 2 3 (cs := [vi v_.kind, vi 0, vS eS, vO flV 4 s1.2, vL flS y1]) (c := vO flV 4 s1.2) (qr flV (nb := true) (id := 4) (xs := s1.2) (by kernel_rfl)) (by kernel_rfl) ?_
 exact retE hb 0 (he1 _ (injO hq))
noncomputable def gQ0j (r_convert_to : Val → Ty → Option (Val × Int)) (v_ : Val) (t_ : Ty) (y5 : List ByteArray) (s2 : Int × List Val) : Option ((Int × List Val) ⊕ ((Int) ⊕ (Val × Int))) :=
 bif (decide (s2.1 < (t_.names.length : Int))) then (idx t_.names s2.1).bind fun x7 => (gQ91 v_ x7).bind fun y8 => (idx t_.elems s2.1).bind fun x9 => (r_convert_to y8.1 x9).bind fun y10 => bif (!decide (y10.2 = 0)) then some (.inr (.inr ((Val.mk 0 0 eS [] []), y10.2))) else (app 80 s2.2 [y10.1]).bind fun l12 => some (.inl ((IntKind.i64.wrap (s2.1 + 1)), l12)) else some (.inr (.inr ((Val.mk 5 0 eS s2.2 y5), 0)))
noncomputable def gQ0i (r_convert_to : Val → Ty → Option (Val × Int)) (v_ : Val) (t_ : Ty) (s1 : Int) : Option ((Int) ⊕ (Val × Int)) :=
 bif (decide (s1 < (v_.keys.length : Int))) then (idx v_.keys s1).bind fun x2 => (gQ80 t_.names x2).bind fun y3 => bif (!y3) then some (.inr ((Val.mk 0 0 eS [] []), 13)) else some (.inl (IntKind.i64.wrap (s1 + 1))) else (clone 16 t_.names).bind fun y5 => qb (gQ0j r_convert_to v_ t_ y5) (0, [])
noncomputable def gQ0h (r_convert_to : Val → Ty → Option (Val × Int)) (v_ : Val) (t_ : Ty) : Option (Val × Int) :=
 qb (gQ0i r_convert_to v_ t_) 0
theorem gQ0k (hb : Base E E0 G) (he : ∀ w, E w → EnvV w) (r_convert_to : Val → Ty → Option (Val × Int)) (hr_convert_to : ∀ (a0 : Val) (a1 : Ty) (r : Val × Int), r_convert_to a0 a1 = some r → Pure E E0 Tryz.prog 137 [.agg (aV a0), .agg (aT a1)] (.tup [.agg (aV r.1), .cell (vi r.2)])) (v_ : Val) (t_ : Ty) : ∀ r_ : Val × Int, gQ0h r_convert_to v_ t_ = some r_ →
 Pure E E0 Tryz.prog 158 [.agg (aV v_), .agg (aT t_)] (.tup [.agg (aV r_.1), .cell (vi r_.2)]) := by
 refine fnE hb Tryz.func158 rfl fun r_ hq => ?_
 refine qj hb 16 (gQ0i r_convert_to v_ t_) (fun s1 => sl 69 [(2, pt 0), (3, pt 1), (4, pt 2), (16, c1 (vL flS v_.keys)), (17, c1 (vi (v_.keys.length : Int))), (18, c1 (vi s1))]) (fun s1 => [bx (aV v_), bx (aT t_), bx zV]) [2, 3, 4, 16, 17, 18] [] 3 (s0 := 0) ⟨(by kernel_rfl), (by kernel_rfl), (by kernel_rfl), trivial⟩ hq (fun s1 x1 hq hn1 he1 => ?_)
 refine ifE hb 5 [19] [] hq (fun hq _ => ?_) (fun hq _ => ?_)
 refine idxE hb flS 6 hq fun x2 hx2 hq => ?_
 refine q6 hb 8 hq (gQ81 hb he t_.names x2) fun y3 hy3 hq => ?_
 refine ifE hb 2 [26] [] hq (fun hq _ => ?_) (fun hq _ => ?_)
 exact retE hb 7 (he1 _ (injO hq))
 exact q9 hb 7 [2, 3, 4, 16, 17, 18] [] 3 (hn1 _ (injO hq)) ⟨(by kernel_rfl), (by kernel_rfl), (by kernel_rfl), trivial⟩
 refine q6 hb 6 hq (q6x hb he t_.names) fun y5 hy5 hq => ?_
 refine q17 hb 13 3 3 5 (cs := [vi 5, vi 0, vS eS, vN, vL flS y5]) (by kernel_rfl) ?_
 refine qj hb 0 (gQ0j r_convert_to v_ t_ y5) (fun s2 => sl 69 [(2, pt 0), (3, pt 1), (4, pt 2), (8, pt 3), (34, c1 (vL flS t_.names)), (35, c1 (vi (t_.names.length : Int))), (36, c1 (vi s2.1))]) (fun s2 => [bx (aV v_), bx (aT t_), bx zV, bx [vi 5, vi 0, vS eS, vO flV 4 s2.2, vL flS y5], some (arO true flV.sz 0 (flV.f s2.2))]) [2, 3, 4, 8, 34, 35, 36] [] 5 (s0 := (0, [])) ⟨(by kernel_rfl), (by kernel_rfl), (by kernel_rfl), (by kernel_rfl), (q8 _ _ _ _ _), trivial⟩ hq (fun s2 x2 hq hn2 he2 => ?_)
 refine ifE hb 5 [37] [] hq (fun hq _ => ?_) (fun hq _ => ?_)
 refine idxE hb flS 7 hq fun x7 hx7 hq => ?_
 refine q6 hb 8 hq (gQ92 hb he v_ x7) fun y8 hy8 hq => ?_
 refine qe hb mixed 8 11 [9] ?_
 refine idxE hb flT 4 hq fun x9 hx9 hq => ?_
 refine q6 hb 1 hq (hr_convert_to y8.1 x9) fun y10 hy10 hq => ?_
 refine ifE hb 14 [58] [] hq (fun hq _ => ?_) (fun hq _ => ?_)
 exact retE hb 8 (he1 _ ((he2 _ (injO hq)).symm))
 refine qg flV hb 7 4 true 0 (flV.one y10.1) hq fun l12 hl12 hq => ?_
 exact q9 hb 8 [2, 3, 4, 8, 34, 35, 36] [] 5 (hn2 _ (injO hq)) ⟨(by kernel_rfl), (by kernel_rfl), (by kernel_rfl), (by kernel_rfl), (q8 _ _ _ _ _), trivial⟩
 refine qq hb 8 4 true (sz := flV.sz) (fr := 0) (cs := flV.f s2.2) (by kernel_rfl) (Nat.zero_le _) ?_
 refine qn hb 0 2 3 (cs := [vi 5, vi 0, vS eS, vO flV 4 s2.2, vL flS y5]) (c := vO flV 4 s2.2) (qr flV (nb := true) (id := 4) (xs := s2.2) (by kernel_rfl)) (by kernel_rfl) ?_
 exact retE hb 0 (he1 _ ((he2 _ (injO hq)).symm))
noncomputable def gQ0c (r_convert_toObject : Val → Ty → Option (Val × Int)) (r_convert_each : Val → Ty → Option (Val × Int)) (v_ : Val) (t_ : Ty) : Option (Val × Int) :=
 bif (decide (t_.kind = 0)) then (cpy v_).bind fun y2 => some (y2, 0) else bif (decide (v_.kind = 0)) then (cpy v_).bind fun y4 => some (y4, 0) else bif (decide (v_.kind = 6)) then (cpy v_).bind fun y6 => some (y6, 0) else bif (decide (t_.kind = 1)) then (gQ0d v_).bind fun y8 => some (y8.1, y8.2) else bif (decide (t_.kind = 2)) then (gQ0f v_).bind fun y10 => some (y10.1, y10.2) else bif (decide (t_.kind = 3)) then (gQ0l v_).bind fun y12 => some (y12.1, y12.2) else bif (decide (t_.kind = 4)) then bif (decide (v_.kind = 4)) then (idx t_.elems 0).bind fun x15 => (r_convert_each v_ x15).bind fun y16 => some (y16.1, y16.2) else some ((Val.mk 0 0 eS [] []), 6) else bif (decide (t_.kind = 5)) then bif (decide (v_.kind = 5)) then (idx t_.elems 0).bind fun x19 => (r_convert_each v_ x19).bind fun y20 => some (y20.1, y20.2) else some ((Val.mk 0 0 eS [] []), 6) else bif (decide (t_.kind = 6)) then bif (decide (v_.kind = 5)) then (r_convert_toObject v_ t_).bind fun y23 => some (y23.1, y23.2) else some ((Val.mk 0 0 eS [] []), 6) else some ((Val.mk 0 0 eS [] []), 6)
theorem gQ0n (hb : Base E E0 G) (he : ∀ w, E w → EnvV w) (r_convert_toObject : Val → Ty → Option (Val × Int)) (r_convert_each : Val → Ty → Option (Val × Int)) (hr_convert_toObject : ∀ (a0 : Val) (a1 : Ty) (r : Val × Int), r_convert_toObject a0 a1 = some r → Pure E E0 Tryz.prog 158 [.agg (aV a0), .agg (aT a1)] (.tup [.agg (aV r.1), .cell (vi r.2)])) (hr_convert_each : ∀ (a0 : Val) (a1 : Ty) (r : Val × Int), r_convert_each a0 a1 = some r → Pure E E0 Tryz.prog 157 [.agg (aV a0), .agg (aT a1)] (.tup [.agg (aV r.1), .cell (vi r.2)])) (v_ : Val) (t_ : Ty) : ∀ r_ : Val × Int, gQ0c r_convert_toObject r_convert_each v_ t_ = some r_ →
 Pure E E0 Tryz.prog 137 [.agg (aV v_), .agg (aT t_)] (.tup [.agg (aV r_.1), .cell (vi r_.2)]) := by
 refine fnE hb Tryz.func137 rfl fun r_ hq => ?_
 refine ifE hb 14 [8, 9] [] hq (fun hq _ => ?_) (fun hq _ => ?_)
 refine q6 hb 14 hq (qcw hb he v_) fun y2 hy2 hq => ?_
 exact retE hb 3 (injO hq).symm
 refine ifE hb 5 [12, 13, 14] [] hq (fun hq _ => ?_) (fun hq _ => ?_)
 refine q6 hb 9 hq (qcw hb he v_) fun y4 hy4 hq => ?_
 exact retE hb 3 (injO hq).symm
 refine ifE hb 5 [17, 18] [] hq (fun hq _ => ?_) (fun hq _ => ?_)
 refine q6 hb 4 hq (qcw hb he v_) fun y6 hy6 hq => ?_
 exact retE hb 3 (injO hq).symm
 refine ifE hb 14 [23, 24] [] hq (fun hq _ => ?_) (fun hq _ => ?_)
 refine q6 hb 4 hq (gQ0e hb he v_) fun y8 hy8 hq => ?_
 exact retE hb 5 (injO hq).symm
 refine ifE hb 6 [29, 30] [] hq (fun hq _ => ?_) (fun hq _ => ?_)
 refine q6 hb 4 hq (gQ0g hb he v_) fun y10 hy10 hq => ?_
 exact retE hb 5 (injO hq).symm
 refine ifE hb 6 [35, 36] [] hq (fun hq _ => ?_) (fun hq _ => ?_)
 refine q6 hb 4 hq (gQ0m hb he v_) fun y12 hy12 hq => ?_
 exact retE hb 5 (injO hq).symm
 refine ifE hb 6 [41, 42] [] hq (fun hq _ => ?_) (fun hq _ => ?_)
 refine ifE hb 7 [45] [] hq (fun hq _ => ?_) (fun hq _ => ?_)
 refine qe hb mixed 2 7 [6] ?_
 refine idxE hb flT 3 hq fun x15 hx15 hq => ?_
 refine q6 hb 1 hq (hr_convert_each v_ x15) fun y16 hy16 hq => ?_
 exact retE hb 6 (injO hq).symm
 exact retE hb 9 (injO hq).symm
 refine ifE hb 6 [54, 55] [] hq (fun hq _ => ?_) (fun hq _ => ?_)
 refine ifE hb 7 [58] [] hq (fun hq _ => ?_) (fun hq _ => ?_)
 refine qe hb mixed 2 7 [6] ?_
 refine idxE hb flT 3 hq fun x19 hx19 hq => ?_
 refine q6 hb 1 hq (hr_convert_each v_ x19) fun y20 hy20 hq => ?_
 exact retE hb 6 (injO hq).symm
 exact retE hb 9 (injO hq).symm
 refine ifE hb 6 [67, 68] [] hq (fun hq _ => ?_) (fun hq _ => ?_)
 refine ifE hb 7 [71] [] hq (fun hq _ => ?_) (fun hq _ => ?_)
 refine q6 hb 5 hq (hr_convert_toObject v_ t_) fun y23 hy23 hq => ?_
 exact retE hb 5 (injO hq).symm
 exact retE hb 9 (injO hq).symm
 exact retE hb 9 (injO hq).symm
noncomputable def tQa5 (rec : Ty → Val → Option (Val × Int)) (a : Ty) (b : Val) : Option (Val × Int) :=
 gQ0c (gQ0h (fun a0 a1 => rec a1 a0)) (gQ09 (fun a0 a1 => rec a1 a0)) b a
noncomputable def tQa3 (a0 : Val) (a1 : Ty) : Option (Val × Int) := tieF relT wfT tQa5 a1 a0
theorem tQa4 (hb : Base E E0 G) (he : ∀ w, E w → EnvV w) (a0 : Val) (a1 : Ty) (r : Val × Int) (hq : tQa3 a0 a1 = some r) : Pure E E0 Tryz.prog 137 [.agg (aV a0), .agg (aT a1)] (.tup [.agg (aV r.1), .cell (vi r.2)]) :=
 q30 (C := fun a b r => Pure E E0 Tryz.prog 137 [.agg (aV b), .agg (aT a)] (.tup [.agg (aV r.1), .cell (vi r.2)])) (fun rec hr a b r hq => gQ0n hb he (gQ0h (fun a0 a1 => rec a1 a0)) (gQ09 (fun a0 a1 => rec a1 a0)) (gQ0k hb he (fun a0 a1 => rec a1 a0) (fun a0 a1 r e => hr a1 a0 r e)) (gQ0b hb he (fun a0 a1 => rec a1 a0) (fun a0 a1 r e => hr a1 a0 r e)) b a r hq) a1 a0 r hq
noncomputable def gQ07  (v_ : Val) (t_ : Ty) : Option (Val × Int) :=
 (tQa3 v_ t_).bind fun y1 => bif (decide (y1.2 = 0)) then (q28 y1.1).bind fun y3 => bif (!decide (y3 = 0)) then some ((Val.mk 0 0 eS [] []), y3) else some (y1.1, 0) else some ((Val.mk 0 0 eS [] []), y1.2)
theorem gQ08 (hb : Base E E0 G) (he : ∀ w, E w → EnvV w)   (v_ : Val) (t_ : Ty) : ∀ r_ : Val × Int, gQ07 v_ t_ = some r_ →
 Pure E E0 Tryz.prog 103 [.agg (aV v_), .agg (aT t_)] (.tup [.agg (aV r_.1), .cell (vi r_.2)]) := by
 refine fnE hb Tryz.func103 rfl fun r_ hq => ?_
 refine q6 hb 11 hq (tQa4 hb he v_ t_) fun y1 hy1 hq => ?_
 refine ifE hb 13 [15] [] hq (fun hq _ => ?_) (fun hq hc2 => ?_)
 refine q6 hb 3 hq (q8u hb he y1.1) fun y3 hy3 hq => ?_
 refine ifE hb 8 [19] [] hq (fun hq _ => ?_) (fun hq _ => ?_)
 exact retE hb 8 (injO hq).symm
 exact retE hb 8 (injO hq).symm
 refine knE hb 8 [19] [] (b := (!decide (y1.2 = 0))) (v := true) (congrArg (fun z => !z) hc2) ?_
 exact retE hb 8 (injO hq).symm
noncomputable def gQ6k  (a_ : AttrG) (v_ : Val) : Option (Val × Int) :=
 (gQ7e v_ a_.name).bind fun y1 => bif (decide (a_.mode = 1)) then bif (decide (y1.kind = 0)) then some ((Val.mk 0 0 eS [] []), 12) else bif (decide (a_.mode = 3)) then some ((Val.mk 0 0 eS [] []), 13) else (gQ07 y1 a_.type_).bind fun y5 => some (y5.1, y5.2) else bif (decide (a_.mode = 3)) then bif (!decide (y1.kind = 0)) then some ((Val.mk 0 0 eS [] []), 13) else (gQ07 y1 a_.type_).bind fun y8 => some (y8.1, y8.2) else (gQ07 y1 a_.type_).bind fun y9 => some (y9.1, y9.2)
theorem gQ6l (hb : Base E E0 G) (he : ∀ w, E w → EnvV w)   (a_ : AttrG) (v_ : Val) : ∀ r_ : Val × Int, gQ6k a_ v_ = some r_ →
 Pure E E0 Tryz.prog 58 [.agg [vS a_.name, vi a_.type_.kind, vL flT a_.type_.elems, vL flS a_.type_.names, vi a_.mode, vB a_.replace, vB a_.sensitive, vB a_.volatile], .agg (aV v_)] (.tup [.agg (aV r_.1), .cell (vi r_.2)]) := by
 refine fnE hb Tryz.func58 rfl fun r_ hq => ?_
 refine q6 hb 12 hq (gQ7f hb he v_ a_.name) fun y1 hy1 hq => ?_
 refine ifE hb 10 [13, 14] [] hq (fun hq _ => ?_) (fun hq _ => ?_)
 refine ifE hb 5 [17, 18] [] hq (fun hq _ => ?_) (fun hq hc3 => ?_)
 exact retE hb 7 (injO hq).symm
 refine ifE hb 9 [22, 23] [] hq (fun hq _ => ?_) (fun hq _ => ?_)
 refine knE hb 5 [26, 27] [] (b := (!decide (y1.kind = 0))) (v := true) (congrArg (fun z => !z) hc3) ?_
 exact retE hb 7 (injO hq).symm
 refine q6 hb 12 hq (gQ08 hb he y1 a_.type_) fun y5 hy5 hq => ?_
 exact retE hb 5 (injO hq).symm
 refine ifE hb 14 [22, 23] [] hq (fun hq _ => ?_) (fun hq _ => ?_)
 refine ifE hb 5 [26, 27] [] hq (fun hq _ => ?_) (fun hq _ => ?_)
 exact retE hb 7 (injO hq).symm
 refine q6 hb 7 hq (gQ08 hb he y1 a_.type_) fun y8 hy8 hq => ?_
 exact retE hb 5 (injO hq).symm
 refine q6 hb 12 hq (gQ08 hb he y1 a_.type_) fun y9 hy9 hq => ?_
 exact retE hb 5 (injO hq).symm
noncomputable def gQ6w  (n_ : NestedG) (v_ : Val) (x4 : ByteArray) (x6 : AttrG) : Option (Bool) :=
 some (decide (x6.name = x4))
theorem gQ6x (hb : Base E E0 G) (he : ∀ w, E w → EnvV w)   (n_ : NestedG) (v_ : Val) (x4 : ByteArray) (x6 : AttrG) : ∀ r_ : Bool, gQ6w n_ v_ x4 x6 = some r_ →
 Ok E E0 Tryz.prog 140 [.agg [vS x6.name, vi x6.type_.kind, vL flT x6.type_.elems, vL flS x6.type_.names, vi x6.mode, vB x6.replace, vB x6.sensitive, vB x6.volatile], .cell (.ptr 3 0 0)] [bx [vS n_.name, vi n_.min, vi n_.max, vL q7 n_.attrs, vB n_.replace], bx (aV v_), bx zV, bx [vS x4]] (c1 (vB r_)) [bx [vS n_.name, vi n_.min, vi n_.max, vL q7 n_.attrs, vB n_.replace], bx (aV v_), bx zV, bx [vS x4]] := by
 refine fnO hb Tryz.func140 rfl fun r_ hq => ?_
 exact q4u hb 13 [3] [] 4 (injO hq).symm ⟨(by kernel_rfl), (by kernel_rfl), (by kernel_rfl), (by kernel_rfl), trivial⟩
noncomputable def gQ6u (n_ : NestedG) (v_ : Val) (x4 : ByteArray) (s1ii : Int) : Option ((Int) ⊕ (Int)) :=
 bif (decide (s1ii < (n_.attrs.length : Int))) then (idx n_.attrs s1ii).bind fun x6 => (gQ6w n_ v_ x4 x6).bind fun y7 => bif y7 then some (.inr (s1ii)) else some (.inl (IntKind.i64.wrap (s1ii + 1))) else some (.inr (-1))
noncomputable def gQ6t  (n_ : NestedG) (v_ : Val) (x4 : ByteArray) : Option (Int) :=
 qb (gQ6u n_ v_ x4) 0
theorem gQ6v (hb : Base E E0 G) (he : ∀ w, E w → EnvV w)   (n_ : NestedG) (v_ : Val) (x4 : ByteArray) : ∀ r_ : Int, gQ6t n_ v_ x4 = some r_ →
 Ok E E0 Tryz.prog 159 [.cell (vL q7 n_.attrs), .cell (.fn 140 [(3, 0, 0)])] [bx [vS n_.name, vi n_.min, vi n_.max, vL q7 n_.attrs, vB n_.replace], bx (aV v_), bx zV, bx [vS x4]] (c1 (vi r_)) [bx [vS n_.name, vi n_.min, vi n_.max, vL q7 n_.attrs, vB n_.replace], bx (aV v_), bx zV, bx [vS x4]] := by
 refine fnO hb Tryz.func159 rfl fun r_ hq => ?_
 refine qj hb 12 (gQ6u n_ v_ x4) (fun s1ii => sl 19 [(0, c1 (vL q7 n_.attrs)), (1, c1 (.fn 140 [(3, 0, 0)])), (7, c1 (vi (n_.attrs.length : Int))), (8, c1 (vi s1ii))]) (fun s1ii => [bx [vS n_.name, vi n_.min, vi n_.max, vL q7 n_.attrs, vB n_.replace], bx (aV v_), bx zV, bx [vS x4]]) [0, 1, 7, 8] [] 4 (s0 := 0) ⟨(by kernel_rfl), (by kernel_rfl), (by kernel_rfl), (by kernel_rfl), trivial⟩ hq (fun s1ii x1 hq hn1 he1 => ?_)
 refine ifE hb 5 [9] [] hq (fun hq _ => ?_) (fun hq _ => ?_)
 refine idxE hb q7 14 hq fun x6 hx6 hq => ?_
 refine q6v hb 1 hq (gQ6x hb he n_ v_ x4 x6) fun y7 hy7 hq => ?_
 refine ifE hb 1 [16] [] hq (fun hq _ => ?_) (fun hq _ => ?_)
 exact q4u hb 6 [4] [] 4 (he1 _ (injO hq)) ⟨(by kernel_rfl), (by kernel_rfl), (by kernel_rfl), (by kernel_rfl), trivial⟩
 exact q9 hb 7 [0, 1, 7, 8] [] 4 (hn1 _ (injO hq)) ⟨(by kernel_rfl), (by kernel_rfl), (by kernel_rfl), (by kernel_rfl), trivial⟩
 exact q4u hb 6 [4] [] 4 (he1 _ (injO hq)) ⟨(by kernel_rfl), (by kernel_rfl), (by kernel_rfl), (by kernel_rfl), trivial⟩
noncomputable def gQ6r  (n_ : NestedG) (v_ : Val) (x4 : ByteArray) : Option (Bool) :=
 (gQ6t n_ v_ x4).bind fun y9 => some (decide (y9 ≥ 0))
theorem gQ6s (hb : Base E E0 G) (he : ∀ w, E w → EnvV w)   (n_ : NestedG) (v_ : Val) (x4 : ByteArray) : ∀ r_ : Bool, gQ6r n_ v_ x4 = some r_ →
 Ok E E0 Tryz.prog 139 [.cell (vL q7 n_.attrs), .cell (.fn 140 [(3, 0, 0)])] [bx [vS n_.name, vi n_.min, vi n_.max, vL q7 n_.attrs, vB n_.replace], bx (aV v_), bx zV, bx [vS x4]] (c1 (vB r_)) [bx [vS n_.name, vi n_.min, vi n_.max, vL q7 n_.attrs, vB n_.replace], bx (aV v_), bx zV, bx [vS x4]] := by
 refine fnO hb Tryz.func139 rfl fun r_ hq => ?_
 refine q6v hb 8 hq (gQ6v hb he n_ v_ x4) fun y9 hy9 hq => ?_
 exact q4u hb 3 [4] [] 4 (injO hq).symm ⟨(by kernel_rfl), (by kernel_rfl), (by kernel_rfl), (by kernel_rfl), trivial⟩
noncomputable def gQ6q (n_ : NestedG) (v_ : Val) (s2 : Int × List Val × List ByteArray) : Option ((Int × List Val × List ByteArray) ⊕ ((Int) ⊕ (Val × Int))) :=
 bif (decide (s2.1 < (n_.attrs.length : Int))) then (idx n_.attrs s2.1).bind fun x13 => (gQ6k x13 v_).bind fun y14 => bif (!decide (y14.2 = 0)) then some (.inr (.inr ((Val.mk 0 0 eS [] []), y14.2))) else (app 16 s2.2.2 [x13.name]).bind fun l16 => (app 80 s2.2.1 [y14.1]).bind fun l17 => some (.inl ((IntKind.i64.wrap (s2.1 + 1)), l17, l16)) else some (.inr (.inr ((Val.mk 5 0 eS s2.2.1 s2.2.2), 0)))
noncomputable def gQ6p (n_ : NestedG) (v_ : Val) (s1 : Int) : Option ((Int) ⊕ (Val × Int)) :=
 bif (decide (s1 < (v_.keys.length : Int))) then (idx v_.keys s1).bind fun x4 => (gQ6r n_ v_ x4).bind fun y10 => bif (!y10) then some (.inr ((Val.mk 0 0 eS [] []), 13)) else some (.inl (IntKind.i64.wrap (s1 + 1))) else qb (gQ6q n_ v_) (0, [], [])
noncomputable def gQ6o  (n_ : NestedG) (v_ : Val) : Option (Val × Int) :=
 bif (decide (v_.kind = 6)) then some (v_, 0) else bif (!decide (v_.kind = 5)) then some ((Val.mk 0 0 eS [] []), 6) else qb (gQ6p n_ v_) 0
theorem gQ6y (hb : Base E E0 G) (he : ∀ w, E w → EnvV w)   (n_ : NestedG) (v_ : Val) : ∀ r_ : Val × Int, gQ6o n_ v_ = some r_ →
 Pure E E0 Tryz.prog 105 [.agg [vS n_.name, vi n_.min, vi n_.max, vL q7 n_.attrs, vB n_.replace], .agg (aV v_)] (.tup [.agg (aV r_.1), .cell (vi r_.2)]) := by
 refine fnE hb Tryz.func105 rfl fun r_ hq => ?_
 refine ifE hb 14 [15] [] hq (fun hq _ => ?_) (fun hq _ => ?_)
 exact retE hb 7 (injO hq).symm
 refine ifE hb 9 [19] [] hq (fun hq _ => ?_) (fun hq _ => ?_)
 exact retE hb 7 (injO hq).symm
 refine qj hb 11 (gQ6p n_ v_) (fun s1 => sl 68 [(2, pt 0), (3, pt 1), (4, pt 2), (22, c1 (vL flS v_.keys)), (23, c1 (vi (v_.keys.length : Int))), (24, c1 (vi s1))]) (fun s1 => [bx [vS n_.name, vi n_.min, vi n_.max, vL q7 n_.attrs, vB n_.replace], bx (aV v_), bx zV]) [2, 3, 4, 22, 23, 24] [] 3 (s0 := 0) ⟨(by kernel_rfl), (by kernel_rfl), (by kernel_rfl), trivial⟩ hq (fun s1 x1 hq hn1 he1 => ?_)
 refine ifE hb 5 [25] [] hq (fun hq _ => ?_) (fun hq _ => ?_)
 refine idxE hb flS 6 hq fun x4 hx4 hq => ?_
 refine q6v hb 9 hq (gQ6s hb he n_ v_ x4) fun y10 hy10 hq => ?_
 refine ifE hb 2 [32] [] hq (fun hq _ => ?_) (fun hq _ => ?_)
 exact retE hb 7 (he1 _ (injO hq))
 exact q9 hb 7 [2, 3, 4, 22, 23, 24] [] 3 (hn1 _ (injO hq)) ⟨(by kernel_rfl), (by kernel_rfl), (by kernel_rfl), trivial⟩
 refine q17 hb 17 3 3 5 (cs := [vi 5, vi 0, vS eS, vN, vN]) (by kernel_rfl) ?_
 refine q17 hb 0 3 4 1 (cs := [vi 5, vi 0, vS eS, vO flV 4 [], vN]) (by kernel_rfl) ?_
 refine qj hb 0 (gQ6q n_ v_) (fun s2 => sl 68 [(3, pt 1), (4, pt 2), (8, pt 3), (37, c1 (vL q7 n_.attrs)), (38, c1 (vi (n_.attrs.length : Int))), (39, c1 (vi s2.1))]) (fun s2 => [none, bx (aV v_), bx zV, bx [vi 5, vi 0, vS eS, vO flV 4 s2.2.1, vO flS 5 s2.2.2], some (arO true flV.sz 0 (flV.f s2.2.1)), some (arO true flS.sz 0 (flS.f s2.2.2))]) [3, 4, 8, 37, 38, 39] [0] 6 (s0 := (0, [], [])) ⟨rfl, (by kernel_rfl), (by kernel_rfl), (by kernel_rfl), (q8 _ _ _ _ _), (q8 _ _ _ _ _), trivial⟩ hq (fun s2 x2 hq hn2 he2 => ?_)
 refine ifE hb 5 [40] [] hq (fun hq _ => ?_) (fun hq _ => ?_)
 refine idxE hb q7 6 hq fun x13 hx13 hq => ?_
 refine q6 hb 8 hq (gQ6l hb he x13 v_) fun y14 hy14 hq => ?_
 refine ifE hb 13 [50] [] hq (fun hq _ => ?_) (fun hq _ => ?_)
 exact retE hb 8 (he1 _ ((he2 _ (injO hq)).symm))
 refine qg flS hb 9 5 true 0 (flS.one x13.name) hq fun l16 hl16 hq => ?_
 refine qg flV hb 8 4 true 0 (flV.one y14.1) hq fun l17 hl17 hq => ?_
 exact q9 hb 8 [3, 4, 8, 37, 38, 39] [] 6 (hn2 _ (injO hq)) ⟨rfl, (by kernel_rfl), (by kernel_rfl), (by kernel_rfl), (q8 _ _ _ _ _), (q8 _ _ _ _ _), trivial⟩
 refine qq hb 8 4 true (sz := flV.sz) (fr := 0) (cs := flV.f s2.2.1) (by kernel_rfl) (Nat.zero_le _) ?_
 refine qn hb 0 2 3 (cs := [vi 5, vi 0, vS eS, vO flV 4 s2.2.1, vO flS 5 s2.2.2]) (c := vO flV 4 s2.2.1) (qr flV (nb := true) (id := 4) (xs := s2.2.1) (by kernel_rfl)) (by kernel_rfl) ?_
 refine qq hb 0 5 true (sz := flS.sz) (fr := 0) (cs := flS.f s2.2.2) (by kernel_rfl) (Nat.zero_le _) ?_
 refine qn hb 0 2 4 (cs := [vi 5, vi 0, vS eS, vL flV s2.2.1, vO flS 5 s2.2.2]) (c := vO flS 5 s2.2.2) (qr flS (nb := true) (id := 5) (xs := s2.2.2) (by kernel_rfl)) (by kernel_rfl) ?_
 exact retE hb 0 (he1 _ ((he2 _ (injO hq)).symm))
noncomputable def gQ74  (n_ : NestedG) (v_ : Val) : Option (Unit) :=
 some ()
theorem gQ75 (hb : Base E E0 G) (he : ∀ w, E w → EnvV w)   (n_ : NestedG) (v_ : Val) : ∀ r_ : Unit, gQ74 n_ v_ = some r_ →
 Ok E E0 Tryz.prog 138 [.cell (vN)] [bx [vS n_.name, vi n_.min, vi n_.max, vL q7 n_.attrs, vB n_.replace], bx (aV v_), bx zV, bx zV] (c1 (vN)) [bx [vS n_.name, vi n_.min, vi n_.max, vL q7 n_.attrs, vB n_.replace], bx (aV v_), bx zV, bx zV] := by
 refine fnO2 hb Tryz.func138 rfl fun r_ hq => ?_
 exact q2s hb 16 [2] [] 4 (σ1 := fun r_ : Unit => [bx [vS n_.name, vi n_.min, vi n_.max, vL q7 n_.attrs, vB n_.replace], bx (aV v_), bx zV, bx zV]) (injO hq).symm ⟨(by kernel_rfl), (by kernel_rfl), (by kernel_rfl), (by kernel_rfl), trivial⟩
noncomputable def gQ72  (n_ : NestedG) (v_ : Val) : Option (Unit) :=
 (gQ74 n_ v_).bind fun y5 => some ()
theorem gQ73 (hb : Base E E0 G) (he : ∀ w, E w → EnvV w)   (n_ : NestedG) (v_ : Val) : ∀ r_ : Unit, gQ72 n_ v_ = some r_ →
 Ok E E0 Tryz.prog 104 [.cell (vN)] [bx [vS n_.name, vi n_.min, vi n_.max, vL q7 n_.attrs, vB n_.replace], bx (aV v_), bx zV] (.one (.agg [vi 4, vi 0, vS eS, vN, vN])) [bx [vS n_.name, vi n_.min, vi n_.max, vL q7 n_.attrs, vB n_.replace], bx (aV v_), bx zV, bx [vi 4, vi 0, vS eS, vN, vN]] := by
 refine fnO2 hb Tryz.func104 rfl fun r_ hq => ?_
 refine q45 hb 7 hq (gQ75 hb he n_ v_) fun y5 hy5 hq => ?_
 exact q2s hb 3 [2] [] 4 (σ1 := fun r_ : Unit => [bx [vS n_.name, vi n_.min, vi n_.max, vL q7 n_.attrs, vB n_.replace], bx (aV v_), bx zV, bx [vi 4, vi 0, vS eS, vN, vN]]) (injO hq).symm ⟨(by kernel_rfl), (by kernel_rfl), (by kernel_rfl), (by kernel_rfl), trivial⟩
noncomputable def gQ78  (n_ : NestedG) (v_ : Val) : Option (Unit) :=
 some ()
theorem gQ79 (hb : Base E E0 G) (he : ∀ w, E w → EnvV w)   (n_ : NestedG) (v_ : Val) : ∀ r_ : Unit, gQ78 n_ v_ = some r_ →
 Ok E E0 Tryz.prog 138 [.cell (vN)] [bx [vS n_.name, vi n_.min, vi n_.max, vL q7 n_.attrs, vB n_.replace], bx (aV v_), bx zV, bx zV] (c1 (vN)) [bx [vS n_.name, vi n_.min, vi n_.max, vL q7 n_.attrs, vB n_.replace], bx (aV v_), bx zV, bx zV] := by
 refine fnO2 hb Tryz.func138 rfl fun r_ hq => ?_
 exact q2s hb 16 [2] [] 4 (σ1 := fun r_ : Unit => [bx [vS n_.name, vi n_.min, vi n_.max, vL q7 n_.attrs, vB n_.replace], bx (aV v_), bx zV, bx zV]) (injO hq).symm ⟨(by kernel_rfl), (by kernel_rfl), (by kernel_rfl), (by kernel_rfl), trivial⟩
noncomputable def gQ76  (n_ : NestedG) (v_ : Val) : Option (Unit) :=
 (gQ78 n_ v_).bind fun y15 => some ()
theorem gQ77 (hb : Base E E0 G) (he : ∀ w, E w → EnvV w)   (n_ : NestedG) (v_ : Val) : ∀ r_ : Unit, gQ76 n_ v_ = some r_ →
 Ok E E0 Tryz.prog 104 [.cell (vN)] [bx [vS n_.name, vi n_.min, vi n_.max, vL q7 n_.attrs, vB n_.replace], bx (aV v_), bx zV] (.one (.agg [vi 4, vi 0, vS eS, vN, vN])) [bx [vS n_.name, vi n_.min, vi n_.max, vL q7 n_.attrs, vB n_.replace], bx (aV v_), bx zV, bx [vi 4, vi 0, vS eS, vN, vN]] := by
 refine fnO2 hb Tryz.func104 rfl fun r_ hq => ?_
 refine q45 hb 7 hq (gQ79 hb he n_ v_) fun y15 hy15 hq => ?_
 exact q2s hb 3 [2] [] 4 (σ1 := fun r_ : Unit => [bx [vS n_.name, vi n_.min, vi n_.max, vL q7 n_.attrs, vB n_.replace], bx (aV v_), bx zV, bx [vi 4, vi 0, vS eS, vN, vN]]) (injO hq).symm ⟨(by kernel_rfl), (by kernel_rfl), (by kernel_rfl), (by kernel_rfl), trivial⟩
noncomputable def gQ70 (n_ : NestedG) (v_ : Val) (s1 : Int × List Val) : Option ((Int × List Val) ⊕ (Val × Int)) :=
 bif (decide (s1.1 < (v_.items.length : Int))) then (idx v_.items s1.1).bind fun x8 => (gQ6o n_ x8).bind fun y9 => bif (!decide (y9.2 = 0)) then some (.inr ((Val.mk 0 0 eS [] []), y9.2)) else (app 80 s1.2 [y9.1]).bind fun l11 => some (.inl ((IntKind.i64.wrap (s1.1 + 1)), l11)) else some (.inr ((Val.mk 4 0 eS s1.2 []), 0))
noncomputable def gQ71 (n_ : NestedG) (v_ : Val) (s1 : Int × List Val) : Option ((Int × List Val) ⊕ (Val × Int)) :=
 bif (decide (s1.1 < (v_.items.length : Int))) then (idx v_.items s1.1).bind fun x18 => (gQ6o n_ x18).bind fun y19 => bif (!decide (y19.2 = 0)) then some (.inr ((Val.mk 0 0 eS [] []), y19.2)) else (app 80 s1.2 [y19.1]).bind fun l21 => some (.inl ((IntKind.i64.wrap (s1.1 + 1)), l21)) else some (.inr ((Val.mk 4 0 eS s1.2 []), 0))
noncomputable def gQ6z  (n_ : NestedG) (v_ : Val) : Option (Val × Int) :=
 bif (decide (v_.kind = 6)) then some (v_, 0) else bif (decide (v_.kind = 0)) then bif (decide ((v_.items.length : Int) < n_.min)) then some ((Val.mk 0 0 eS [] []), 12) else bif (decide ((v_.items.length : Int) > n_.max)) then some ((Val.mk 0 0 eS [] []), 14) else (gQ72 n_ v_).bind fun y6 => qb (gQ70 n_ v_) (0, []) else bif (decide (v_.kind = 4)) then bif (decide ((v_.items.length : Int) < n_.min)) then some ((Val.mk 0 0 eS [] []), 12) else bif (decide ((v_.items.length : Int) > n_.max)) then some ((Val.mk 0 0 eS [] []), 14) else (gQ76 n_ v_).bind fun y16 => qb (gQ71 n_ v_) (0, []) else some ((Val.mk 0 0 eS [] []), 6)
theorem gQ7a (hb : Base E E0 G) (he : ∀ w, E w → EnvV w)   (n_ : NestedG) (v_ : Val) : ∀ r_ : Val × Int, gQ6z n_ v_ = some r_ →
 Pure E E0 Tryz.prog 59 [.agg [vS n_.name, vi n_.min, vi n_.max, vL q7 n_.attrs, vB n_.replace], .agg (aV v_)] (.tup [.agg (aV r_.1), .cell (vi r_.2)]) := by
 refine fnE hb Tryz.func59 rfl fun r_ hq => ?_
 refine ifE hb 19 [14, 15] [] hq (fun hq _ => ?_) (fun hq _ => ?_)
 exact retE hb 7 (injO hq).symm
 refine ifE hb 7 [17, 18] [] hq (fun hq _ => ?_) (fun hq _ => ?_)
 refine ifE hb 15 [25] [] hq (fun hq _ => ?_) (fun hq _ => ?_)
 exact retE hb 7 (injO hq).symm
 refine ifE hb 12 [32] [] hq (fun hq _ => ?_) (fun hq _ => ?_)
 exact retE hb 7 (injO hq).symm
 refine q45 hb 4 hq (gQ73 hb he n_ v_) fun y6 hy6 hq => ?_
 refine cpE hb 12 [2, 4, 6, 36, 37, 38] (s' := ⟨none, [pk Tryz.f59 506], [(1, [pk Tryz.f59 127])], sl 60 [(2, pt 0), (4, pt 2), (6, pt 4), (36, c1 (vL flV v_.items)), (37, c1 (vi (v_.items.length : Int))), (38, c1 (vi 0))], [bx [vS n_.name, vi n_.min, vi n_.max, vL q7 n_.attrs, vB n_.replace], bx (aV v_), bx zV, bx [vi 4, vi 0, vS eS, vN, vN], bx [vi 4, vi 0, vS eS, vN, vN]]⟩) ?_
 refine q17 hb 0 4 3 5 (cs := [vi 4, vi 0, vS eS, vN, vN]) (by kernel_rfl) ?_
 refine qj hb 0 (gQ70 n_ v_) (fun s1 => sl 60 [(2, pt 0), (4, pt 2), (6, pt 4), (36, c1 (vL flV v_.items)), (37, c1 (vi (v_.items.length : Int))), (38, c1 (vi s1.1))]) (fun s1 => [bx [vS n_.name, vi n_.min, vi n_.max, vL q7 n_.attrs, vB n_.replace], none, bx zV, none, bx [vi 4, vi 0, vS eS, vO flV 5 s1.2, vN], some (arO true flV.sz 0 (flV.f s1.2))]) [2, 4, 6, 36, 37, 38] [1, 3] 6 (s0 := (0, [])) ⟨(by kernel_rfl), rfl, (by kernel_rfl), rfl, (by kernel_rfl), (q8 _ _ _ _ _), trivial⟩ hq (fun s1 x1 hq hn1 he1 => ?_)
 refine ifE hb 5 [39] [] hq (fun hq _ => ?_) (fun hq _ => ?_)
 refine idxE hb flV 6 hq fun x8 hx8 hq => ?_
 refine q6 hb 8 hq (gQ6y hb he n_ x8) fun y9 hy9 hq => ?_
 refine ifE hb 13 [49] [] hq (fun hq _ => ?_) (fun hq _ => ?_)
 exact retE hb 8 (he1 _ (injO hq))
 refine qg flV hb 7 5 true 0 (flV.one y9.1) hq fun l11 hl11 hq => ?_
 exact q9 hb 8 [2, 4, 6, 36, 37, 38] [] 6 (hn1 _ (injO hq)) ⟨(by kernel_rfl), rfl, (by kernel_rfl), rfl, (by kernel_rfl), (q8 _ _ _ _ _), trivial⟩
 refine qq hb 8 5 true (sz := flV.sz) (fr := 0) (cs := flV.f s1.2) (by kernel_rfl) (Nat.zero_le _) ?_
 refine qn hb 0 2 3 (cs := [vi 4, vi 0, vS eS, vO flV 5 s1.2, vN]) (c := vO flV 5 s1.2) (qr flV (nb := true) (id := 5) (xs := s1.2) (by kernel_rfl)) (by kernel_rfl) ?_
 exact retE hb 0 (he1 _ (injO hq))
 refine ifE hb 5 [17, 19] [] hq (fun hq _ => ?_) (fun hq _ => ?_)
 refine ifE hb 13 [25] [] hq (fun hq _ => ?_) (fun hq _ => ?_)
 exact retE hb 7 (injO hq).symm
 refine ifE hb 12 [32] [] hq (fun hq _ => ?_) (fun hq _ => ?_)
 exact retE hb 7 (injO hq).symm
 refine q45 hb 4 hq (gQ77 hb he n_ v_) fun y16 hy16 hq => ?_
 refine cpE hb 12 [2, 4, 6, 36, 37, 38] (s' := ⟨none, [pk Tryz.f59 506], [(1, [pk Tryz.f59 127])], sl 60 [(2, pt 0), (4, pt 2), (6, pt 4), (36, c1 (vL flV v_.items)), (37, c1 (vi (v_.items.length : Int))), (38, c1 (vi 0))], [bx [vS n_.name, vi n_.min, vi n_.max, vL q7 n_.attrs, vB n_.replace], bx (aV v_), bx zV, bx [vi 4, vi 0, vS eS, vN, vN], bx [vi 4, vi 0, vS eS, vN, vN]]⟩) ?_
 refine q17 hb 0 4 3 5 (cs := [vi 4, vi 0, vS eS, vN, vN]) (by kernel_rfl) ?_
 refine qj hb 0 (gQ71 n_ v_) (fun s1 => sl 60 [(2, pt 0), (4, pt 2), (6, pt 4), (36, c1 (vL flV v_.items)), (37, c1 (vi (v_.items.length : Int))), (38, c1 (vi s1.1))]) (fun s1 => [bx [vS n_.name, vi n_.min, vi n_.max, vL q7 n_.attrs, vB n_.replace], none, bx zV, none, bx [vi 4, vi 0, vS eS, vO flV 5 s1.2, vN], some (arO true flV.sz 0 (flV.f s1.2))]) [2, 4, 6, 36, 37, 38] [1, 3] 6 (s0 := (0, [])) ⟨(by kernel_rfl), rfl, (by kernel_rfl), rfl, (by kernel_rfl), (q8 _ _ _ _ _), trivial⟩ hq (fun s1 x1 hq hn1 he1 => ?_)
 refine ifE hb 5 [39] [] hq (fun hq _ => ?_) (fun hq _ => ?_)
 refine idxE hb flV 6 hq fun x18 hx18 hq => ?_
 refine q6 hb 8 hq (gQ6y hb he n_ x18) fun y19 hy19 hq => ?_
 refine ifE hb 13 [49] [] hq (fun hq _ => ?_) (fun hq _ => ?_)
 exact retE hb 8 (he1 _ (injO hq))
 refine qg flV hb 7 5 true 0 (flV.one y19.1) hq fun l21 hl21 hq => ?_
 exact q9 hb 8 [2, 4, 6, 36, 37, 38] [] 6 (hn1 _ (injO hq)) ⟨(by kernel_rfl), rfl, (by kernel_rfl), rfl, (by kernel_rfl), (q8 _ _ _ _ _), trivial⟩
 refine qq hb 8 5 true (sz := flV.sz) (fr := 0) (cs := flV.f s1.2) (by kernel_rfl) (Nat.zero_le _) ?_
 refine qn hb 0 2 3 (cs := [vi 4, vi 0, vS eS, vO flV 5 s1.2, vN]) (c := vO flV 5 s1.2) (qr flV (nb := true) (id := 5) (xs := s1.2) (by kernel_rfl)) (by kernel_rfl) ?_
 exact retE hb 0 (he1 _ (injO hq))
 exact retE hb 7 (injO hq).symm
noncomputable def gQ9e (keys_ : List ByteArray) (items_ : List Val) (l5 : List Int) (s2 : Int × List Val × List ByteArray) : Option ((Int × List Val × List ByteArray) ⊕ ((Int × List Int) ⊕ (Val × Int))) :=
 bif (decide (s2.1 < (l5.length : Int))) then (idx l5 s2.1).bind fun x7 => bif (decide (s2.1 > 0)) then (idx keys_ x7).bind fun x9 => (idx s2.2.2 (IntKind.i64.wrap (s2.1 - 1))).bind fun x10 => bif (decide (x9 = x10)) then some (.inr (.inr ((Val.mk 0 0 eS [] []), 8))) else (idx keys_ x7).bind fun x12 => (app 16 s2.2.2 [x12]).bind fun l13 => (idx items_ x7).bind fun x14 => (tQb6 x14).bind fun y15 => (app 80 s2.2.1 [y15]).bind fun l16 => some (.inl ((IntKind.i64.wrap (s2.1 + 1)), l16, l13)) else (idx keys_ x7).bind fun x17 => (app 16 s2.2.2 [x17]).bind fun l18 => (idx items_ x7).bind fun x19 => (tQb6 x19).bind fun y20 => (app 80 s2.2.1 [y20]).bind fun l21 => some (.inl ((IntKind.i64.wrap (s2.1 + 1)), l21, l18)) else some (.inr (.inr ((Val.mk 5 0 eS s2.2.1 s2.2.2), 0)))
noncomputable def gQ9d (keys_ : List ByteArray) (items_ : List Val) (l2 : List Int) (s1 : Int × List Int) : Option ((Int × List Int) ⊕ (Val × Int)) :=
 bif (decide (s1.1 < (l2.length : Int))) then (idx s1.2 s1.1).bind fun x4 => some (.inl ((IntKind.i64.wrap (s1.1 + 1)), (upd s1.2 s1.1 s1.1))) else (q5d keys_ s1.2).bind fun l5 => qb (gQ9e keys_ items_ l5) (0, [], [])
noncomputable def gQ9c  (keys_ : List ByteArray) (items_ : List Val) : Option (Val × Int) :=
 bif (!decide ((keys_.length : Int) = (items_.length : Int))) then some ((Val.mk 0 0 eS [] []), 1) else (mkl 8 (keys_.length : Int) 0).bind fun l2 => qb (gQ9d keys_ items_ l2) (0, l2)
theorem gQ9f (hb : Base E E0 G) (he : ∀ w, E w → EnvV w)   (keys_ : List ByteArray) (items_ : List Val) : ∀ r_ : Val × Int, gQ9c keys_ items_ = some r_ →
 Pure E E0 Tryz.prog 61 [.cell (vL flS keys_), .cell (vL flV items_)] (.tup [.agg (aV r_.1), .cell (vi r_.2)]) := by
 refine fnE hb Tryz.func61 rfl fun r_ hq => ?_
 refine ifE hb 15 [15] [] hq (fun hq _ => ?_) (fun hq _ => ?_)
 exact retE hb 7 (injO hq).symm
 refine mkE (flI .i64) hb 6 hq fun l2 hl2 hq => ?_
 refine q5z (flI .i64) hb 6 2 false 0 l2 ?_
 refine qj hb 3 (gQ9d keys_ items_ l2) (fun s1 => sl 78 [(1, c1 (vL flV items_)), (2, pt 0), (4, pt 1), (6, c1 (vO (flI .i64) 2 s1.2)), (21, c1 (vi (l2.length : Int))), (22, c1 (vi s1.1))]) (fun s1 => [bx [vL flS keys_], bx zV, some (arO false (flI .i64).sz 0 ((flI .i64).f s1.2))]) [1, 2, 4, 6, 21, 22] [] 3 (s0 := (0, l2)) ⟨(by kernel_rfl), (by kernel_rfl), (q8 _ _ _ _ _), trivial⟩ hq (fun s1 x1 hq hn1 he1 => ?_)
 refine ifE hb 5 [23] [] hq (fun hq _ => ?_) (fun hq _ => ?_)
 refine q46 (flI .i64) hb 13 2 false 0 hq fun x4 hx4 hq => ?_
 refine qfj (flI .i64) hb 0 2 hx4 s1.1 ?_
 refine q54 hb 2 6 (c := vO (flI .i64) 2 s1.2) (q55 (q5j (flI .i64) (q4c s1.2 s1.1 s1.1))) ?_
 exact q9 hb 4 [1, 2, 4, 6, 21, 22] [] 3 (hn1 _ (injO hq)) ⟨(by kernel_rfl), (by kernel_rfl), (q8 _ _ _ _ _), trivial⟩
 refine q83 hb 6 hq (quu hb he 2 false 0 keys_ s1.2 (by kernel_rfl) (by kernel_rfl)) fun l5 hl5 hq => ?_
 refine q54 hb 1 6 (c := vO (flI .i64) 2 s1.2) (q55 (q5j (flI .i64) (qr0 hl5))) ?_
 refine q5z (flI .i64) hb 10 2 false 0 l5 ?_
 refine cpE hb 3 [1, 2, 4, 8, 34, 35, 36] (s' := ⟨none, [pk Tryz.f61 1018], [(2, [pk Tryz.f61 255])], sl 78 [(1, c1 (vL flV items_)), (2, pt 0), (4, pt 1), (8, pt 3), (34, c1 (vO (flI .i64) 2 l5)), (35, c1 (vi (l5.length : Int))), (36, c1 (vi 0))], [bx [vL flS keys_], bx zV, some (arO false (flI .i64).sz 0 ((flI .i64).f l5)), bx [vi 5, vi 0, vS eS, vN, vN]]⟩) ?_
 refine q17 hb 0 3 3 5 (cs := [vi 5, vi 0, vS eS, vN, vN]) (by kernel_rfl) ?_
 refine q17 hb 0 3 4 1 (cs := [vi 5, vi 0, vS eS, vO flV 4 [], vN]) (by kernel_rfl) ?_
 refine qj hb 0 (gQ9e keys_ items_ l5) (fun s2 => sl 78 [(1, c1 (vL flV items_)), (2, pt 0), (4, pt 1), (8, pt 3), (34, c1 (vO (flI .i64) 2 l5)), (35, c1 (vi (l5.length : Int))), (36, c1 (vi s2.1))]) (fun s2 => [bx [vL flS keys_], bx zV, some (arO false (flI .i64).sz 0 ((flI .i64).f l5)), bx [vi 5, vi 0, vS eS, vO flV 4 s2.2.1, vO flS 5 s2.2.2], some (arO true flV.sz 0 (flV.f s2.2.1)), some (arO true flS.sz 0 (flS.f s2.2.2))]) [1, 2, 4, 8, 34, 35, 36] [] 6 (s0 := (0, [], [])) ⟨(by kernel_rfl), (by kernel_rfl), (q8 _ _ _ _ _), (by kernel_rfl), (q8 _ _ _ _ _), (q8 _ _ _ _ _), trivial⟩ hq (fun s2 x2 hq hn2 he2 => ?_)
 refine ifE hb 5 [37] [] hq (fun hq _ => ?_) (fun hq _ => ?_)
 refine q46 (flI .i64) hb 7 2 false 0 hq fun x7 hx7 hq => ?_
 refine qdz (flI .i64) hb 0 2 false 0 hx7 rfl ?_
 refine qe hb mixed 5 13 [] ?_
 refine ifE hb 3 [42, 43] [] hq (fun hq _ => ?_) (fun hq _ => ?_)
 refine idxE hb flS 2 hq fun x9 hx9 hq => ?_
 refine q46 flS hb 5 5 true 0 hq fun x10 hx10 hq => ?_
 refine qdz flS hb 0 5 true 0 hx10 rfl ?_
 refine ifE hb 4 [54, 55] [] hq (fun hq _ => ?_) (fun hq _ => ?_)
 exact retE hb 7 (he1 _ ((he2 _ (injO hq)).symm))
 refine qe hb mixed 3 7 [] ?_
 refine idxE hb flS 4 hq fun x12 hx12 hq => ?_
 refine qg flS hb 3 5 true 0 (flS.one x12) hq fun l13 hl13 hq => ?_
 refine qe hb mixed 3 8 [] ?_
 refine idxE hb flV 4 hq fun x14 hx14 hq => ?_
 refine q6 hb 1 hq (tQb7 hb he x14) fun y15 hy15 hq => ?_
 refine qg flV hb 2 4 true 0 (flV.one y15) hq fun l16 hl16 hq => ?_
 exact q9 hb 8 [1, 2, 4, 8, 34, 35, 36] [] 6 (hn2 _ (injO hq)) ⟨(by kernel_rfl), (by kernel_rfl), (q8 _ _ _ _ _), (by kernel_rfl), (q8 _ _ _ _ _), (q8 _ _ _ _ _), trivial⟩
 refine qe hb mixed 17 7 [] ?_
 refine idxE hb flS 4 hq fun x17 hx17 hq => ?_
 refine qg flS hb 3 5 true 0 (flS.one x17) hq fun l18 hl18 hq => ?_
 refine qe hb mixed 3 8 [] ?_
 refine idxE hb flV 4 hq fun x19 hx19 hq => ?_
 refine q6 hb 1 hq (tQb7 hb he x19) fun y20 hy20 hq => ?_
 refine qg flV hb 2 4 true 0 (flV.one y20) hq fun l21 hl21 hq => ?_
 exact q9 hb 8 [1, 2, 4, 8, 34, 35, 36] [] 6 (hn2 _ (injO hq)) ⟨(by kernel_rfl), (by kernel_rfl), (q8 _ _ _ _ _), (by kernel_rfl), (q8 _ _ _ _ _), (q8 _ _ _ _ _), trivial⟩
 refine qq hb 8 4 true (sz := flV.sz) (fr := 0) (cs := flV.f s2.2.1) (by kernel_rfl) (Nat.zero_le _) ?_
 refine qn hb 0 1 3 (cs := [vi 5, vi 0, vS eS, vO flV 4 s2.2.1, vO flS 5 s2.2.2]) (c := vO flV 4 s2.2.1) (qr flV (nb := true) (id := 4) (xs := s2.2.1) (by kernel_rfl)) (by kernel_rfl) ?_
 refine qq hb 0 5 true (sz := flS.sz) (fr := 0) (cs := flS.f s2.2.2) (by kernel_rfl) (Nat.zero_le _) ?_
 refine qn hb 0 1 4 (cs := [vi 5, vi 0, vS eS, vL flV s2.2.1, vO flS 5 s2.2.2]) (c := vO flS 5 s2.2.2) (qr flS (nb := true) (id := 5) (xs := s2.2.2) (by kernel_rfl)) (by kernel_rfl) ?_
 exact retE hb 0 (he1 _ ((he2 _ (injO hq)).symm))
noncomputable def gQ5m (s_ : SchemaG) (v_ : Val) (s2 : Int × List ByteArray × List Val) : Option ((Int × List ByteArray × List Val) ⊕ ((Int × List ByteArray × List Val) ⊕ (Val × DiagG))) :=
 bif (decide (s2.1 < (s_.nested.length : Int))) then (idx s_.nested s2.1).bind fun x10 => (gQ7e v_ x10.name).bind fun y11 => (gQ6z x10 y11).bind fun y12 => bif (!decide (y12.2 = 0)) then some (.inr (.inr ((Val.mk 0 0 eS [] []), (DiagG.mk y12.2 0 x10.name)))) else (app 16 s2.2.1 [x10.name]).bind fun l14 => (app 80 s2.2.2 [y12.1]).bind fun l15 => some (.inl ((IntKind.i64.wrap (s2.1 + 1)), l14, l15)) else (gQ9c s2.2.1 s2.2.2).bind fun y16 => (q28 y16.1).bind fun y17 => bif (!decide (y17 = 0)) then some (.inr (.inr ((Val.mk 0 0 eS [] []), (DiagG.mk y17 0 eS)))) else some (.inr (.inr (y16.1, (DiagG.mk 0 0 eS))))
noncomputable def gQ5l (s_ : SchemaG) (v_ : Val) (s1 : Int × List ByteArray × List Val) : Option ((Int × List ByteArray × List Val) ⊕ (Val × DiagG)) :=
 bif (decide (s1.1 < (s_.attrs.length : Int))) then (idx s_.attrs s1.1).bind fun x4 => (gQ6k x4 v_).bind fun y5 => bif (!decide (y5.2 = 0)) then some (.inr ((Val.mk 0 0 eS [] []), (DiagG.mk y5.2 0 x4.name))) else (app 16 s1.2.1 [x4.name]).bind fun l7 => (app 80 s1.2.2 [y5.1]).bind fun l8 => some (.inl ((IntKind.i64.wrap (s1.1 + 1)), l7, l8)) else qb (gQ5m s_ v_) (0, s1.2.1, s1.2.2)
noncomputable def gQ5k  (s_ : SchemaG) (v_ : Val) : Option (Val × DiagG) :=
 (gQ7b s_ v_).bind fun y1 => bif (!decide (y1.kind = 0)) then some ((Val.mk 0 0 eS [] []), y1) else qb (gQ5l s_ v_) (0, [], [])
theorem gQ5n (hb : Base E E0 G) (he : ∀ w, E w → EnvV w)   (s_ : SchemaG) (v_ : Val) : ∀ r_ : Val × DiagG, gQ5k s_ v_ = some r_ →
 Pure E E0 Tryz.prog 17 [.agg [vL q7 s_.attrs, vL qd s_.nested], .agg (aV v_)] (.tup [.agg (aV r_.1), .agg [vi r_.2.kind, vi r_.2.at_, vS r_.2.name]]) := by
 refine fnE hb Tryz.func17 rfl fun r_ hq => ?_
 refine q6 hb 12 hq (gQ7d hb he s_ v_) fun y1 hy1 hq => ?_
 refine ifE hb 9 [25] [] hq (fun hq _ => ?_) (fun hq _ => ?_)
 refine frzE hb 2 6 4 (ps := [pI .i64 y1.kind, pI .i64 y1.at_, pS y1.name]) (by kernel_rfl) ?_
 refine qe hb mixed 0 2 [1] ?_
 exact retE hb 6 (injO hq).symm
 refine q4s hb 19 7 1 ?_
 refine q4s hb 0 8 5 ?_
 refine qj hb 0 (gQ5l s_ v_) (fun s1 => sl 106 [(2, pt 0), (3, pt 1), (4, pt 2), (5, pt 3), (7, c1 (vO flS 5 s1.2.1)), (8, c1 (vO flV 6 s1.2.2)), (29, c1 (vL q7 s_.attrs)), (30, c1 (vi (s_.attrs.length : Int))), (31, c1 (vi s1.1))]) (fun s1 => [bx [vL q7 s_.attrs, vL qd s_.nested], bx (aV v_), bx zV, bx [vi 0, vi 0, vS eS], none, some (arO true flS.sz 0 (flS.f s1.2.1)), some (arO true flV.sz 0 (flV.f s1.2.2))]) [2, 3, 4, 5, 7, 8, 29, 30, 31] [4] 7 (s0 := (0, [], [])) ⟨(by kernel_rfl), (by kernel_rfl), (by kernel_rfl), (by kernel_rfl), rfl, (q8 _ _ _ _ _), (q8 _ _ _ _ _), trivial⟩ hq (fun s1 x1 hq hn1 he1 => ?_)
 refine ifE hb 5 [32] [] hq (fun hq _ => ?_) (fun hq _ => ?_)
 refine idxE hb q7 6 hq fun x4 hx4 hq => ?_
 refine q6 hb 8 hq (gQ6l hb he x4 v_) fun y5 hy5 hq => ?_
 refine ifE hb 13 [42] [] hq (fun hq _ => ?_) (fun hq _ => ?_)
 refine frzE hb 2 10 7 (ps := [pS x4.name, pI .i64 x4.type_.kind, pL flT x4.type_.elems, pL flS x4.type_.names, pI .i64 x4.mode, pB x4.replace, pB x4.sensitive, pB x4.volatile]) (by kernel_rfl) ?_
 refine qe hb mixed 0 5 [1, 2, 3, 4] ?_
 exact retE hb 9 (he1 _ (injO hq))
 refine frzE hb 2 11 8 (ps := [pI .i64 y5.1.kind, pI .i64 y5.1.num, pS y5.1.str, pL flV y5.1.items, pL flS y5.1.keys]) (by kernel_rfl) ?_
 refine qhp hb mixed 0 [0, 1, 2, 3, 5, 6, 7, 4, 8, 9, 10] 7 [4, 5, 6] ?_
 refine qg flS hb 8 5 true 0 (flS.one x4.name) hq fun l7 hl7 hq => ?_
 refine qg flV hb 0 6 true 0 (flV.one y5.1) hq fun l8 hl8 hq => ?_
 exact q9 hb 8 [2, 3, 4, 5, 7, 8, 29, 30, 31] [] 7 (hn1 _ (injO hq)) ⟨(by kernel_rfl), (by kernel_rfl), (by kernel_rfl), (by kernel_rfl), rfl, (q8 _ _ _ _ _), (q8 _ _ _ _ _), trivial⟩
 refine cpE hb 11 [3, 4, 5, 7, 8, 59, 60, 61] (s' := ⟨none, [pk Tryz.f17 506], [(2, [pk Tryz.f17 127])], sl 106 [(3, pt 1), (4, pt 2), (5, pt 3), (7, c1 (vO flS 5 s1.2.1)), (8, c1 (vO flV 6 s1.2.2)), (59, c1 (vL qd s_.nested)), (60, c1 (vi (s_.nested.length : Int))), (61, c1 (vi 0))], [bx [vL q7 s_.attrs, vL qd s_.nested], bx (aV v_), bx zV, bx [vi 0, vi 0, vS eS], none, some (arO true flS.sz 0 (flS.f s1.2.1)), some (arO true flV.sz 0 (flV.f s1.2.2))]⟩) ?_
 refine qj hb 0 (gQ5m s_ v_) (fun s2 => sl 106 [(3, pt 1), (4, pt 2), (5, pt 3), (7, c1 (vO flS 5 s2.2.1)), (8, c1 (vO flV 6 s2.2.2)), (59, c1 (vL qd s_.nested)), (60, c1 (vi (s_.nested.length : Int))), (61, c1 (vi s2.1))]) (fun s2 => [none, bx (aV v_), bx zV, bx [vi 0, vi 0, vS eS], none, some (arO true flS.sz 0 (flS.f s2.2.1)), some (arO true flV.sz 0 (flV.f s2.2.2))]) [3, 4, 5, 7, 8, 59, 60, 61] [0] 7 (s0 := (0, s1.2.1, s1.2.2)) ⟨rfl, (by kernel_rfl), (by kernel_rfl), (by kernel_rfl), rfl, (q8 _ _ _ _ _), (q8 _ _ _ _ _), trivial⟩ hq (fun s2 x2 hq hn2 he2 => ?_)
 refine ifE hb 5 [62] [] hq (fun hq _ => ?_) (fun hq _ => ?_)
 refine idxE hb qd 6 hq fun x10 hx10 hq => ?_
 refine qe hb mixed 5 10 [8] ?_
 refine q6 hb 4 hq (gQ7f hb he v_ x10.name) fun y11 hy11 hq => ?_
 refine q6 hb 0 hq (gQ7a hb he x10 y11) fun y12 hy12 hq => ?_
 refine ifE hb 14 [75] [] hq (fun hq _ => ?_) (fun hq _ => ?_)
 refine frzE hb 2 14 7 (ps := [pS x10.name, pI .i64 x10.min, pI .i64 x10.max, pL q7 x10.attrs, pB x10.replace]) (by kernel_rfl) ?_
 refine qe hb mixed 0 5 [1, 2, 3, 4] ?_
 exact retE hb 9 (he1 _ ((he2 _ (injO hq)).symm))
 refine frzE hb 2 15 8 (ps := [pI .i64 y12.1.kind, pI .i64 y12.1.num, pS y12.1.str, pL flV y12.1.items, pL flS y12.1.keys]) (by kernel_rfl) ?_
 refine qhp hb mixed 0 [0, 1, 2, 3, 5, 6, 7, 4, 8, 9, 10] 7 [4, 5, 6] ?_
 refine qg flS hb 8 5 true 0 (flS.one x10.name) hq fun l14 hl14 hq => ?_
 refine qg flV hb 0 6 true 0 (flV.one y12.1) hq fun l15 hl15 hq => ?_
 exact q9 hb 8 [3, 4, 5, 7, 8, 59, 60, 61] [] 7 (hn2 _ (injO hq)) ⟨rfl, (by kernel_rfl), (by kernel_rfl), (by kernel_rfl), rfl, (q8 _ _ _ _ _), (q8 _ _ _ _ _), trivial⟩
 refine qq hb 3 5 true (sz := flS.sz) (fr := 0) (cs := flS.f s2.2.1) (by kernel_rfl) (Nat.zero_le _) ?_
 refine qq hb 0 6 true (sz := flV.sz) (fr := 0) (cs := flV.f s2.2.2) (by kernel_rfl) (Nat.zero_le _) ?_
 refine callME hb 3 (vs := [.cell (vO flS 5 s2.2.1), .cell (vO flV 6 s2.2.2)]) hq (qak (qdi (qal flS (b := true) (id := 5) (fr := (flS.f s2.2.1).length) (xs := s2.2.1) (by kernel_rfl))) (qak (qdi (qal flV (b := true) (id := 6) (fr := (flV.f s2.2.2).length) (xs := s2.2.2) (by kernel_rfl))) rfl)) (qjx (qjw (qjy flS (nb := true) (id := 5) (xs := s2.2.1) (by kernel_rfl))) (qjx (qjw (qjy flV (nb := true) (id := 6) (xs := s2.2.2) (by kernel_rfl))) rfl)) (gQ9f hb he s2.2.1 s2.2.2) fun y16 hy16 hq => ?_
 refine q6 hb 11 hq (q8u hb he y16.1) fun y17 hy17 hq => ?_
 refine ifE hb 7 [100] [] hq (fun hq _ => ?_) (fun hq _ => ?_)
 exact retE hb 9 (he1 _ ((he2 _ (injO hq)).symm))
 exact retE hb 9 (he1 _ ((he2 _ (injO hq)).symm))
noncomputable def gQ29 (r_r07_Equal : Val → Val → Option (Bool)) (a_ : Val) (b_ : Val) (s2 : Int) : Option ((Int) ⊕ ((Int) ⊕ (Bool))) :=
 bif (decide (s2 < (a_.items.length : Int))) then (idx a_.items s2).bind fun x11 => (idx b_.items s2).bind fun x12 => (r_r07_Equal x11 x12).bind fun y13 => bif (!y13) then some (.inr (.inr (false))) else some (.inl (IntKind.i64.wrap (s2 + 1))) else some (.inr (.inr (true)))
noncomputable def gQ28 (r_r07_Equal : Val → Val → Option (Bool)) (a_ : Val) (b_ : Val) (s1 : Int) : Option ((Int) ⊕ (Bool)) :=
 bif (decide (s1 < (a_.keys.length : Int))) then (idx a_.keys s1).bind fun x7 => (idx b_.keys s1).bind fun x8 => bif (!decide (x7 = x8)) then some (.inr (false)) else some (.inl (IntKind.i64.wrap (s1 + 1))) else qb (gQ29 r_r07_Equal a_ b_) 0
noncomputable def gQ27 (r_r07_Equal : Val → Val → Option (Bool)) (a_ : Val) (b_ : Val) : Option (Bool) :=
 bif (!decide (a_.kind = b_.kind)) then some (false) else bif (!decide (a_.num = b_.num)) then some (false) else bif (!decide (a_.str = b_.str)) then some (false) else bif (!decide ((a_.items.length : Int) = (b_.items.length : Int))) then some (false) else bif (!decide ((a_.keys.length : Int) = (b_.keys.length : Int))) then some (false) else qb (gQ28 r_r07_Equal a_ b_) 0
theorem gQ2a (hb : Base E E0 G) (he : ∀ w, E w → EnvV w) (r_r07_Equal : Val → Val → Option (Bool)) (hr_r07_Equal : ∀ (a0 : Val) (a1 : Val) (r : Bool), r_r07_Equal a0 a1 = some r → Pure E E0 Tryz.prog 19 [.agg (aV a0), .agg (aV a1)] (c1 (vB r))) (a_ : Val) (b_ : Val) : ∀ r_ : Bool, gQ27 r_r07_Equal a_ b_ = some r_ →
 Pure E E0 Tryz.prog 19 [.agg (aV a_), .agg (aV b_)] (c1 (vB r_)) := by
 refine fnE hb Tryz.func19 rfl fun r_ hq => ?_
 refine ifE hb 15 [11, 12] [] hq (fun hq _ => ?_) (fun hq _ => ?_)
 exact retE hb 37 (injO hq).symm
 refine ifE hb 7 [17, 18, 19] [] hq (fun hq _ => ?_) (fun hq _ => ?_)
 exact retE hb 30 (injO hq).symm
 refine ifE hb 7 [24, 25, 26] [] hq (fun hq _ => ?_) (fun hq _ => ?_)
 exact retE hb 23 (injO hq).symm
 refine ifE hb 9 [33, 34, 35] [] hq (fun hq _ => ?_) (fun hq _ => ?_)
 exact retE hb 14 (injO hq).symm
 refine ifE hb 9 [42, 43] [] hq (fun hq _ => ?_) (fun hq _ => ?_)
 exact retE hb 5 (injO hq).symm
 refine cpE hb 8 [2, 3, 5] (s' := ⟨none, [pk Tryz.f19 58], [(0, [pk Tryz.f19 15])], sl 81 [(2, pt 0), (3, pt 1), (5, c1 (vi 0))], [bx (aV a_), bx (aV b_)]⟩) ?_
 refine qj hb 0 (gQ28 r_r07_Equal a_ b_) (fun s1 => sl 81 [(2, pt 0), (3, pt 1), (5, c1 (vi s1))]) (fun s1 => [bx (aV a_), bx (aV b_)]) [2, 3, 5] [] 2 (s0 := 0) ⟨(by kernel_rfl), (by kernel_rfl), trivial⟩ hq (fun s1 x1 hq hn1 he1 => ?_)
 refine ifE hb 9 [48] [] hq (fun hq _ => ?_) (fun hq _ => ?_)
 refine qe hb mixed 5 10 [] ?_
 refine idxE hb flS 3 hq fun x7 hx7 hq => ?_
 refine idxE hb flS 4 hq fun x8 hx8 hq => ?_
 refine ifE hb 4 [61] [] hq (fun hq _ => ?_) (fun hq _ => ?_)
 exact retE hb 5 (he1 _ (injO hq))
 exact q9 hb 8 [2, 3, 5] [] 2 (hn1 _ (injO hq)) ⟨(by kernel_rfl), (by kernel_rfl), trivial⟩
 refine qj hb 8 (gQ29 r_r07_Equal a_ b_) (fun s2 => sl 81 [(2, pt 0), (3, pt 1), (6, c1 (vi s2))]) (fun s2 => [bx (aV a_), bx (aV b_)]) [2, 3, 6] [] 2 (s0 := 0) ⟨(by kernel_rfl), (by kernel_rfl), trivial⟩ hq (fun s2 x2 hq hn2 he2 => ?_)
 refine ifE hb 9 [66] [] hq (fun hq _ => ?_) (fun hq _ => ?_)
 refine qe hb mixed 5 10 [] ?_
 refine idxE hb flV 3 hq fun x11 hx11 hq => ?_
 refine idxE hb flV 4 hq fun x12 hx12 hq => ?_
 refine q6 hb 2 hq (hr_r07_Equal x11 x12) fun y13 hy13 hq => ?_
 refine ifE hb 2 [80] [] hq (fun hq _ => ?_) (fun hq _ => ?_)
 exact retE hb 5 (he1 _ ((he2 _ (injO hq)).symm))
 exact q9 hb 8 [2, 3, 6] [] 2 (hn2 _ (injO hq)) ⟨(by kernel_rfl), (by kernel_rfl), trivial⟩
 exact retE hb 6 (he1 _ ((he2 _ (injO hq)).symm))
noncomputable def tQa8 (rec : Val → Val → Option (Bool)) (a : Val) (b : Val) : Option (Bool) :=
 gQ27 (fun a0 a1 => rec a0 a1) a b
noncomputable def tQa6 (a0 : Val) (a1 : Val) : Option (Bool) := tieF relV wfV tQa8 a0 a1
theorem tQa7 (hb : Base E E0 G) (he : ∀ w, E w → EnvV w) (a0 : Val) (a1 : Val) (r : Bool) (hq : tQa6 a0 a1 = some r) : Pure E E0 Tryz.prog 19 [.agg (aV a0), .agg (aV a1)] (c1 (vB r)) :=
 q30 (C := fun a b r => Pure E E0 Tryz.prog 19 [.agg (aV a), .agg (aV b)] (c1 (vB r))) (fun rec hr a b r hq => gQ2a hb he (fun a0 a1 => rec a0 a1) (fun a0 a1 r e => hr a0 a1 r e) a b r hq) a0 a1 r hq
noncomputable def gQ9w   : Option (Val) :=
 some (Val.mk 6 0 eS [] [])
theorem gQ9x (hb : Base E E0 G) (he : ∀ w, E w → EnvV w)    : ∀ r_ : Val, gQ9w = some r_ →
 Pure E E0 Tryz.prog 75 [] (.one (.agg (aV r_))) := by
 refine fnE hb Tryz.func75 rfl fun r_ hq => ?_
 exact retE hb 9 (injO hq).symm
noncomputable def gQ83 (s1_ : List ByteArray) (s2_ : List ByteArray) (s1 : Int) : Option ((Int) ⊕ (Bool)) :=
 bif (decide (s1 < (s1_.length : Int))) then (idx s1_ s1).bind fun x3 => (idx s2_ s1).bind fun x4 => bif (!decide (x3 = x4)) then some (.inr (false)) else some (.inl (IntKind.i64.wrap (s1 + 1))) else some (.inr (true))
noncomputable def gQ82  (s1_ : List ByteArray) (s2_ : List ByteArray) : Option (Bool) :=
 bif (!decide ((s1_.length : Int) = (s2_.length : Int))) then some (false) else qb (gQ83 s1_ s2_) 0
theorem gQ84 (hb : Base E E0 G) (he : ∀ w, E w → EnvV w)   (s1_ : List ByteArray) (s2_ : List ByteArray) : ∀ r_ : Bool, gQ82 s1_ s2_ = some r_ →
 Pure E E0 Tryz.prog 66 [.cell (vL flS s1_), .cell (vL flS s2_)] (c1 (vB r_)) := by
 refine fnE hb Tryz.func66 rfl fun r_ hq => ?_
 refine ifE hb 13 [10] [] hq (fun hq _ => ?_) (fun hq _ => ?_)
 exact retE hb 5 (injO hq).symm
 refine qj hb 10 (gQ83 s1_ s2_) (fun s1 => sl 26 [(0, c1 (vL flS s1_)), (1, c1 (vL flS s2_)), (12, c1 (vi (s1_.length : Int))), (13, c1 (vi s1))]) (fun s1 => []) [0, 1, 12, 13] [] 0 (s0 := 0) trivial hq (fun s1 x1 hq hn1 he1 => ?_)
 refine ifE hb 5 [14] [] hq (fun hq _ => ?_) (fun hq _ => ?_)
 refine qe hb mixed 10 8 [] ?_
 refine idxE hb flS 2 hq fun x3 hx3 hq => ?_
 refine idxE hb flS 3 hq fun x4 hx4 hq => ?_
 refine ifE hb 4 [24] [] hq (fun hq _ => ?_) (fun hq _ => ?_)
 exact retE hb 5 (he1 _ (injO hq))
 exact q9 hb 7 [0, 1, 12, 13] [] 0 (hn1 _ (injO hq)) trivial
 exact retE hb 6 (he1 _ (injO hq))
noncomputable def gQ8z (r_value_Equal : Val → Val → Option (Bool)) (s1_ : List Val) (s2_ : List Val) (s1i : Int) : Option ((Int) ⊕ (Bool)) :=
 bif (decide (s1i < (s1_.length : Int))) then (idx s1_ s1i).bind fun x3 => (idx s2_ s1i).bind fun x4 => (r_value_Equal x3 x4).bind fun y5 => bif (!y5) then some (.inr (false)) else some (.inl (IntKind.i64.wrap (s1i + 1))) else some (.inr (true))
noncomputable def gQ8y (r_value_Equal : Val → Val → Option (Bool)) (s1_ : List Val) (s2_ : List Val) : Option (Bool) :=
 bif (!decide ((s1_.length : Int) = (s2_.length : Int))) then some (false) else qb (gQ8z r_value_Equal s1_ s2_) 0
theorem gQ90 (hb : Base E E0 G) (he : ∀ w, E w → EnvV w) (r_value_Equal : Val → Val → Option (Bool)) (hr_value_Equal : ∀ (a0 : Val) (a1 : Val) (r : Bool), r_value_Equal a0 a1 = some r → Pure E E0 Tryz.prog 20 [.agg (aV a0), .agg (aV a1)] (c1 (vB r))) (s1_ : List Val) (s2_ : List Val) : ∀ r_ : Bool, gQ8y r_value_Equal s1_ s2_ = some r_ →
 Pure E E0 Tryz.prog 67 [.cell (vL flV s1_), .cell (vL flV s2_), .cell (.pv (.sc (.func (.func 20) #[] #[])))] (c1 (vB r_)) := by
 refine fnE hb Tryz.func67 rfl fun r_ hq => ?_
 refine ifE hb 13 [14] [] hq (fun hq _ => ?_) (fun hq _ => ?_)
 exact retE hb 5 (injO hq).symm
 refine qj hb 10 (gQ8z r_value_Equal s1_ s2_) (fun s1i => sl 32 [(1, c1 (vL flV s2_)), (2, c1 (.pv (.sc (.func (.func 20) #[] #[])))), (15, c1 (vL flV s1_)), (16, c1 (vi (s1_.length : Int))), (17, c1 (vi s1i))]) (fun s1i => []) [1, 2, 15, 16, 17] [] 0 (s0 := 0) trivial hq (fun s1i x1 hq hn1 he1 => ?_)
 refine ifE hb 5 [18] [] hq (fun hq _ => ?_) (fun hq _ => ?_)
 refine idxE hb flV 7 hq fun x3 hx3 hq => ?_
 refine idxE hb flV 9 hq fun x4 hx4 hq => ?_
 refine q6 hb 9 hq (hr_value_Equal x3 x4) fun y5 hy5 hq => ?_
 refine ifE hb 2 [30] [] hq (fun hq _ => ?_) (fun hq _ => ?_)
 exact retE hb 5 (he1 _ (injO hq))
 exact q9 hb 7 [1, 2, 15, 16, 17] [] 0 (hn1 _ (injO hq)) trivial
 exact retE hb 6 (he1 _ (injO hq))
noncomputable def gQ8w (r_value_Equal : Val → Val → Option (Bool)) (a_ : Val) (b_ : Val) : Option (Bool) :=
 bif (decide (a_.kind = b_.kind)) then bif (decide (a_.num = b_.num)) then bif (decide (a_.str = b_.str)) then (gQ82 a_.keys b_.keys).bind fun y4 => bif y4 then (gQ8y r_value_Equal a_.items b_.items).bind fun y6 => some (y6) else some (false) else some (false) else some (false) else some (false)
theorem gQ8x (hb : Base E E0 G) (he : ∀ w, E w → EnvV w) (r_value_Equal : Val → Val → Option (Bool)) (hr_value_Equal : ∀ (a0 : Val) (a1 : Val) (r : Bool), r_value_Equal a0 a1 = some r → Pure E E0 Tryz.prog 20 [.agg (aV a0), .agg (aV a1)] (c1 (vB r))) (a_ : Val) (b_ : Val) : ∀ r_ : Bool, gQ8w r_value_Equal a_ b_ = some r_ →
 Pure E E0 Tryz.prog 20 [.agg (aV a_), .agg (aV b_)] (c1 (vB r_)) := by
 refine fnE hb Tryz.func20 rfl fun r_ hq => ?_
 refine ifE hb 14 [9, 10] [] hq (fun hq _ => ?_) (fun hq _ => ?_)
 refine ifE hb 7 [15, 16, 17] [] hq (fun hq _ => ?_) (fun hq _ => ?_)
 refine ifE hb 7 [22, 23, 24] [] hq (fun hq _ => ?_) (fun hq _ => ?_)
 refine q6 hb 4 hq (gQ84 hb he a_.keys b_.keys) fun y4 hy4 hq => ?_
 refine ifE hb 2 [29, 30, 31] [] hq (fun hq _ => ?_) (fun hq _ => ?_)
 refine q6 hb 4 hq (gQ90 hb he r_value_Equal hr_value_Equal a_.items b_.items) fun y6 hy6 hq => ?_
 exact retE hb 3 (injO hq).symm
 exact retE hb 8 (injO hq).symm
 exact retE hb 15 (injO hq).symm
 exact retE hb 22 (injO hq).symm
 exact retE hb 29 (injO hq).symm
noncomputable def tQaz (rec : Val → Val → Option (Bool)) (a : Val) (b : Val) : Option (Bool) :=
 gQ8w (fun a0 a1 => rec a0 a1) a b
noncomputable def tQax (a0 : Val) (a1 : Val) : Option (Bool) := tieF relV wfV tQaz a0 a1
theorem tQay (hb : Base E E0 G) (he : ∀ w, E w → EnvV w) (a0 : Val) (a1 : Val) (r : Bool) (hq : tQax a0 a1 = some r) : Pure E E0 Tryz.prog 20 [.agg (aV a0), .agg (aV a1)] (c1 (vB r)) :=
 q30 (C := fun a b r => Pure E E0 Tryz.prog 20 [.agg (aV a), .agg (aV b)] (c1 (vB r))) (fun rec hr a b r hq => gQ8x hb he (fun a0 a1 => rec a0 a1) (fun a0 a1 r e => hr a0 a1 r e) a b r hq) a0 a1 r hq
noncomputable def gQ94 (r_value_Known : Val → Option (Bool)) (x_ : Val) : Option (Bool) :=
 (r_value_Known x_).bind fun y1 => some (!y1)
theorem gQ95 (hb : Base E E0 G) (he : ∀ w, E w → EnvV w) (r_value_Known : Val → Option (Bool)) (hr_value_Known : ∀ (a0 : Val) (r : Bool), r_value_Known a0 = some r → Pure E E0 Tryz.prog 33 [.agg (aV a0)] (c1 (vB r))) (x_ : Val) : ∀ r_ : Bool, gQ94 r_value_Known x_ = some r_ →
 Pure E E0 Tryz.prog 83 [.agg (aV x_)] (c1 (vB r_)) := by
 refine fnE hb Tryz.func83 rfl fun r_ hq => ?_
 refine q6 hb 8 hq (hr_value_Known x_) fun y1 hy1 hq => ?_
 exact retE hb 3 (injO hq).symm
noncomputable def gQ9a (r_value_Known_1 : Val → Option (Bool)) (s_ : List Val) (s1ii : Int) : Option ((Int) ⊕ (Int)) :=
 bif (decide (s1ii < (s_.length : Int))) then (idx s_ s1ii).bind fun x2 => (r_value_Known_1 x2).bind fun y3 => bif y3 then some (.inr (s1ii)) else some (.inl (IntKind.i64.wrap (s1ii + 1))) else some (.inr (-1))
noncomputable def gQ99 (r_value_Known_1 : Val → Option (Bool)) (s_ : List Val) : Option (Int) :=
 qb (gQ9a r_value_Known_1 s_) 0
theorem gQ9b (hb : Base E E0 G) (he : ∀ w, E w → EnvV w) (r_value_Known_1 : Val → Option (Bool)) (hr_value_Known_1 : ∀ (a0 : Val) (r : Bool), r_value_Known_1 a0 = some r → Pure E E0 Tryz.prog 83 [.agg (aV a0)] (c1 (vB r))) (s_ : List Val) : ∀ r_ : Int, gQ99 r_value_Known_1 s_ = some r_ →
 Pure E E0 Tryz.prog 125 [.cell (vL flV s_), .cell (.pv (.sc (.func (.func 83) #[] #[])))] (c1 (vi r_)) := by
 refine fnE hb Tryz.func125 rfl fun r_ hq => ?_
 refine qj hb 12 (gQ9a r_value_Known_1 s_) (fun s1ii => sl 19 [(0, c1 (vL flV s_)), (1, c1 (.pv (.sc (.func (.func 83) #[] #[])))), (7, c1 (vi (s_.length : Int))), (8, c1 (vi s1ii))]) (fun s1ii => []) [0, 1, 7, 8] [] 0 (s0 := 0) trivial hq (fun s1ii x1 hq hn1 he1 => ?_)
 refine ifE hb 5 [9] [] hq (fun hq _ => ?_) (fun hq _ => ?_)
 refine idxE hb flV 14 hq fun x2 hx2 hq => ?_
 refine q6 hb 1 hq (hr_value_Known_1 x2) fun y3 hy3 hq => ?_
 refine ifE hb 1 [16] [] hq (fun hq _ => ?_) (fun hq _ => ?_)
 exact retE hb 6 (he1 _ (injO hq))
 exact q9 hb 7 [0, 1, 7, 8] [] 0 (hn1 _ (injO hq)) trivial
 exact retE hb 6 (he1 _ (injO hq))
noncomputable def gQ97 (r_value_Known_1 : Val → Option (Bool)) (s_ : List Val) : Option (Bool) :=
 (gQ99 r_value_Known_1 s_).bind fun y1 => some (decide (y1 ≥ 0))
theorem gQ98 (hb : Base E E0 G) (he : ∀ w, E w → EnvV w) (r_value_Known_1 : Val → Option (Bool)) (hr_value_Known_1 : ∀ (a0 : Val) (r : Bool), r_value_Known_1 a0 = some r → Pure E E0 Tryz.prog 83 [.agg (aV a0)] (c1 (vB r))) (s_ : List Val) : ∀ r_ : Bool, gQ97 r_value_Known_1 s_ = some r_ →
 Pure E E0 Tryz.prog 82 [.cell (vL flV s_), .cell (.pv (.sc (.func (.func 83) #[] #[])))] (c1 (vB r_)) := by
 refine fnE hb Tryz.func82 rfl fun r_ hq => ?_
 refine q6 hb 8 hq (gQ9b hb he r_value_Known_1 hr_value_Known_1 s_) fun y1 hy1 hq => ?_
 exact retE hb 3 (injO hq).symm
noncomputable def gQ93 (r_value_Known_1 : Val → Option (Bool)) (v_ : Val) : Option (Bool) :=
 bif (!decide (v_.kind = 6)) then (gQ97 r_value_Known_1 v_.items).bind fun y2 => some (!y2) else some (false)
theorem gQ96 (hb : Base E E0 G) (he : ∀ w, E w → EnvV w) (r_value_Known_1 : Val → Option (Bool)) (hr_value_Known_1 : ∀ (a0 : Val) (r : Bool), r_value_Known_1 a0 = some r → Pure E E0 Tryz.prog 83 [.agg (aV a0)] (c1 (vB r))) (v_ : Val) : ∀ r_ : Bool, gQ93 r_value_Known_1 v_ = some r_ →
 Pure E E0 Tryz.prog 33 [.agg (aV v_)] (c1 (vB r_)) := by
 refine fnE hb Tryz.func33 rfl fun r_ hq => ?_
 refine ifE hb 11 [5, 6] [] hq (fun hq _ => ?_) (fun hq _ => ?_)
 refine q6 hb 2 hq (gQ98 hb he r_value_Known_1 hr_value_Known_1 v_.items) fun y2 hy2 hq => ?_
 exact retE hb 4 (injO hq).symm
 exact retE hb 7 (injO hq).symm
noncomputable def tQb2 (rec : Val → Unit → Option (Bool)) (a : Val) (b : Unit) : Option (Bool) :=
 gQ93 (gQ94 (fun a0 => rec a0 ())) a
noncomputable def tQb0 (a0 : Val) : Option (Bool) := tieF relV wfV tQb2 a0 ()
theorem tQb1 (hb : Base E E0 G) (he : ∀ w, E w → EnvV w) (a0 : Val) (r : Bool) (hq : tQb0 a0 = some r) : Pure E E0 Tryz.prog 33 [.agg (aV a0)] (c1 (vB r)) :=
 q30 (C := fun a b r => Pure E E0 Tryz.prog 33 [.agg (aV a)] (c1 (vB r))) (fun rec hr a b r hq => gQ96 hb he (gQ94 (fun a0 => rec a0 ())) (gQ95 hb he (fun a0 => rec a0 ()) (fun a0 r e => hr a0 () r e)) a r hq) a0 () r hq
noncomputable def gQ6m  (a_ : Val) (b_ : Val) : Option (Bool) :=
 (tQax a_ b_).bind fun y1 => bif (!y1) then some (true) else (tQb0 a_).bind fun y3 => bif (!y3) then some (true) else (tQb0 b_).bind fun y5 => some (!y5)
theorem gQ6n (hb : Base E E0 G) (he : ∀ w, E w → EnvV w)   (a_ : Val) (b_ : Val) : ∀ r_ : Bool, gQ6m a_ b_ = some r_ →
 Pure E E0 Tryz.prog 76 [.agg (aV a_), .agg (aV b_)] (c1 (vB r_)) := by
 refine fnE hb Tryz.func76 rfl fun r_ hq => ?_
 refine q6 hb 10 hq (tQay hb he a_ b_) fun y1 hy1 hq => ?_
 refine ifE hb 2 [8, 9] [] hq (fun hq _ => ?_) (fun hq _ => ?_)
 exact retE hb 11 (injO hq).symm
 refine q6 hb 1 hq (tQb1 hb he a_) fun y3 hy3 hq => ?_
 refine ifE hb 3 [12, 13, 14] [] hq (fun hq _ => ?_) (fun hq _ => ?_)
 exact retE hb 6 (injO hq).symm
 refine q6 hb 1 hq (tQb1 hb he b_) fun y5 hy5 hq => ?_
 exact retE hb 4 (injO hq).symm
noncomputable def gQ64 (s1 : Int × Bool × List Val × List ByteArray × List Int) (s2 : Bool × Int × List Val) : Option ((Bool × Int × List Val) ⊕ ((Int × Bool × List Val × List ByteArray × List Int) ⊕ (Val))) :=
 bif (decide (s2.2.1 < (s1.2.2.2.2.length : Int))) then (idx s1.2.2.2.2 s2.2.1).bind fun x50 => bif s2.1 then (gQ9w).bind fun y52 => (idx s2.2.2 x50).bind fun x53 => some (.inl (true, (IntKind.i64.wrap (s2.2.1 + 1)), (upd s2.2.2 x50 y52))) else some (.inl (false, (IntKind.i64.wrap (s2.2.1 + 1)), s2.2.2)) else some (.inr (.inr (Val.mk 5 0 eS s2.2.2 s1.2.2.2.1)))
noncomputable def gQ63 (s_ : SchemaG) (prior_ : Val) (config_ : Val) (y1 : List ByteArray) (s1 : Int × Bool × List Val × List ByteArray × List Int) : Option ((Int × Bool × List Val × List ByteArray × List Int) ⊕ (Val)) :=
 bif (decide (s1.1 < (y1.length : Int))) then (idx y1 s1.1).bind fun x3 => (gQ7e prior_ x3).bind fun y4 => (gQ7e config_ x3).bind fun y5 => (gQ5o s_ x3).bind fun y6 => bif y6.2 then bif (decide (y6.1.mode = 3)) then bif (decide (prior_.kind = 0)) then (gQ9w).bind fun y10 => (app 16 s1.2.2.2.1 [x3]).bind fun l11 => (app 80 s1.2.2.1 [y10]).bind fun l12 => some (.inl ((IntKind.i64.wrap (s1.1 + 1)), s1.2.1, l12, l11, s1.2.2.2.2)) else bif y6.1.volatile then (app 8 s1.2.2.2.2 [s1.1]).bind fun l14 => (app 16 s1.2.2.2.1 [x3]).bind fun l15 => (app 80 s1.2.2.1 [y4]).bind fun l16 => some (.inl ((IntKind.i64.wrap (s1.1 + 1)), s1.2.1, l16, l15, l14)) else (app 16 s1.2.2.2.1 [x3]).bind fun l17 => (app 80 s1.2.2.1 [y4]).bind fun l18 => some (.inl ((IntKind.i64.wrap (s1.1 + 1)), s1.2.1, l18, l17, s1.2.2.2.2)) else bif (decide (y6.1.mode = 4)) then bif (decide (y5.kind = 0)) then bif (decide (prior_.kind = 0)) then (gQ9w).bind fun y22 => (app 16 s1.2.2.2.1 [x3]).bind fun l23 => (app 80 s1.2.2.1 [y22]).bind fun l24 => some (.inl ((IntKind.i64.wrap (s1.1 + 1)), s1.2.1, l24, l23, s1.2.2.2.2)) else bif y6.1.volatile then (app 8 s1.2.2.2.2 [s1.1]).bind fun l26 => (app 16 s1.2.2.2.1 [x3]).bind fun l27 => (app 80 s1.2.2.1 [y4]).bind fun l28 => some (.inl ((IntKind.i64.wrap (s1.1 + 1)), s1.2.1, l28, l27, l26)) else (app 16 s1.2.2.2.1 [x3]).bind fun l29 => (app 80 s1.2.2.1 [y4]).bind fun l30 => some (.inl ((IntKind.i64.wrap (s1.1 + 1)), s1.2.1, l30, l29, s1.2.2.2.2)) else bif s1.2.1 then (app 16 s1.2.2.2.1 [x3]).bind fun l32 => (app 80 s1.2.2.1 [y5]).bind fun l33 => some (.inl ((IntKind.i64.wrap (s1.1 + 1)), true, l33, l32, s1.2.2.2.2)) else (gQ6m y5 y4).bind fun y34 => (app 16 s1.2.2.2.1 [x3]).bind fun l35 => (app 80 s1.2.2.1 [y5]).bind fun l36 => some (.inl ((IntKind.i64.wrap (s1.1 + 1)), y34, l36, l35, s1.2.2.2.2)) else bif s1.2.1 then (app 16 s1.2.2.2.1 [x3]).bind fun l38 => (app 80 s1.2.2.1 [y5]).bind fun l39 => some (.inl ((IntKind.i64.wrap (s1.1 + 1)), true, l39, l38, s1.2.2.2.2)) else (gQ6m y5 y4).bind fun y40 => (app 16 s1.2.2.2.1 [x3]).bind fun l41 => (app 80 s1.2.2.1 [y5]).bind fun l42 => some (.inl ((IntKind.i64.wrap (s1.1 + 1)), y40, l42, l41, s1.2.2.2.2)) else bif s1.2.1 then (app 16 s1.2.2.2.1 [x3]).bind fun l44 => (app 80 s1.2.2.1 [y5]).bind fun l45 => some (.inl ((IntKind.i64.wrap (s1.1 + 1)), true, l45, l44, s1.2.2.2.2)) else (gQ6m y5 y4).bind fun y46 => (app 16 s1.2.2.2.1 [x3]).bind fun l47 => (app 80 s1.2.2.1 [y5]).bind fun l48 => some (.inl ((IntKind.i64.wrap (s1.1 + 1)), y46, l48, l47, s1.2.2.2.2)) else qb (gQ64 s1) (s1.2.1, 0, s1.2.2.1)
noncomputable def gQ62  (s_ : SchemaG) (prior_ : Val) (config_ : Val) : Option (Val) :=
 (gQ7m s_).bind fun y1 => qb (gQ63 s_ prior_ config_ y1) (0, false, [], [], [])
theorem gQ65 (hb : Base E E0 G) (he : ∀ w, E w → EnvV w)   (s_ : SchemaG) (prior_ : Val) (config_ : Val) : ∀ r_ : Val, gQ62 s_ prior_ config_ = some r_ →
 Pure E E0 Tryz.prog 25 [.agg [vL q7 s_.attrs, vL qd s_.nested], .agg (aV prior_), .agg (aV config_)] (.one (.agg (aV r_))) := by
 refine fnE hb Tryz.func25 rfl fun r_ hq => ?_
 refine q6 hb 25 hq (gQ7n hb he s_) fun y1 hy1 hq => ?_
 refine q17 hb 4 4 3 5 (cs := [vi 5, vi 0, vS eS, vN, vN]) (by kernel_rfl) ?_
 refine q17 hb 0 4 4 1 (cs := [vi 5, vi 0, vS eS, vO flV 5 [], vN]) (by kernel_rfl) ?_
 refine q4s hb 0 9 1 ?_
 refine qj hb 0 (gQ63 s_ prior_ config_ y1) (fun s1 => sl 106 [(3, pt 0), (4, pt 1), (5, pt 2), (6, pt 3), (7, pt 4), (8, c1 (vB s1.2.1)), (9, c1 (vO (flI .i64) 7 s1.2.2.2.2)), (21, c1 (vL flS y1)), (22, c1 (vi (y1.length : Int))), (23, c1 (vi s1.1))]) (fun s1 => [bx [vL q7 s_.attrs, vL qd s_.nested], bx (aV prior_), bx (aV config_), bx zV, bx [vi 5, vi 0, vS eS, vO flV 5 s1.2.2.1, vO flS 6 s1.2.2.2.1], some (arO true flV.sz 0 (flV.f s1.2.2.1)), some (arO true flS.sz 0 (flS.f s1.2.2.2.1)), some (arO true (flI .i64).sz 0 ((flI .i64).f s1.2.2.2.2))]) [3, 4, 5, 6, 7, 8, 9, 21, 22, 23] [] 8 (s0 := (0, false, [], [], [])) ⟨(by kernel_rfl), (by kernel_rfl), (by kernel_rfl), (by kernel_rfl), (by kernel_rfl), (q8 _ _ _ _ _), (q8 _ _ _ _ _), (q8 _ _ _ _ _), trivial⟩ hq (fun s1 x1 hq hn1 he1 => ?_)
 refine ifE hb 5 [24] [] hq (fun hq _ => ?_) (fun hq _ => ?_)
 refine idxE hb flS 7 hq fun x3 hx3 hq => ?_
 refine qe hb mixed 5 8 [] ?_
 refine q6 hb 2 hq (gQ7f hb he prior_ x3) fun y4 hy4 hq => ?_
 refine q6 hb 2 hq (gQ7f hb he config_ x3) fun y5 hy5 hq => ?_
 refine q6 hb 10 hq (gQ5q hb he s_ x3) fun y6 hy6 hq => ?_
 refine ifE hb 11 [15, 39, 40, 41] [] hq (fun hq _ => ?_) (fun hq _ => ?_)
 refine ifE hb 4 [44, 45] [] hq (fun hq _ => ?_) (fun hq _ => ?_)
 refine ifE hb 24 [62, 67, 68] [] hq (fun hq _ => ?_) (fun hq _ => ?_)
 refine q6 hb 2 hq (gQ9x hb he ) fun y10 hy10 hq => ?_
 refine qg flS hb 9 6 true 0 (flS.one x3) hq fun l11 hl11 hq => ?_
 refine qg flV hb 8 5 true 0 (flV.one y10) hq fun l12 hl12 hq => ?_
 exact q9 hb 8 [3, 4, 5, 6, 7, 8, 9, 21, 22, 23] [] 8 (hn1 _ (injO hq)) ⟨(by kernel_rfl), (by kernel_rfl), (by kernel_rfl), (by kernel_rfl), (by kernel_rfl), (q8 _ _ _ _ _), (q8 _ _ _ _ _), (q8 _ _ _ _ _), trivial⟩
 refine ifE hb 17 [74] [] hq (fun hq _ => ?_) (fun hq _ => ?_)
 refine qg (flI .i64) hb 5 7 true 0 ((flI .i64).one s1.1) hq fun l14 hl14 hq => ?_
 refine qg flS hb 9 6 true 0 (flS.one x3) hq fun l15 hl15 hq => ?_
 refine qg flV hb 8 5 true 0 (flV.one y4) hq fun l16 hl16 hq => ?_
 exact q9 hb 8 [3, 4, 5, 6, 7, 8, 9, 21, 22, 23] [] 8 (hn1 _ (injO hq)) ⟨(by kernel_rfl), (by kernel_rfl), (by kernel_rfl), (by kernel_rfl), (by kernel_rfl), (q8 _ _ _ _ _), (q8 _ _ _ _ _), (q8 _ _ _ _ _), trivial⟩
 refine qg flS hb 9 6 true 0 (flS.one x3) hq fun l17 hl17 hq => ?_
 refine qg flV hb 8 5 true 0 (flV.one y4) hq fun l18 hl18 hq => ?_
 exact q9 hb 8 [3, 4, 5, 6, 7, 8, 9, 21, 22, 23] [] 8 (hn1 _ (injO hq)) ⟨(by kernel_rfl), (by kernel_rfl), (by kernel_rfl), (by kernel_rfl), (by kernel_rfl), (q8 _ _ _ _ _), (q8 _ _ _ _ _), (q8 _ _ _ _ _), trivial⟩
 refine ifE hb 4 [48, 49] [] hq (fun hq _ => ?_) (fun hq _ => ?_)
 refine ifE hb 14 [16, 52, 53, 54, 55, 63, 64] [] hq (fun hq _ => ?_) (fun hq _ => ?_)
 refine ifE hb 6 [62, 67, 68] [] hq (fun hq _ => ?_) (fun hq _ => ?_)
 refine q6 hb 2 hq (gQ9x hb he ) fun y22 hy22 hq => ?_
 refine qg flS hb 9 6 true 0 (flS.one x3) hq fun l23 hl23 hq => ?_
 refine qg flV hb 8 5 true 0 (flV.one y22) hq fun l24 hl24 hq => ?_
 exact q9 hb 8 [3, 4, 5, 6, 7, 8, 9, 21, 22, 23] [] 8 (hn1 _ (injO hq)) ⟨(by kernel_rfl), (by kernel_rfl), (by kernel_rfl), (by kernel_rfl), (by kernel_rfl), (q8 _ _ _ _ _), (q8 _ _ _ _ _), (q8 _ _ _ _ _), trivial⟩
 refine ifE hb 17 [74] [] hq (fun hq _ => ?_) (fun hq _ => ?_)
 refine qg (flI .i64) hb 5 7 true 0 ((flI .i64).one s1.1) hq fun l26 hl26 hq => ?_
 refine qg flS hb 9 6 true 0 (flS.one x3) hq fun l27 hl27 hq => ?_
 refine qg flV hb 8 5 true 0 (flV.one y4) hq fun l28 hl28 hq => ?_
 exact q9 hb 8 [3, 4, 5, 6, 7, 8, 9, 21, 22, 23] [] 8 (hn1 _ (injO hq)) ⟨(by kernel_rfl), (by kernel_rfl), (by kernel_rfl), (by kernel_rfl), (by kernel_rfl), (q8 _ _ _ _ _), (q8 _ _ _ _ _), (q8 _ _ _ _ _), trivial⟩
 refine qg flS hb 9 6 true 0 (flS.one x3) hq fun l29 hl29 hq => ?_
 refine qg flV hb 8 5 true 0 (flV.one y4) hq fun l30 hl30 hq => ?_
 exact q9 hb 8 [3, 4, 5, 6, 7, 8, 9, 21, 22, 23] [] 8 (hn1 _ (injO hq)) ⟨(by kernel_rfl), (by kernel_rfl), (by kernel_rfl), (by kernel_rfl), (by kernel_rfl), (q8 _ _ _ _ _), (q8 _ _ _ _ _), (q8 _ _ _ _ _), trivial⟩
 refine ifE hb 16 [8, 56, 57] [] hq (fun hq _ => ?_) (fun hq _ => ?_)
 refine qg flS hb 13 6 true 0 (flS.one x3) hq fun l32 hl32 hq => ?_
 refine qg flV hb 8 5 true 0 (flV.one y5) hq fun l33 hl33 hq => ?_
 exact q9 hb 8 [3, 4, 5, 6, 7, 8, 9, 21, 22, 23] [] 8 (hn1 _ (injO hq)) ⟨(by kernel_rfl), (by kernel_rfl), (by kernel_rfl), (by kernel_rfl), (by kernel_rfl), (q8 _ _ _ _ _), (q8 _ _ _ _ _), (q8 _ _ _ _ _), trivial⟩
 refine q6 hb 2 hq (gQ6n hb he y5 y4) fun y34 hy34 hq => ?_
 refine qg flS hb 10 6 true 0 (flS.one x3) hq fun l35 hl35 hq => ?_
 refine qg flV hb 8 5 true 0 (flV.one y5) hq fun l36 hl36 hq => ?_
 exact q9 hb 8 [3, 4, 5, 6, 7, 8, 9, 21, 22, 23] [] 8 (hn1 _ (injO hq)) ⟨(by kernel_rfl), (by kernel_rfl), (by kernel_rfl), (by kernel_rfl), (by kernel_rfl), (q8 _ _ _ _ _), (q8 _ _ _ _ _), (q8 _ _ _ _ _), trivial⟩
 refine ifE hb 30 [8, 56, 57] [] hq (fun hq _ => ?_) (fun hq _ => ?_)
 refine qg flS hb 13 6 true 0 (flS.one x3) hq fun l38 hl38 hq => ?_
 refine qg flV hb 8 5 true 0 (flV.one y5) hq fun l39 hl39 hq => ?_
 exact q9 hb 8 [3, 4, 5, 6, 7, 8, 9, 21, 22, 23] [] 8 (hn1 _ (injO hq)) ⟨(by kernel_rfl), (by kernel_rfl), (by kernel_rfl), (by kernel_rfl), (by kernel_rfl), (q8 _ _ _ _ _), (q8 _ _ _ _ _), (q8 _ _ _ _ _), trivial⟩
 refine q6 hb 2 hq (gQ6n hb he y5 y4) fun y40 hy40 hq => ?_
 refine qg flS hb 10 6 true 0 (flS.one x3) hq fun l41 hl41 hq => ?_
 refine qg flV hb 8 5 true 0 (flV.one y5) hq fun l42 hl42 hq => ?_
 exact q9 hb 8 [3, 4, 5, 6, 7, 8, 9, 21, 22, 23] [] 8 (hn1 _ (injO hq)) ⟨(by kernel_rfl), (by kernel_rfl), (by kernel_rfl), (by kernel_rfl), (by kernel_rfl), (q8 _ _ _ _ _), (q8 _ _ _ _ _), (q8 _ _ _ _ _), trivial⟩
 refine ifE hb 38 [8, 56, 57] [] hq (fun hq _ => ?_) (fun hq _ => ?_)
 refine qg flS hb 13 6 true 0 (flS.one x3) hq fun l44 hl44 hq => ?_
 refine qg flV hb 8 5 true 0 (flV.one y5) hq fun l45 hl45 hq => ?_
 exact q9 hb 8 [3, 4, 5, 6, 7, 8, 9, 21, 22, 23] [] 8 (hn1 _ (injO hq)) ⟨(by kernel_rfl), (by kernel_rfl), (by kernel_rfl), (by kernel_rfl), (by kernel_rfl), (q8 _ _ _ _ _), (q8 _ _ _ _ _), (q8 _ _ _ _ _), trivial⟩
 refine q6 hb 2 hq (gQ6n hb he y5 y4) fun y46 hy46 hq => ?_
 refine qg flS hb 10 6 true 0 (flS.one x3) hq fun l47 hl47 hq => ?_
 refine qg flV hb 8 5 true 0 (flV.one y5) hq fun l48 hl48 hq => ?_
 exact q9 hb 8 [3, 4, 5, 6, 7, 8, 9, 21, 22, 23] [] 8 (hn1 _ (injO hq)) ⟨(by kernel_rfl), (by kernel_rfl), (by kernel_rfl), (by kernel_rfl), (by kernel_rfl), (q8 _ _ _ _ _), (q8 _ _ _ _ _), (q8 _ _ _ _ _), trivial⟩
 refine q5z (flI .i64) hb 6 7 true 0 s1.2.2.2.2 ?_
 refine cpE hb 3 [6, 7, 8, 92, 93, 94] (s' := ⟨none, [pk Tryz.f25 506], [(3, [pk Tryz.f25 127])], sl 106 [(6, pt 3), (7, pt 4), (8, c1 (vB s1.2.1)), (92, c1 (vO (flI .i64) 7 s1.2.2.2.2)), (93, c1 (vi (s1.2.2.2.2.length : Int))), (94, c1 (vi 0))], [bx [vL q7 s_.attrs, vL qd s_.nested], bx (aV prior_), bx (aV config_), bx zV, bx [vi 5, vi 0, vS eS, vO flV 5 s1.2.2.1, vO flS 6 s1.2.2.2.1], some (arO true flV.sz 0 (flV.f s1.2.2.1)), some (arO true flS.sz 0 (flS.f s1.2.2.2.1)), some (arO true (flI .i64).sz 0 ((flI .i64).f s1.2.2.2.2))]⟩) ?_
 refine qj hb 0 (gQ64 s1) (fun s2 => sl 106 [(6, pt 3), (7, pt 4), (8, c1 (vB s2.1)), (92, c1 (vO (flI .i64) 7 s1.2.2.2.2)), (93, c1 (vi (s1.2.2.2.2.length : Int))), (94, c1 (vi s2.2.1))]) (fun s2 => [none, none, none, bx zV, bx [vi 5, vi 0, vS eS, vO flV 5 s2.2.2, vO flS 6 s1.2.2.2.1], some (arO true flV.sz 0 (flV.f s2.2.2)), some (arO true flS.sz 0 (flS.f s1.2.2.2.1)), some (arO true (flI .i64).sz 0 ((flI .i64).f s1.2.2.2.2))]) [6, 7, 8, 92, 93, 94] [0, 1, 2] 8 (s0 := (s1.2.1, 0, s1.2.2.1)) ⟨rfl, rfl, rfl, (by kernel_rfl), (by kernel_rfl), (q8 _ _ _ _ _), (q8 _ _ _ _ _), (q8 _ _ _ _ _), trivial⟩ hq (fun s2 x2 hq hn2 he2 => ?_)
 refine ifE hb 5 [95] [] hq (fun hq _ => ?_) (fun hq _ => ?_)
 refine q46 (flI .i64) hb 6 7 true 0 hq fun x50 hx50 hq => ?_
 refine qdz (flI .i64) hb 0 7 true 0 hx50 rfl ?_
 refine ifE hb 6 [8, 98] [] hq (fun hq _ => ?_) (fun hq _ => ?_)
 refine qe hb mixed 1 4 [] ?_
 refine q6 hb 3 hq (gQ9x hb he ) fun y52 hy52 hq => ?_
 refine q46 flV hb 1 5 true 0 hq fun x53 hx53 hq => ?_
 refine qfk flV hb 0 5 true hx53 y52 ?_
 refine qn hb 2 4 3 (cs := [vi 5, vi 0, vS eS, vO flV 5 s2.2.2, vO flS 6 s1.2.2.2.1]) (c := vO flV 5 s2.2.2) (q55 (q5j flV (q4c s2.2.2 x50 y52))) (by kernel_rfl) ?_
 exact q9 hb 4 [6, 7, 8, 92, 93, 94] [] 8 (hn2 _ (injO hq)) ⟨rfl, rfl, rfl, (by kernel_rfl), (by kernel_rfl), (q8 _ _ _ _ _), (q8 _ _ _ _ _), (q8 _ _ _ _ _), trivial⟩
 exact q9 hb 7 [6, 7, 8, 92, 93, 94] [] 8 (hn2 _ (injO hq)) ⟨rfl, rfl, rfl, (by kernel_rfl), (by kernel_rfl), (q8 _ _ _ _ _), (q8 _ _ _ _ _), (q8 _ _ _ _ _), trivial⟩
 refine qq hb 7 5 true (sz := flV.sz) (fr := 0) (cs := flV.f s2.2.2) (by kernel_rfl) (Nat.zero_le _) ?_
 refine qn hb 0 3 3 (cs := [vi 5, vi 0, vS eS, vO flV 5 s2.2.2, vO flS 6 s1.2.2.2.1]) (c := vO flV 5 s2.2.2) (qr flV (nb := true) (id := 5) (xs := s2.2.2) (by kernel_rfl)) (by kernel_rfl) ?_
 refine qq hb 0 6 true (sz := flS.sz) (fr := 0) (cs := flS.f s1.2.2.2.1) (by kernel_rfl) (Nat.zero_le _) ?_
 refine qn hb 0 3 4 (cs := [vi 5, vi 0, vS eS, vL flV s2.2.2, vO flS 6 s1.2.2.2.1]) (c := vO flS 6 s1.2.2.2.1) (qr flS (nb := true) (id := 6) (xs := s1.2.2.2.1) (by kernel_rfl)) (by kernel_rfl) ?_
 exact retE hb 0 (he1 _ ((he2 _ (injO hq)).symm))
noncomputable def gQ5f (before_ : Val) (after_ : Val) (y1 : List ByteArray) (s1 : Int × List ByteArray) : Option ((Int × List ByteArray) ⊕ (List ByteArray)) :=
 bif (decide (s1.1 < (y1.length : Int))) then (idx y1 s1.1).bind fun x3 => (gQ7e before_ x3).bind fun y4 => (gQ7e after_ x3).bind fun y5 => (gQ6m y4 y5).bind fun y6 => bif y6 then (app 16 s1.2 [x3]).bind fun l8 => some (.inl ((IntKind.i64.wrap (s1.1 + 1)), l8)) else some (.inl ((IntKind.i64.wrap (s1.1 + 1)), s1.2)) else some (.inr (s1.2))
noncomputable def gQ5e  (s_ : SchemaG) (before_ : Val) (after_ : Val) : Option (List ByteArray) :=
 (gQ7m s_).bind fun y1 => qb (gQ5f before_ after_ y1) (0, [])
theorem gQ5g (hb : Base E E0 G) (he : ∀ w, E w → EnvV w)   (s_ : SchemaG) (before_ : Val) (after_ : Val) : ∀ r_ : List ByteArray, gQ5e s_ before_ after_ = some r_ →
 Pure E E0 Tryz.prog 28 [.agg [vL q7 s_.attrs, vL qd s_.nested], .agg (aV before_), .agg (aV after_)] (c1 (vL flS r_)) := by
 refine fnE hb Tryz.func28 rfl fun r_ hq => ?_
 refine q6 hb 15 hq (gQ7n hb he s_) fun y1 hy1 hq => ?_
 refine q4s hb 4 7 1 ?_
 refine qj hb 0 (gQ5f before_ after_ y1) (fun s1 => sl 30 [(4, pt 1), (5, pt 2), (7, c1 (vO flS 3 s1.2)), (11, c1 (vL flS y1)), (12, c1 (vi (y1.length : Int))), (13, c1 (vi s1.1))]) (fun s1 => [none, bx (aV before_), bx (aV after_), some (arO true flS.sz 0 (flS.f s1.2))]) [4, 5, 7, 11, 12, 13] [0] 4 (s0 := (0, [])) ⟨rfl, (by kernel_rfl), (by kernel_rfl), (q8 _ _ _ _ _), trivial⟩ hq (fun s1 x1 hq hn1 he1 => ?_)
 refine ifE hb 5 [14] [] hq (fun hq _ => ?_) (fun hq _ => ?_)
 refine idxE hb flS 6 hq fun x3 hx3 hq => ?_
 refine qe hb mixed 4 5 [] ?_
 refine q6 hb 2 hq (gQ7f hb he before_ x3) fun y4 hy4 hq => ?_
 refine q6 hb 3 hq (gQ7f hb he after_ x3) fun y5 hy5 hq => ?_
 refine q6 hb 0 hq (gQ6n hb he y4 y5) fun y6 hy6 hq => ?_
 refine ifE hb 1 [23] [] hq (fun hq _ => ?_) (fun hq _ => ?_)
 refine qg flS hb 5 3 true 0 (flS.one x3) hq fun l8 hl8 hq => ?_
 exact q9 hb 7 [4, 5, 7, 11, 12, 13] [] 4 (hn1 _ (injO hq)) ⟨rfl, (by kernel_rfl), (by kernel_rfl), (q8 _ _ _ _ _), trivial⟩
 exact q9 hb 7 [4, 5, 7, 11, 12, 13] [] 4 (hn1 _ (injO hq)) ⟨rfl, (by kernel_rfl), (by kernel_rfl), (q8 _ _ _ _ _), trivial⟩
 refine qq hb 7 3 true (sz := flS.sz) (fr := 0) (cs := flS.f s1.2) (by kernel_rfl) (Nat.zero_le _) ?_
 refine q54 hb 0 6 (c := vO flS 3 s1.2) (qr flS (nb := true) (id := 3) (xs := s1.2) (by kernel_rfl)) ?_
 exact retE hb 0 (he1 _ (injO hq))
noncomputable def gQ7k (s_ : SchemaG) (name_ : ByteArray) (s1 : Int) : Option ((Int) ⊕ (NestedG × Bool)) :=
 bif (decide (s1 < (s_.nested.length : Int))) then (idx s_.nested s1).bind fun x2 => bif (decide (x2.name = name_)) then some (.inr (x2, true)) else some (.inl (IntKind.i64.wrap (s1 + 1))) else some (.inr ((NestedG.mk eS 0 0 [] false), false))
noncomputable def gQ7j  (s_ : SchemaG) (name_ : ByteArray) : Option (NestedG × Bool) :=
 qb (gQ7k s_ name_) 0
theorem gQ7l (hb : Base E E0 G) (he : ∀ w, E w → EnvV w)   (s_ : SchemaG) (name_ : ByteArray) : ∀ r_ : NestedG × Bool, gQ7j s_ name_ = some r_ →
 Pure E E0 Tryz.prog 79 [.agg [vL q7 s_.attrs, vL qd s_.nested], .cell (vS name_)] (.tup [.agg [vS r_.1.name, vi r_.1.min, vi r_.1.max, vL q7 r_.1.attrs, vB r_.1.replace], .cell (vB r_.2)]) := by
 refine fnE hb Tryz.func79 rfl fun r_ hq => ?_
 refine qj hb 15 (gQ7k s_ name_) (fun s1 => sl 22 [(1, c1 (vS name_)), (4, pt 1), (9, c1 (vL qd s_.nested)), (10, c1 (vi (s_.nested.length : Int))), (11, c1 (vi s1))]) (fun s1 => [none, bx [vS eS, vi 0, vi 0, vN, vB false]]) [1, 4, 9, 10, 11] [0] 2 (s0 := 0) ⟨rfl, (by kernel_rfl), trivial⟩ hq (fun s1 x1 hq hn1 he1 => ?_)
 refine ifE hb 5 [12] [] hq (fun hq _ => ?_) (fun hq _ => ?_)
 refine idxE hb qd 6 hq fun x2 hx2 hq => ?_
 refine ifE hb 11 [18] [] hq (fun hq _ => ?_) (fun hq _ => ?_)
 exact retE hb 7 (he1 _ (injO hq))
 exact q9 hb 7 [1, 4, 9, 10, 11] [] 2 (hn1 _ (injO hq)) ⟨rfl, (by kernel_rfl), trivial⟩
 exact retE hb 8 (he1 _ (injO hq))
noncomputable def gQ67 (s_ : SchemaG) (y1 : List ByteArray) (s1 : Int × List ByteArray) : Option ((Int × List ByteArray) ⊕ (List ByteArray)) :=
 bif (decide (s1.1 < (y1.length : Int))) then (idx y1 s1.1).bind fun x3 => (gQ5o s_ x3).bind fun y4 => (gQ7j s_ x3).bind fun y5 => bif y4.1.replace then (app 16 s1.2 [x3]).bind fun l7 => some (.inl ((IntKind.i64.wrap (s1.1 + 1)), l7)) else bif y5.1.replace then (app 16 s1.2 [x3]).bind fun l9 => some (.inl ((IntKind.i64.wrap (s1.1 + 1)), l9)) else some (.inl ((IntKind.i64.wrap (s1.1 + 1)), s1.2)) else some (.inr (s1.2))
noncomputable def gQ66  (s_ : SchemaG) (before_ : Val) (after_ : Val) : Option (List ByteArray) :=
 (gQ5e s_ before_ after_).bind fun y1 => qb (gQ67 s_ y1) (0, [])
theorem gQ68 (hb : Base E E0 G) (he : ∀ w, E w → EnvV w)   (s_ : SchemaG) (before_ : Val) (after_ : Val) : ∀ r_ : List ByteArray, gQ66 s_ before_ after_ = some r_ →
 Pure E E0 Tryz.prog 30 [.agg [vL q7 s_.attrs, vL qd s_.nested], .agg (aV before_), .agg (aV after_)] (c1 (vL flS r_)) := by
 refine fnE hb Tryz.func30 rfl fun r_ hq => ?_
 refine q6 hb 17 hq (gQ5g hb he s_ before_ after_) fun y1 hy1 hq => ?_
 refine q4s hb 4 7 1 ?_
 refine qj hb 0 (gQ67 s_ y1) (fun s1 => sl 47 [(3, pt 0), (7, c1 (vO flS 3 s1.2)), (17, c1 (vL flS y1)), (18, c1 (vi (y1.length : Int))), (19, c1 (vi s1.1))]) (fun s1 => [bx [vL q7 s_.attrs, vL qd s_.nested], none, none, some (arO true flS.sz 0 (flS.f s1.2))]) [3, 7, 17, 18, 19] [1, 2] 4 (s0 := (0, [])) ⟨(by kernel_rfl), rfl, rfl, (q8 _ _ _ _ _), trivial⟩ hq (fun s1 x1 hq hn1 he1 => ?_)
 refine ifE hb 5 [20] [] hq (fun hq _ => ?_) (fun hq _ => ?_)
 refine idxE hb flS 6 hq fun x3 hx3 hq => ?_
 refine q6 hb 7 hq (gQ5q hb he s_ x3) fun y4 hy4 hq => ?_
 refine q6 hb 11 hq (gQ7l hb he s_ x3) fun y5 hy5 hq => ?_
 refine ifE hb 12 [36, 37] [] hq (fun hq _ => ?_) (fun hq _ => ?_)
 refine qg flS hb 9 3 true 0 (flS.one x3) hq fun l7 hl7 hq => ?_
 exact q9 hb 7 [3, 7, 17, 18, 19] [] 4 (hn1 _ (injO hq)) ⟨(by kernel_rfl), rfl, rfl, (q8 _ _ _ _ _), trivial⟩
 refine ifE hb 4 [39, 40] [] hq (fun hq _ => ?_) (fun hq _ => ?_)
 refine qg flS hb 5 3 true 0 (flS.one x3) hq fun l9 hl9 hq => ?_
 exact q9 hb 7 [3, 7, 17, 18, 19] [] 4 (hn1 _ (injO hq)) ⟨(by kernel_rfl), rfl, rfl, (q8 _ _ _ _ _), trivial⟩
 exact q9 hb 7 [3, 7, 17, 18, 19] [] 4 (hn1 _ (injO hq)) ⟨(by kernel_rfl), rfl, rfl, (q8 _ _ _ _ _), trivial⟩
 refine qq hb 7 3 true (sz := flS.sz) (fr := 0) (cs := flS.f s1.2) (by kernel_rfl) (Nat.zero_le _) ?_
 refine q54 hb 0 6 (c := vO flS 3 s1.2) (qr flS (nb := true) (id := 3) (xs := s1.2) (by kernel_rfl)) ?_
 exact retE hb 0 (he1 _ (injO hq))
end Abs
end Go.Proofs.YtkffpfapfljinaaGreatDoor
