/-
  Schema: Go functions as functions over plain values, with the proof that the code computes them; printed by gen.py.
-/
import Derived.Test.YtkffpfapfljinaaGreatDoorCtM
import Derived.Test.YtkffpfapfljinaaGreatDoorCtI
import Derived.Test.YtkffpfapfljinaaGreatDoorACd
import Derived.Test.YtkffpfapfljinaaGreatDoorAbsS
import Derived.Test.YtkffpfapfljinaaGreatDoorAbsN
namespace Go.Proofs.YtkffpfapfljinaaGreatDoor
namespace Abs
open Go.RowKit
variable {E : World → Prop} {E0 : Nat} {G : Nat → Option (List PV)}
set_option maxRecDepth 100000
set_option linter.unusedVariables false
set_option linter.unusedSimpArgs false
attribute [local irreducible] adv J KE KO mPut mSto mBool mFrm mDraw hedS unl Pure Ok sl loopO awpL awp asq asqD asqX asqF
structure AttrG where
 name : ByteArray
 type_ : Ty
 mode : Int
 replace : Bool
 sensitive : Bool
 volatile : Bool
structure NestedG where
 name : ByteArray
 min : Int
 max : Int
 attrs : List AttrG
 replace : Bool
structure SchemaG where
 attrs : List AttrG
 nested : List NestedG
structure DiagG where
 kind : Int
 at_ : Int
 name : ByteArray
def flAttrG : Fl AttrG := Fl.of (fun x => [pS x.name, pI .i64 x.type_.kind, pL flT x.type_.elems, pL flS x.type_.names, pI .i64 x.mode, pB x.replace, pB x.sensitive, pB x.volatile]) 8 (by decide) (fun _ => rfl)
def flNestedG : Fl NestedG := Fl.of (fun x => [pS x.name, pI .i64 x.min, pI .i64 x.max, pL flAttrG x.attrs, pB x.replace]) 5 (by decide) (fun _ => rfl)
def flSchemaG : Fl SchemaG := Fl.of (fun x => [pL flAttrG x.attrs, pL flNestedG x.nested]) 2 (by decide) (fun _ => rfl)
noncomputable def gQ2s (r_r10_left : Ty → Int → Int → Option (Int)) (t_ : Ty) (levels_ : Int) (s1 : Int × Int) : Option ((Int × Int) ⊕ (Int)) :=
 bif (decide (s1.2 < (t_.elems.length : Int))) then bif (decide (s1.1 ≥ 0)) then (idx t_.elems s1.2).bind fun x5 => (r_r10_left x5 s1.1 (IntKind.i64.wrap (levels_ - 1))).bind fun y6 => some (.inl (y6, (IntKind.i64.wrap (s1.2 + 1)))) else some (.inr (s1.1)) else some (.inr (s1.1))
noncomputable def gQ2r (r_r10_left : Ty → Int → Int → Option (Int)) (t_ : Ty) (nodes_ : Int) (levels_ : Int) : Option (Int) :=
 bif (decide (nodes_ < 1)) then some (-1) else bif (decide (levels_ < 1)) then some (-1) else loopO (gQ2s r_r10_left t_ levels_) ((IntKind.i64.wrap (nodes_ - 1)), 0)
theorem gQ2t (hb : Base E E0 G) (he : ∀ w, E w → EnvV w) (r_r10_left : Ty → Int → Int → Option (Int)) (hr_r10_left : ∀ (a0 : Ty) (a1 : Int) (a2 : Int) (r : Int), r_r10_left a0 a1 a2 = some r → Pure E E0 Tryz.prog 131 [.agg (aT a0), .cell (vi a1), .cell (vi a2)] (c1 (vi r))) (t_ : Ty) (nodes_ : Int) (levels_ : Int) : ∀ r_ : Int, gQ2r r_r10_left t_ nodes_ levels_ = some r_ →
 Pure E E0 Tryz.prog 131 [.agg (aT t_), .cell (vi nodes_), .cell (vi levels_)] (c1 (vi r_)) := by
 refine fnE hb Tryz.func131 rfl fun r_ hq => ?_
 refine ifE hb 11 [10, 11] [] hq (fun hq _ => ?_) (fun hq _ => ?_)
 exact retE hb 9 (injO hq).symm
 refine ifE hb 4 [13, 14] [] hq (fun hq _ => ?_) (fun hq _ => ?_)
 exact retE hb 5 (injO hq).symm
 refine cpE hb 14 [2, 3, 7, 8] (s' := ⟨none, [pick (bodyOf Tryz.f131) [1, 1, 1, 0, 1, 0]], [(0, [pick (bodyOf Tryz.f131) [1, 1, 1, 1]])], sl 38 [(2, c1 (vi levels_)), (3, pt 0), (7, c1 (vi (IntKind.i64.wrap (nodes_ - 1)))), (8, c1 (vi 0))], [bx (aT t_)]⟩) ?_
 refine loopE hb 0 (gQ2s r_r10_left t_ levels_) (fun s1 => sl 38 [(2, c1 (vi levels_)), (3, pt 0), (7, c1 (vi s1.1)), (8, c1 (vi s1.2))]) (fun s1 => [bx (aT t_)]) [2, 3, 7, 8] [] 1 (s0 := ((IntKind.i64.wrap (nodes_ - 1)), 0)) ⟨(by kernel_rfl), trivial⟩ hq (fun s1 x1 hq hn1 he1 => ?_)
 refine ifE hb 9 [21, 22] [] hq (fun hq _ => ?_) (fun hq _ => ?_)
 refine ifE hb 4 [24, 25] [] hq (fun hq _ => ?_) (fun hq _ => ?_)
 refine idxE hb flT 8 hq fun x5 hx5 hq => ?_
 refine callE hb 4 hq (hr_r10_left x5 s1.1 (IntKind.i64.wrap (levels_ - 1))) fun y6 hy6 hq => ?_
 exact backE hb 8 [2, 3, 7, 8] [] 1 (hn1 _ (injO hq)) ⟨(by kernel_rfl), trivial⟩
 exact retE hb 7 (he1 _ (injO hq))
 exact retE hb 11 (he1 _ (injO hq))
noncomputable def tQ8g (rec : Ty → Int × Int → Option (Int)) (a : Ty) (b : Int × Int) : Option (Int) :=
 gQ2r (fun a0 a1 a2 => rec a0 (a1, a2)) a b.1 b.2
noncomputable def tQ8e (a0 : Ty) (a1 : Int) (a2 : Int) : Option (Int) := tieF relT wfT tQ8g a0 (a1, a2)
theorem tQ8f (hb : Base E E0 G) (he : ∀ w, E w → EnvV w) (a0 : Ty) (a1 : Int) (a2 : Int) (r : Int) (hq : tQ8e a0 a1 a2 = some r) : Pure E E0 Tryz.prog 131 [.agg (aT a0), .cell (vi a1), .cell (vi a2)] (c1 (vi r)) :=
 tieF_ok (C := fun a b r => Pure E E0 Tryz.prog 131 [.agg (aT a), .cell (vi b.1), .cell (vi b.2)] (c1 (vi r))) (fun rec hr a b r hq => gQ2t hb he (fun a0 a1 a2 => rec a0 (a1, a2)) (fun a0 a1 a2 r e => hr a0 (a1, a2) r e) a b.1 b.2 r hq) a0 (a1, a2) r hq
noncomputable def gQ2v (r_r10_names : Ty → Option (Int)) (t_ : Ty) (s1 : Int × Int) : Option ((Int × Int) ⊕ (Int)) :=
 bif (decide (s1.2 < (t_.elems.length : Int))) then (idx t_.elems s1.2).bind fun x2 => (r_r10_names x2).bind fun y3 => some (.inl ((IntKind.i64.wrap (s1.1 + y3)), (IntKind.i64.wrap (s1.2 + 1)))) else some (.inr (s1.1))
noncomputable def gQ2u (r_r10_names : Ty → Option (Int)) (t_ : Ty) : Option (Int) :=
 loopO (gQ2v r_r10_names t_) ((t_.names.length : Int), 0)
theorem gQ2w (hb : Base E E0 G) (he : ∀ w, E w → EnvV w) (r_r10_names : Ty → Option (Int)) (hr_r10_names : ∀ (a0 : Ty) (r : Int), r_r10_names a0 = some r → Pure E E0 Tryz.prog 132 [.agg (aT a0)] (c1 (vi r))) (t_ : Ty) : ∀ r_ : Int, gQ2u r_r10_names t_ = some r_ →
 Pure E E0 Tryz.prog 132 [.agg (aT t_)] (c1 (vi r_)) := by
 refine fnE hb Tryz.func132 rfl fun r_ hq => ?_
 refine loopE hb 18 (gQ2v r_r10_names t_) (fun s1 => sl 24 [(1, pt 0), (3, c1 (vi s1.1)), (4, c1 (vi s1.2))]) (fun s1 => [bx (aT t_)]) [1, 3, 4] [] 1 (s0 := ((t_.names.length : Int), 0)) ⟨(by kernel_rfl), trivial⟩ hq (fun s1 x1 hq hn1 he1 => ?_)
 refine ifE hb 9 [12] [] hq (fun hq _ => ?_) (fun hq _ => ?_)
 refine idxE hb flT 9 hq fun x2 hx2 hq => ?_
 refine callE hb 1 hq (hr_r10_names x2) fun y3 hy3 hq => ?_
 exact backE hb 9 [1, 3, 4] [] 1 (hn1 _ (injO hq)) ⟨(by kernel_rfl), trivial⟩
 exact retE hb 7 (he1 _ (injO hq))
noncomputable def tQ8j (rec : Ty → Unit → Option (Int)) (a : Ty) (b : Unit) : Option (Int) :=
 gQ2u (fun a0 => rec a0 ()) a
noncomputable def tQ8h (a0 : Ty) : Option (Int) := tieF relT wfT tQ8j a0 ()
theorem tQ8i (hb : Base E E0 G) (he : ∀ w, E w → EnvV w) (a0 : Ty) (r : Int) (hq : tQ8h a0 = some r) : Pure E E0 Tryz.prog 132 [.agg (aT a0)] (c1 (vi r)) :=
 tieF_ok (C := fun a b r => Pure E E0 Tryz.prog 132 [.agg (aT a)] (c1 (vi r))) (fun rec hr a b r hq => gQ2w hb he (fun a0 => rec a0 ()) (fun a0 r e => hr a0 () r e) a r hq) a0 () r hq
noncomputable def gQ2l  (t_ : Ty) (nodes_ : Int) : Option (Bool) :=
 (tQ8e t_ nodes_ 40).bind fun y1 => bif (decide (y1 ≥ 0)) then (tQ8h t_).bind fun y3 => some (decide (y3 ≤ (IntKind.i64.wrap (2 * nodes_)))) else some (false)
theorem gQ2m (hb : Base E E0 G) (he : ∀ w, E w → EnvV w)   (t_ : Ty) (nodes_ : Int) : ∀ r_ : Bool, gQ2l t_ nodes_ = some r_ →
 Pure E E0 Tryz.prog 94 [.agg (aT t_), .cell (vi nodes_)] (c1 (vB r_)) := by
 refine fnE hb Tryz.func94 rfl fun r_ hq => ?_
 refine callE hb 9 hq (tQ8f hb he t_ nodes_ 40) fun y1 hy1 hq => ?_
 refine ifE hb 2 [8, 9] [] hq (fun hq _ => ?_) (fun hq _ => ?_)
 refine callE hb 1 hq (tQ8i hb he t_) fun y3 hy3 hq => ?_
 exact retE hb 6 (injO hq).symm
 exact retE hb 8 (injO hq).symm
noncomputable def gQ1e (l_ : List AttrG) (s1 : Int) : Option ((Int) ⊕ (Bool)) :=
 bif (decide (s1 < (l_.length : Int))) then (idx l_ s1).bind fun x3 => bif (decide ((x3.name.size : Int) > 200)) then some (.inr (false)) else (idx l_ s1).bind fun x5 => (gQ2l x5.type_ 40).bind fun y6 => bif (!y6) then some (.inr (false)) else some (.inl (IntKind.i64.wrap (s1 + 1))) else some (.inr (true))
noncomputable def gQ1d  (l_ : List AttrG) : Option (Bool) :=
 bif (decide ((l_.length : Int) > 70)) then some (false) else loopO (gQ1e l_) 0
theorem gQ1f (hb : Base E E0 G) (he : ∀ w, E w → EnvV w)   (l_ : List AttrG) : ∀ r_ : Bool, gQ1d l_ = some r_ →
 Pure E E0 Tryz.prog 44 [.cell (vL flAttrG l_)] (c1 (vB r_)) := by
 refine fnE hb Tryz.func44 rfl fun r_ hq => ?_
 refine ifE hb 11 [6] [] hq (fun hq _ => ?_) (fun hq _ => ?_)
 exact retE hb 5 (injO hq).symm
 refine loopE hb 8 (gQ1e l_) (fun s1 => sl 29 [(0, c1 (vL flAttrG l_)), (3, c1 (vi s1))]) (fun s1 => []) [0, 3] [] 0 (s0 := 0) trivial hq (fun s1 x1 hq hn1 he1 => ?_)
 refine ifE hb 8 [10] [] hq (fun hq _ => ?_) (fun hq _ => ?_)
 refine idxE hb flAttrG 8 hq fun x3 hx3 hq => ?_
 refine ifE hb 5 [19, 20] [] hq (fun hq _ => ?_) (fun hq _ => ?_)
 exact retE hb 14 (he1 _ (injO hq))
 refine idxE hb flAttrG 2 hq fun x5 hx5 hq => ?_
 refine callE hb 2 hq (gQ2m hb he x5.type_ 40) fun y6 hy6 hq => ?_
 refine ifE hb 3 [27, 28] [] hq (fun hq _ => ?_) (fun hq _ => ?_)
 refine cpE hb 2 [] (s' := ⟨none, [pick (bodyOf Tryz.f44) [1, 1, 0, 1, 0, 0, 1, 0, 0, 1, 0, 0], pick (bodyOf Tryz.f44) [1, 1, 0, 1, 0, 0, 1, 0, 0, 1, 0, 1]], [(1, [pick (bodyOf Tryz.f44) [1, 1, 0, 1, 0, 0, 1, 1], pick (bodyOf Tryz.f44) [1, 1, 0, 1, 0]]), (0, [pick (bodyOf Tryz.f44) [1, 1, 1]])], sl 29 [], []⟩) ?_
 exact retE hb 3 (he1 _ (injO hq))
 refine cpE hb 3 [0, 3] (s' := ⟨none, [pick (bodyOf Tryz.f44) [1, 1, 0, 1, 0, 0, 1, 1], pick (bodyOf Tryz.f44) [1, 1, 0, 1, 0]], [(0, [pick (bodyOf Tryz.f44) [1, 1, 1]])], sl 29 [(0, c1 (vL flAttrG l_)), (3, c1 (vi s1))], []⟩) ?_
 exact backE hb 5 [0, 3] [] 0 (hn1 _ (injO hq)) trivial
 exact retE hb 6 (he1 _ (injO hq))
noncomputable def gQ1m (s_ : SchemaG) (s1 : Int) : Option ((Int) ⊕ (Bool)) :=
 bif (decide (s1 < (s_.nested.length : Int))) then (idx s_.nested s1).bind fun x5 => (gQ1d x5.attrs).bind fun y6 => bif (!y6) then some (.inr (false)) else (idx s_.nested s1).bind fun x8 => bif (decide ((x8.name.size : Int) > 200)) then some (.inr (false)) else some (.inl (IntKind.i64.wrap (s1 + 1))) else some (.inr (true))
noncomputable def gQ1l  (s_ : SchemaG) : Option (Bool) :=
 (gQ1d s_.attrs).bind fun y1 => bif (!y1) then some (false) else bif (decide ((s_.nested.length : Int) > 70)) then some (false) else loopO (gQ1m s_) 0
theorem gQ1n (hb : Base E E0 G) (he : ∀ w, E w → EnvV w)   (s_ : SchemaG) : ∀ r_ : Bool, gQ1l s_ = some r_ →
 Pure E E0 Tryz.prog 11 [.agg [vL flAttrG s_.attrs, vL flNestedG s_.nested]] (c1 (vB r_)) := by
 refine fnE hb Tryz.func11 rfl fun r_ hq => ?_
 refine callE hb 10 hq (gQ1f hb he s_.attrs) fun y1 hy1 hq => ?_
 refine ifE hb 2 [7, 8] [] hq (fun hq _ => ?_) (fun hq _ => ?_)
 exact retE hb 11 (injO hq).symm
 refine ifE hb 6 [12, 13] [] hq (fun hq _ => ?_) (fun hq _ => ?_)
 exact retE hb 5 (injO hq).symm
 refine cpE hb 8 [1, 3] (s' := ⟨none, [pick (bodyOf Tryz.f11) [1, 1, 0, 1, 0]], [(0, [pick (bodyOf Tryz.f11) [1, 1, 1]])], sl 39 [(1, pt 0), (3, c1 (vi 0))], [bx [vL flAttrG s_.attrs, vL flNestedG s_.nested]]⟩) ?_
 refine loopE hb 0 (gQ1m s_) (fun s1 => sl 39 [(1, pt 0), (3, c1 (vi s1))]) (fun s1 => [bx [vL flAttrG s_.attrs, vL flNestedG s_.nested]]) [1, 3] [] 1 (s0 := 0) ⟨(by kernel_rfl), trivial⟩ hq (fun s1 x1 hq hn1 he1 => ?_)
 refine ifE hb 9 [18] [] hq (fun hq _ => ?_) (fun hq _ => ?_)
 refine idxE hb flNestedG 9 hq fun x5 hx5 hq => ?_
 refine callE hb 2 hq (gQ1f hb he x5.attrs) fun y6 hy6 hq => ?_
 refine ifE hb 2 [28, 29] [] hq (fun hq _ => ?_) (fun hq _ => ?_)
 exact retE hb 15 (he1 _ (injO hq))
 refine idxE hb flNestedG 3 hq fun x8 hx8 hq => ?_
 refine ifE hb 6 [37, 38] [] hq (fun hq _ => ?_) (fun hq _ => ?_)
 exact retE hb 5 (he1 _ (injO hq))
 exact backE hb 8 [1, 3] [] 1 (hn1 _ (injO hq)) ⟨(by kernel_rfl), trivial⟩
 exact retE hb 6 (he1 _ (injO hq))
noncomputable def gQ5v (t_ : Ty) (y1 : List ByteArray) (s1 : Unit) : Option ((Unit) ⊕ (Ty)) :=
 some (.inr (Ty.mk t_.kind [] y1))
noncomputable def gQ5w (r_schema_typed : Ty → Option (Ty)) (t_ : Ty) (y1 : List ByteArray) (l3 : List Ty) (s1b : Int × List Ty) : Option ((Int × List Ty) ⊕ (Ty)) :=
 bif (decide (s1b.1 < (l3.length : Int))) then (idx s1b.2 s1b.1).bind fun x5 => (r_schema_typed x5).bind fun y6 => (idx s1b.2 s1b.1).bind fun x7 => some (.inl ((IntKind.i64.wrap (s1b.1 + 1)), (upd s1b.2 s1b.1 y6))) else some (.inr (Ty.mk t_.kind s1b.2 y1))
noncomputable def gQ5u (r_schema_typed : Ty → Option (Ty)) (t_ : Ty) : Option (Ty) :=
 (clone 16 t_.names).bind fun y1 => bif (decide ((t_.elems.length : Int) = 0)) then loopO (gQ5v t_ y1) () else (clone 56 t_.elems).bind fun l3 => loopO (gQ5w r_schema_typed t_ y1 l3) (0, l3)
theorem gQ5x (hb : Base E E0 G) (he : ∀ w, E w → EnvV w) (r_schema_typed : Ty → Option (Ty)) (hr_schema_typed : ∀ (a0 : Ty) (r : Ty), r_schema_typed a0 = some r → Pure E E0 Tryz.prog 85 [.agg (aT a0)] (.one (.agg (aT r)))) (t_ : Ty) : ∀ r_ : Ty, gQ5u r_schema_typed t_ = some r_ →
 Pure E E0 Tryz.prog 85 [.agg (aT t_)] (.one (.agg (aT r_))) := by
 refine fnE hb Tryz.func85 rfl fun r_ hq => ?_
 refine callE hb 9 hq (cloneK_g hb he t_.names) fun y1 hy1 hq => ?_
 refine ifE hb 7 [] [] hq (fun hq hc2 => ?_) (fun hq hc2 => ?_)
 refine callUE hb 0 (cloneT_nil hb he t_.elems hc2) ?_
 refine cpE hb 12 [1, 2, 14, 15] (s' := ⟨none, [pick (bodyOf Tryz.f85) [1, 1, 1, 0, 1, 0]], [(0, [pick (bodyOf Tryz.f85) [1, 1, 1, 1]])], sl 30 [(1, pt 0), (2, pt 1), (14, c1 (vi 0)), (15, c1 (vi 0))], [bx [vi t_.kind, vL flT [], vL flS y1], bx [vi 0, vN, vN]]⟩) ?_
 refine loopE hb 0 (gQ5v t_ y1) (fun s1 => sl 30 [(1, pt 0), (2, pt 1), (14, c1 (vi 0)), (15, c1 (vi 0))]) (fun s1 => [bx [vi t_.kind, vL flT [], vL flS y1], bx [vi 0, vN, vN]]) [1, 2, 14, 15] [] 2 (s0 := ()) ⟨(by kernel_rfl), (by kernel_rfl), trivial⟩ hq (fun s1 x1 hq hn1 he1 => ?_)
 exact retE hb 12 (he1 _ (injO hq))
 refine callSE hb 0 hq (cloneT_arr hb he _ t_.elems hc2) fun l3 hl3 hq => ?_
 refine lenOwnE flT hb 8 2 false 0 l3 ?_
 refine cpE hb 3 [1, 2, 14, 15] (s' := ⟨none, [pick (bodyOf Tryz.f85) [1, 1, 1, 0, 1, 0]], [(0, [pick (bodyOf Tryz.f85) [1, 1, 1, 1]])], sl 30 [(1, pt 0), (2, pt 1), (14, c1 (vi (l3.length : Int))), (15, c1 (vi 0))], [bx [vi t_.kind, vO flT 2 l3, vL flS y1], bx [vi 0, vN, vN], some (arO false flT.sz 0 (flT.f l3))]⟩) ?_
 refine loopE hb 0 (gQ5w r_schema_typed t_ y1 l3) (fun s1b => sl 30 [(1, pt 0), (2, pt 1), (14, c1 (vi (l3.length : Int))), (15, c1 (vi s1b.1))]) (fun s1b => [bx [vi t_.kind, vO flT 2 s1b.2, vL flS y1], bx [vi 0, vN, vN], some (arO false flT.sz 0 (flT.f s1b.2))]) [1, 2, 14, 15] [] 3 (s0 := (0, l3)) ⟨(by kernel_rfl), (by kernel_rfl), (under_arO _ _ _ _ _), trivial⟩ hq (fun s1b x1 hq hn1 he1 => ?_)
 refine ifE hb 5 [16] [] hq (fun hq _ => ?_) (fun hq _ => ?_)
 refine drawE hb mixed 9 9 [] ?_
 refine idxOwnE flT hb 6 2 false 0 hq fun x5 hx5 hq => ?_
 refine loadOwnE flT hb 0 2 false 0 hx5 ?_
 refine callE hb 0 hq (hr_schema_typed x5) fun y6 hy6 hq => ?_
 refine idxOwnE flT hb 1 2 false 0 hq fun x7 hx7 hq => ?_
 refine storeOwnE flT hb 0 2 hx7 y6 ?_
 refine cellSE hb 2 0 1 (cs := [vi t_.kind, vO flT 2 s1b.2, vL flS y1]) (c := vO flT 2 s1b.2) (conv_eq (vO_eq flT (upd_len s1b.2 s1b.1 y6))) (by kernel_rfl) ?_
 refine cpE hb 0 [1, 2, 14, 15] (s' := ⟨none, [pick (bodyOf Tryz.f85) [1, 1, 1, 0, 1, 0, 0, 1, 1, 1], pick (bodyOf Tryz.f85) [1, 1, 1, 0, 1, 0]], [(0, [pick (bodyOf Tryz.f85) [1, 1, 1, 1]])], sl 30 [(1, pt 0), (2, pt 1), (14, c1 (vi (l3.length : Int))), (15, c1 (vi s1b.1))], [bx [vi t_.kind, vO flT 2 (upd s1b.2 s1b.1 y6), vL flS y1], bx [vi 0, vN, vN], some (arO false flT.sz 0 (flT.f (upd s1b.2 s1b.1 y6)))]⟩) ?_
 exact backE hb 4 [1, 2, 14, 15] [] 3 (hn1 _ (injO hq)) ⟨(by kernel_rfl), (by kernel_rfl), (under_arO _ _ _ _ _), trivial⟩
 refine markE hb 7 2 false (sz := flT.sz) (fr := 0) (cs := flT.f s1b.2) (by kernel_rfl) (Nat.zero_le _) ?_
 refine cellSE hb 0 1 1 (cs := [vi t_.kind, vO flT 2 s1b.2, vL flS y1]) (c := vO flT 2 s1b.2) (conv_own flT (nb := false) (id := 2) (xs := s1b.2) (by kernel_rfl)) (by kernel_rfl) ?_
 exact retE hb 0 (he1 _ (injO hq))
noncomputable def tQ8m (rec : Ty → Unit → Option (Ty)) (a : Ty) (b : Unit) : Option (Ty) :=
 gQ5u (fun a0 => rec a0 ()) a
noncomputable def tQ8k (a0 : Ty) : Option (Ty) := tieF relT wfT tQ8m a0 ()
theorem tQ8l (hb : Base E E0 G) (he : ∀ w, E w → EnvV w) (a0 : Ty) (r : Ty) (hq : tQ8k a0 = some r) : Pure E E0 Tryz.prog 85 [.agg (aT a0)] (.one (.agg (aT r))) :=
 tieF_ok (C := fun a b r => Pure E E0 Tryz.prog 85 [.agg (aT a)] (.one (.agg (aT r)))) (fun rec hr a b r hq => gQ5x hb he (fun a0 => rec a0 ()) (fun a0 r e => hr a0 () r e) a r hq) a0 () r hq
noncomputable def gQ5s (l_ : List AttrG) (s1 : Int × List Ty × List ByteArray) : Option ((Int × List Ty × List ByteArray) ⊕ (Ty)) :=
 bif (decide (s1.1 < (l_.length : Int))) then (idx l_ s1.1).bind fun x2 => (app 16 s1.2.2 [x2.name]).bind fun l3 => (tQ8k x2.type_).bind fun y4 => (app 56 s1.2.1 [y4]).bind fun l5 => some (.inl ((IntKind.i64.wrap (s1.1 + 1)), l5, l3)) else some (.inr (Ty.mk 6 s1.2.1 s1.2.2))
noncomputable def gQ5r  (l_ : List AttrG) : Option (Ty) :=
 loopO (gQ5s l_) (0, [], [])
theorem gQ5t (hb : Base E E0 G) (he : ∀ w, E w → EnvV w)   (l_ : List AttrG) : ∀ r_ : Ty, gQ5r l_ = some r_ →
 Pure E E0 Tryz.prog 69 [.cell (vL flAttrG l_)] (.one (.agg (aT r_))) := by
 refine fnE hb Tryz.func69 rfl fun r_ hq => ?_
 refine ownSE hb 18 1 1 3 (cs := [vi 6, vN, vN]) (by kernel_rfl) ?_
 refine ownSE hb 0 1 2 1 (cs := [vi 6, vO flT 2 [], vN]) (by kernel_rfl) ?_
 refine loopE hb 0 (gQ5s l_) (fun s1 => sl 30 [(2, pt 0), (3, pt 1), (7, c1 (vL flAttrG l_)), (8, c1 (vi (l_.length : Int))), (9, c1 (vi s1.1))]) (fun s1 => [bx [vi 0, vN, vN], bx [vi 6, vO flT 2 s1.2.1, vO flS 3 s1.2.2], some (arO true flT.sz 0 (flT.f s1.2.1)), some (arO true flS.sz 0 (flS.f s1.2.2))]) [2, 3, 7, 8, 9] [] 4 (s0 := (0, [], [])) ⟨(by kernel_rfl), (by kernel_rfl), (under_arO _ _ _ _ _), (under_arO _ _ _ _ _), trivial⟩ hq (fun s1 x1 hq hn1 he1 => ?_)
 refine ifE hb 5 [10] [] hq (fun hq _ => ?_) (fun hq _ => ?_)
 refine idxE hb flAttrG 6 hq fun x2 hx2 hq => ?_
 refine appOwnE flS hb 11 3 true 0 (flS.one x2.name) hq fun l3 hl3 hq => ?_
 refine drawE hb mixed 3 6 [] ?_
 refine callE hb 4 hq (tQ8l hb he x2.type_) fun y4 hy4 hq => ?_
 refine appOwnE flT hb 2 2 true 0 (flT.one y4) hq fun l5 hl5 hq => ?_
 refine cpE hb 4 [2, 3, 7, 8, 9] (s' := ⟨none, [pick (bodyOf Tryz.f69) [1, 1, 0, 1, 0, 0, 1, 1, 1], pick (bodyOf Tryz.f69) [1, 1, 0, 1, 0]], [(0, [pick (bodyOf Tryz.f69) [1, 1, 1]])], sl 30 [(2, pt 0), (3, pt 1), (7, c1 (vL flAttrG l_)), (8, c1 (vi (l_.length : Int))), (9, c1 (vi s1.1))], [bx [vi 0, vN, vN], bx [vi 6, vO flT 2 l5, vO flS 3 l3], some (arO true flT.sz 0 (flT.f l5)), some (arO true flS.sz 0 (flS.f l3)), bx [vS x2.name, vi x2.type_.kind, vL flT x2.type_.elems, vL flS x2.type_.names, vi x2.mode, vB x2.replace, vB x2.sensitive, vB x2.volatile]]⟩) ?_
 exact backE hb 4 [2, 3, 7, 8, 9] [] 4 (hn1 _ (injO hq)) ⟨(by kernel_rfl), (by kernel_rfl), (under_arO _ _ _ _ _), (under_arO _ _ _ _ _), trivial⟩
 refine markE hb 7 2 true (sz := flT.sz) (fr := 0) (cs := flT.f s1.2.1) (by kernel_rfl) (Nat.zero_le _) ?_
 refine cellSE hb 0 0 1 (cs := [vi 6, vO flT 2 s1.2.1, vO flS 3 s1.2.2]) (c := vO flT 2 s1.2.1) (conv_own flT (nb := true) (id := 2) (xs := s1.2.1) (by kernel_rfl)) (by kernel_rfl) ?_
 refine markE hb 0 3 true (sz := flS.sz) (fr := 0) (cs := flS.f s1.2.2) (by kernel_rfl) (Nat.zero_le _) ?_
 refine cellSE hb 0 0 2 (cs := [vi 6, vL flT s1.2.1, vO flS 3 s1.2.2]) (c := vO flS 3 s1.2.2) (conv_own flS (nb := true) (id := 3) (xs := s1.2.2) (by kernel_rfl)) (by kernel_rfl) ?_
 exact retE hb 0 (he1 _ (injO hq))
noncomputable def gQ05  (x_ : ByteArray) : Option (Bool) :=
 some (!decide (x_ = x_))
theorem gQ06 (hb : Base E E0 G) (he : ∀ w, E w → EnvV w)   (x_ : ByteArray) : ∀ r_ : Bool, gQ05 x_ = some r_ →
 Pure E E0 Tryz.prog 147 [.cell (vS x_)] (c1 (vB r_)) := by
 refine fnE hb Tryz.func147 rfl fun r_ hq => ?_
 exact retE hb 11 (injO hq).symm
noncomputable def gQ03  (x_ : ByteArray) (y_ : ByteArray) : Option (Bool) :=
 (gQ05 x_).bind fun y1 => bif y1 then (gQ05 y_).bind fun y3 => bif (!y3) then some (true) else some (Op.bytesLess x_.toList y_.toList) else some (Op.bytesLess x_.toList y_.toList)
theorem gQ04 (hb : Base E E0 G) (he : ∀ w, E w → EnvV w)   (x_ : ByteArray) (y_ : ByteArray) : ∀ r_ : Bool, gQ03 x_ y_ = some r_ →
 Pure E E0 Tryz.prog 115 [.cell (vS x_), .cell (vS y_)] (c1 (vB r_)) := by
 refine fnE hb Tryz.func115 rfl fun r_ hq => ?_
 refine callE hb 7 hq (gQ06 hb he x_) fun y1 hy1 hq => ?_
 refine ifE hb 1 [6, 7] [] hq (fun hq _ => ?_) (fun hq _ => ?_)
 refine callE hb 1 hq (gQ06 hb he y_) fun y3 hy3 hq => ?_
 refine ifE hb 3 [10, 11, 12] [] hq (fun hq _ => ?_) (fun hq _ => ?_)
 exact retE hb 6 (injO hq).symm
 exact retE hb 6 (injO hq).symm
 exact retE hb 11 (injO hq).symm
noncomputable def gQ69  (x_ : ByteArray) : Option (Bool) :=
 some (!decide (x_ = x_))
theorem gQ6a (hb : Base E E0 G) (he : ∀ w, E w → EnvV w)   (x_ : ByteArray) : ∀ r_ : Bool, gQ69 x_ = some r_ →
 Pure E E0 Tryz.prog 116 [.cell (vS x_)] (c1 (vB r_)) := by
 refine fnE hb Tryz.func116 rfl fun r_ hq => ?_
 exact retE hb 11 (injO hq).symm
noncomputable def gQ5z (x_ : List ByteArray) (target_ : ByteArray) (s1 : Int × Int) : Option ((Int × Int) ⊕ (Int × Bool)) :=
 bif (decide (s1.1 < s1.2)) then (idx x_ (IntKind.i64.wrap (Int.fdiv (IntKind.u64.wrap (IntKind.i64.wrap (s1.1 + s1.2))) (2 ^ (min (1 : Int).toNat IntKind.u64.bits))))).bind fun x2 => (gQ03 x2 target_).bind fun y3 => bif y3 then some (.inl ((IntKind.i64.wrap ((IntKind.i64.wrap (Int.fdiv (IntKind.u64.wrap (IntKind.i64.wrap (s1.1 + s1.2))) (2 ^ (min (1 : Int).toNat IntKind.u64.bits)))) + 1)), s1.2)) else some (.inl (s1.1, (IntKind.i64.wrap (Int.fdiv (IntKind.u64.wrap (IntKind.i64.wrap (s1.1 + s1.2))) (2 ^ (min (1 : Int).toNat IntKind.u64.bits)))))) else bif (decide (s1.1 < (x_.length : Int))) then (idx x_ s1.1).bind fun x6 => bif (decide (x6 = target_)) then some (.inr (s1.1, true)) else (idx x_ s1.1).bind fun x8 => (gQ69 x8).bind fun y9 => bif y9 then (gQ69 target_).bind fun y11 => some (.inr (s1.1, y11)) else some (.inr (s1.1, false)) else some (.inr (s1.1, false))
noncomputable def gQ5y  (x_ : List ByteArray) (target_ : ByteArray) : Option (Int × Bool) :=
 loopO (gQ5z x_ target_) (0, (x_.length : Int))
theorem gQ60 (hb : Base E E0 G) (he : ∀ w, E w → EnvV w)   (x_ : List ByteArray) (target_ : ByteArray) : ∀ r_ : Int × Bool, gQ5y x_ target_ = some r_ →
 Pure E E0 Tryz.prog 70 [.cell (vL flS x_), .cell (vS target_)] (.tup [.cell (vi r_.1), .cell (vB r_.2)]) := by
 refine fnE hb Tryz.func70 rfl fun r_ hq => ?_
 refine loopE hb 19 (gQ5z x_ target_) (fun s1 => sl 54 [(0, c1 (vL flS x_)), (1, c1 (vS target_)), (6, c1 (vi (x_.length : Int))), (7, c1 (vi s1.1)), (8, c1 (vi s1.2))]) (fun s1 => []) [0, 1, 6, 7, 8] [] 0 (s0 := (0, (x_.length : Int))) trivial hq (fun s1 x1 hq hn1 he1 => ?_)
 refine ifE hb 7 [15] [] hq (fun hq _ => ?_) (fun hq _ => ?_)
 refine idxE hb flS 17 hq fun x2 hx2 hq => ?_
 refine callE hb 2 hq (gQ04 hb he x2 target_) fun y3 hy3 hq => ?_
 refine ifE hb 1 [27] [] hq (fun hq _ => ?_) (fun hq _ => ?_)
 exact backE hb 7 [0, 1, 6, 7, 8] [] 0 (hn1 _ (injO hq)) trivial
 exact backE hb 6 [0, 1, 6, 7, 8] [] 0 (hn1 _ (injO hq)) trivial
 refine ifE hb 9 [34, 35] [] hq (fun hq _ => ?_) (fun hq _ => ?_)
 refine idxE hb flS 2 hq fun x6 hx6 hq => ?_
 refine ifE hb 4 [41, 42] [] hq (fun hq _ => ?_) (fun hq _ => ?_)
 exact retE hb 14 (he1 _ (injO hq))
 refine idxE hb flS 2 hq fun x8 hx8 hq => ?_
 refine callE hb 1 hq (gQ6a hb he x8) fun y9 hy9 hq => ?_
 refine ifE hb 1 [47, 48] [] hq (fun hq _ => ?_) (fun hq _ => ?_)
 refine callE hb 1 hq (gQ6a hb he target_) fun y11 hy11 hq => ?_
 exact retE hb 6 (he1 _ (injO hq))
 exact retE hb 8 (he1 _ (injO hq))
 exact retE hb 21 (he1 _ (injO hq))
noncomputable def gQ4g (s_ : SchemaG) (s1 : Int × List Ty × List ByteArray) : Option ((Int × List Ty × List ByteArray) ⊕ (List Ty × List ByteArray)) :=
 bif (decide (s1.1 < (s_.attrs.length : Int))) then (idx s_.attrs s1.1).bind fun x2 => (app 16 s1.2.2 [x2.name]).bind fun l3 => (tQ8k x2.type_).bind fun y4 => (app 56 s1.2.1 [y4]).bind fun l5 => some (.inl ((IntKind.i64.wrap (s1.1 + 1)), l5, l3)) else some (.inr (s1.2.1, s1.2.2))
noncomputable def gQ4f  (s_ : SchemaG) : Option (List Ty × List ByteArray) :=
 loopO (gQ4g s_) (0, [], [])
theorem gQ4h (hb : Base E E0 G) (he : ∀ w, E w → EnvV w)   (s_ : SchemaG) : ∀ r_ : List Ty × List ByteArray, gQ4f s_ = some r_ →
 Ok E E0 Tryz.prog 69 [.cell (vL flAttrG s_.attrs)] [bx [vL flAttrG s_.attrs, vL flNestedG s_.nested], bx [vi 0, vN, vN]] (.one (.agg [vi 6, vO flT 4 r_.1, vO flS 5 r_.2])) [bx [vL flAttrG s_.attrs, vL flNestedG s_.nested], bx [vi 0, vN, vN], bx [vi 6, vO flT 4 r_.1, vO flS 5 r_.2], none, some (arO true flT.sz 0 (flT.f r_.1)), some (arO true flS.sz 0 (flS.f r_.2))] := by
 refine fnO2 hb Tryz.func69 rfl fun r_ hq => ?_
 refine ownSE hb 18 3 1 3 (cs := [vi 6, vN, vN]) (by kernel_rfl) ?_
 refine ownSE hb 0 3 2 1 (cs := [vi 6, vO flT 4 [], vN]) (by kernel_rfl) ?_
 refine loopE hb 0 (gQ4g s_) (fun s1 => sl 30 [(2, pt 2), (3, pt 3), (7, c1 (vL flAttrG s_.attrs)), (8, c1 (vi (s_.attrs.length : Int))), (9, c1 (vi s1.1))]) (fun s1 => [bx [vL flAttrG s_.attrs, vL flNestedG s_.nested], bx [vi 0, vN, vN], bx [vi 0, vN, vN], bx [vi 6, vO flT 4 s1.2.1, vO flS 5 s1.2.2], some (arO true flT.sz 0 (flT.f s1.2.1)), some (arO true flS.sz 0 (flS.f s1.2.2))]) [2, 3, 7, 8, 9] [] 6 (s0 := (0, [], [])) ⟨(by kernel_rfl), (by kernel_rfl), (by kernel_rfl), (by kernel_rfl), (under_arO _ _ _ _ _), (under_arO _ _ _ _ _), trivial⟩ hq (fun s1 x1 hq hn1 he1 => ?_)
 refine ifE hb 5 [10] [] hq (fun hq _ => ?_) (fun hq _ => ?_)
 refine idxE hb flAttrG 6 hq fun x2 hx2 hq => ?_
 refine appOwnE flS hb 11 5 true 0 (flS.one x2.name) hq fun l3 hl3 hq => ?_
 refine drawE hb mixed 3 6 [] ?_
 refine callE hb 4 hq (tQ8l hb he x2.type_) fun y4 hy4 hq => ?_
 refine appOwnE flT hb 2 4 true 0 (flT.one y4) hq fun l5 hl5 hq => ?_
 exact backE hb 8 [2, 3, 7, 8, 9] [] 6 (hn1 _ (injO hq)) ⟨(by kernel_rfl), (by kernel_rfl), (by kernel_rfl), (by kernel_rfl), (under_arO _ _ _ _ _), (under_arO _ _ _ _ _), trivial⟩
 exact retOE2 hb 7 [2] [3] 6 (σ1 := fun r_ : List Ty × List ByteArray => [bx [vL flAttrG s_.attrs, vL flNestedG s_.nested], bx [vi 0, vN, vN], bx [vi 6, vO flT 4 r_.1, vO flS 5 r_.2], none, some (arO true flT.sz 0 (flT.f r_.1)), some (arO true flS.sz 0 (flS.f r_.2))]) (he1 _ (injO hq)) ⟨(by kernel_rfl), (by kernel_rfl), (by kernel_rfl), rfl, (under_arO _ _ _ _ _), (under_arO _ _ _ _ _), trivial⟩
noncomputable def gQ4e (s_ : SchemaG) (s1 : Int × List Ty × List ByteArray) : Option ((Int × List Ty × List ByteArray) ⊕ (Ty)) :=
 bif (decide (s1.1 < (s_.nested.length : Int))) then (idx s_.nested s1.1).bind fun x8 => (gQ5y s1.2.2 x8.name).bind fun y9 => (m_ins 16 s1.2.2 y9.1 x8.name).bind fun l10 => (gQ5r x8.attrs).bind fun y11 => (m_ins 56 s1.2.1 y9.1 (Ty.mk 4 [y11] [])).bind fun l12 => some (.inl ((IntKind.i64.wrap (s1.1 + 1)), l12, l10)) else some (.inr (Ty.mk 6 s1.2.1 s1.2.2))
noncomputable def gQ4d  (s_ : SchemaG) : Option (Ty) :=
 (gQ4f s_).bind fun y6 => loopO (gQ4e s_) (0, y6.1, y6.2)
theorem gQ4i (hb : Base E E0 G) (he : ∀ w, E w → EnvV w)   (s_ : SchemaG) : ∀ r_ : Ty, gQ4d s_ = some r_ →
 Pure E E0 Tryz.prog 22 [.agg [vL flAttrG s_.attrs, vL flNestedG s_.nested]] (.one (.agg (aT r_))) := by
 refine fnE hb Tryz.func22 rfl fun r_ hq => ?_
 refine callKE hb 9 hq (gQ4h hb he s_) fun y6 hy6 hq => ?_
 refine loopE hb 12 (gQ4e s_) (fun s1 => sl 47 [(2, pt 1), (3, pt 6), (12, c1 (vL flNestedG s_.nested)), (13, c1 (vi (s_.nested.length : Int))), (14, c1 (vi s1.1))]) (fun s1 => [none, bx [vi 0, vN, vN], none, none, some (arO true flT.sz 0 (flT.f s1.2.1)), some (arO true flS.sz 0 (flS.f s1.2.2)), bx [vi 6, vO flT 4 s1.2.1, vO flS 5 s1.2.2]]) [2, 3, 12, 13, 14] [0, 2] 7 (s0 := (0, y6.1, y6.2)) ⟨rfl, (by kernel_rfl), rfl, rfl, (under_arO _ _ _ _ _), (under_arO _ _ _ _ _), (by kernel_rfl), trivial⟩ hq (fun s1 x1 hq hn1 he1 => ?_)
 refine ifE hb 5 [15] [] hq (fun hq _ => ?_) (fun hq _ => ?_)
 refine idxE hb flNestedG 6 hq fun x8 hx8 hq => ?_
 refine callVE hb 10 (vs := [.cell (vO flS 5 s1.2.2), .cell (vS x8.name)]) hq (frz_cons (frz_cell (frz_own flS (b := true) (id := 5) (fr := 0) (xs := s1.2.2) (by kernel_rfl))) (frz_cons (by kernel_rfl) rfl)) (fun _ => rfl) (gQ60 hb he s1.2.2 x8.name) fun y9 hy9 hq => ?_
 refine callSE hb 14 hq (insS_g hb he 5 true true s1.2.2 y9.1 (flS.one x8.name) (by kernel_rfl)) fun l10 hl10 hq => ?_
 refine drawE hb mixed 3 9 [] ?_
 refine callE hb 5 hq (gQ5t hb he x8.attrs) fun y11 hy11 hq => ?_
 refine callSE hb 4 hq (insT_g hb he 4 true true s1.2.1 y9.1 ((flT.one (Ty.mk 4 [y11] [])).trans (congrArg (fun z => [pI .i64 4, PV.sl false 1 z, pL flS []]) (flT.one y11))) (by kernel_rfl)) fun l12 hl12 hq => ?_
 refine cpE hb 4 [2, 3, 12, 13, 14] (s' := ⟨none, [pick (bodyOf Tryz.f22) [1, 1, 0, 1, 0, 0, 1, 1, 1], pick (bodyOf Tryz.f22) [1, 1, 0, 1, 0]], [(0, [pick (bodyOf Tryz.f22) [1, 1, 1]])], sl 47 [(2, pt 1), (3, pt 6), (12, c1 (vL flNestedG s_.nested)), (13, c1 (vi (s_.nested.length : Int))), (14, c1 (vi s1.1))], [none, bx [vi 0, vN, vN], none, none, some (arO true flT.sz 0 (flT.f l12)), some (arO true flS.sz 0 (flS.f l10)), bx [vi 6, vO flT 4 l12, vO flS 5 l10], bx [vS x8.name, vi x8.min, vi x8.max, vL flAttrG x8.attrs, vB x8.replace]]⟩) ?_
 exact backE hb 4 [2, 3, 12, 13, 14] [] 7 (hn1 _ (injO hq)) ⟨rfl, (by kernel_rfl), rfl, rfl, (under_arO _ _ _ _ _), (under_arO _ _ _ _ _), (by kernel_rfl), trivial⟩
 refine markE hb 7 4 true (sz := flT.sz) (fr := 0) (cs := flT.f s1.2.1) (by kernel_rfl) (Nat.zero_le _) ?_
 refine cellSE hb 0 1 1 (cs := [vi 6, vO flT 4 s1.2.1, vO flS 5 s1.2.2]) (c := vO flT 4 s1.2.1) (conv_own flT (nb := true) (id := 4) (xs := s1.2.1) (by kernel_rfl)) (by kernel_rfl) ?_
 refine markE hb 0 5 true (sz := flS.sz) (fr := 0) (cs := flS.f s1.2.2) (by kernel_rfl) (Nat.zero_le _) ?_
 refine cellSE hb 0 1 2 (cs := [vi 6, vL flT s1.2.1, vO flS 5 s1.2.2]) (c := vO flS 5 s1.2.2) (conv_own flS (nb := true) (id := 5) (xs := s1.2.2) (by kernel_rfl)) (by kernel_rfl) ?_
 exact retE hb 0 (he1 _ (injO hq))
noncomputable def gQ44 (s_ : SchemaG) (name_ : ByteArray) (s1 : Int) : Option ((Int) ⊕ (AttrG × Bool)) :=
 bif (decide (s1 < (s_.attrs.length : Int))) then (idx s_.attrs s1).bind fun x2 => bif (decide (x2.name = name_)) then (tQ8k x2.type_).bind fun y4 => some (.inr ((AttrG.mk x2.name y4 x2.mode x2.replace x2.sensitive x2.volatile), true)) else some (.inl (IntKind.i64.wrap (s1 + 1))) else some (.inr ((AttrG.mk eS (Ty.mk 0 [] []) 0 false false false), false))
noncomputable def gQ43  (s_ : SchemaG) (name_ : ByteArray) : Option (AttrG × Bool) :=
 loopO (gQ44 s_ name_) 0
theorem gQ45 (hb : Base E E0 G) (he : ∀ w, E w → EnvV w)   (s_ : SchemaG) (name_ : ByteArray) : ∀ r_ : AttrG × Bool, gQ43 s_ name_ = some r_ →
 Pure E E0 Tryz.prog 37 [.agg [vL flAttrG s_.attrs, vL flNestedG s_.nested], .cell (vS name_)] (.tup [.agg [vS r_.1.name, vi r_.1.type_.kind, vL flT r_.1.type_.elems, vL flS r_.1.type_.names, vi r_.1.mode, vB r_.1.replace, vB r_.1.sensitive, vB r_.1.volatile], .cell (vB r_.2)]) := by
 refine fnE hb Tryz.func37 rfl fun r_ hq => ?_
 refine loopE hb 15 (gQ44 s_ name_) (fun s1 => sl 26 [(1, c1 (vS name_)), (4, pt 1), (9, c1 (vL flAttrG s_.attrs)), (10, c1 (vi (s_.attrs.length : Int))), (11, c1 (vi s1))]) (fun s1 => [none, bx [vS eS, vi 0, vN, vN, vi 0, vB false, vB false, vB false]]) [1, 4, 9, 10, 11] [0] 2 (s0 := 0) ⟨rfl, (by kernel_rfl), trivial⟩ hq (fun s1 x1 hq hn1 he1 => ?_)
 refine ifE hb 5 [12] [] hq (fun hq _ => ?_) (fun hq _ => ?_)
 refine idxE hb flAttrG 6 hq fun x2 hx2 hq => ?_
 refine ifE hb 11 [18] [] hq (fun hq _ => ?_) (fun hq _ => ?_)
 refine callE hb 5 hq (tQ8l hb he x2.type_) fun y4 hy4 hq => ?_
 exact retE hb 9 (he1 _ (injO hq))
 exact backE hb 7 [1, 4, 9, 10, 11] [] 2 (hn1 _ (injO hq)) ⟨rfl, (by kernel_rfl), trivial⟩
 exact retE hb 8 (he1 _ (injO hq))
noncomputable def gQ01 (s_ : ByteArray) (s1 : Int) : Option ((Int) ⊕ (Bool)) :=
 bif (decide (s1 < (s_.size : Int))) then (sidx s_ s1).bind fun c2 => (sidx s_ s1).bind fun c3 => bif (!decide (c3 = 95)) then bif (decide ((IntKind.u8.wrap ((BitVec.ofInt IntKind.u8.bits c2 ||| BitVec.ofInt IntKind.u8.bits 32).toNat : Int)) < 97)) then bif (decide (s1 = 0)) then some (.inr (false)) else (sidx s_ s1).bind fun c7 => bif (decide (c7 < 48)) then some (.inr (false)) else (sidx s_ s1).bind fun c9 => bif (decide (c9 > 57)) then some (.inr (false)) else some (.inl (IntKind.i64.wrap (s1 + 1))) else bif (decide ((IntKind.u8.wrap ((BitVec.ofInt IntKind.u8.bits c2 ||| BitVec.ofInt IntKind.u8.bits 32).toNat : Int)) > 122)) then bif (decide (s1 = 0)) then some (.inr (false)) else (sidx s_ s1).bind fun c13 => bif (decide (c13 < 48)) then some (.inr (false)) else (sidx s_ s1).bind fun c15 => bif (decide (c15 > 57)) then some (.inr (false)) else some (.inl (IntKind.i64.wrap (s1 + 1))) else some (.inl (IntKind.i64.wrap (s1 + 1))) else some (.inl (IntKind.i64.wrap (s1 + 1))) else bif (!decide (s_ = eS)) then some (.inr (decide ((s_.size : Int) ≤ 64))) else some (.inr (false))
noncomputable def gQ00  (s_ : ByteArray) : Option (Bool) :=
 loopO (gQ01 s_) 0
theorem gQ02 (hb : Base E E0 G) (he : ∀ w, E w → EnvV w)   (s_ : ByteArray) : ∀ r_ : Bool, gQ00 s_ = some r_ →
 Pure E E0 Tryz.prog 96 [.cell (vS s_)] (c1 (vB r_)) := by
 refine fnE hb Tryz.func96 rfl fun r_ hq => ?_
 refine loopE hb 12 (gQ01 s_) (fun s1 => sl 50 [(0, c1 (vS s_)), (6, c1 (vi (s_.size : Int))), (7, c1 (vi s1))]) (fun s1 => []) [0, 6, 7] [] 0 (s0 := 0) trivial hq (fun s1 x1 hq hn1 he1 => ?_)
 refine ifE hb 5 [8] [] hq (fun hq _ => ?_) (fun hq _ => ?_)
 refine sidxE hb 13 hq fun c2 hc2 hq => ?_
 refine sidxE hb 7 hq fun c3 hc3 hq => ?_
 refine ifE hb 2 [17, 18] [] hq (fun hq _ => ?_) (fun hq _ => ?_)
 refine ifE hb 3 [20, 21] [] hq (fun hq _ => ?_) (fun hq _ => ?_)
 refine ifE hb 8 [28, 29] [] hq (fun hq _ => ?_) (fun hq _ => ?_)
 exact retE hb 18 (he1 _ (injO hq))
 refine sidxE hb 2 hq fun c7 hc7 hq => ?_
 refine ifE hb 3 [33, 34, 35] [] hq (fun hq _ => ?_) (fun hq _ => ?_)
 refine cpE hb 7 [0, 6, 7, 41] (s' := ⟨none, [pick (bodyOf Tryz.f96) [1, 0, 1, 0, 0, 1, 1, 0, 0, 1, 1, 1]], [(1, [pick (bodyOf Tryz.f96) [1, 0, 1, 0, 0, 1, 1, 1], pick (bodyOf Tryz.f96) [1, 0, 1, 0]]), (0, [pick (bodyOf Tryz.f96) [1, 1]])], sl 50 [(0, c1 (vS s_)), (6, c1 (vi (s_.size : Int))), (7, c1 (vi s1)), (41, c1 (vB true))], []⟩) ?_
 exact retE hb 5 (he1 _ (injO hq))
 refine sidxE hb 2 hq fun c9 hc9 hq => ?_
 refine cpE hb 4 [0, 6, 7, 41] (s' := ⟨none, [pick (bodyOf Tryz.f96) [1, 0, 1, 0, 0, 1, 1, 0, 0, 1, 1, 1]], [(1, [pick (bodyOf Tryz.f96) [1, 0, 1, 0, 0, 1, 1, 1], pick (bodyOf Tryz.f96) [1, 0, 1, 0]]), (0, [pick (bodyOf Tryz.f96) [1, 1]])], sl 50 [(0, c1 (vS s_)), (6, c1 (vi (s_.size : Int))), (7, c1 (vi s1)), (41, c1 (vB (decide (c9 > 57))))], []⟩) ?_
 refine ifE hb 0 [41] [] hq (fun hq _ => ?_) (fun hq _ => ?_)
 exact retE hb 5 (he1 _ (injO hq))
 exact backE hb 7 [0, 6, 7] [] 0 (hn1 _ (injO hq)) trivial
 refine ifE hb 5 [23, 24, 25, 26] [] hq (fun hq _ => ?_) (fun hq _ => ?_)
 refine ifE hb 3 [28, 29] [] hq (fun hq _ => ?_) (fun hq _ => ?_)
 refine cpE hb 13 [0, 6, 7, 41] (s' := ⟨none, [pick (bodyOf Tryz.f96) [1, 0, 1, 0, 0, 1, 1, 0, 0, 1, 1, 1]], [(1, [pick (bodyOf Tryz.f96) [1, 0, 1, 0, 0, 1, 1, 1], pick (bodyOf Tryz.f96) [1, 0, 1, 0]]), (0, [pick (bodyOf Tryz.f96) [1, 1]])], sl 50 [(0, c1 (vS s_)), (6, c1 (vi (s_.size : Int))), (7, c1 (vi s1)), (41, c1 (vB true))], []⟩) ?_
 exact retE hb 5 (he1 _ (injO hq))
 refine sidxE hb 2 hq fun c13 hc13 hq => ?_
 refine ifE hb 3 [33, 34, 35] [] hq (fun hq _ => ?_) (fun hq _ => ?_)
 refine cpE hb 7 [0, 6, 7, 41] (s' := ⟨none, [pick (bodyOf Tryz.f96) [1, 0, 1, 0, 0, 1, 1, 0, 0, 1, 1, 1]], [(1, [pick (bodyOf Tryz.f96) [1, 0, 1, 0, 0, 1, 1, 1], pick (bodyOf Tryz.f96) [1, 0, 1, 0]]), (0, [pick (bodyOf Tryz.f96) [1, 1]])], sl 50 [(0, c1 (vS s_)), (6, c1 (vi (s_.size : Int))), (7, c1 (vi s1)), (41, c1 (vB true))], []⟩) ?_
 exact retE hb 5 (he1 _ (injO hq))
 refine sidxE hb 2 hq fun c15 hc15 hq => ?_
 refine cpE hb 4 [0, 6, 7, 41] (s' := ⟨none, [pick (bodyOf Tryz.f96) [1, 0, 1, 0, 0, 1, 1, 0, 0, 1, 1, 1]], [(1, [pick (bodyOf Tryz.f96) [1, 0, 1, 0, 0, 1, 1, 1], pick (bodyOf Tryz.f96) [1, 0, 1, 0]]), (0, [pick (bodyOf Tryz.f96) [1, 1]])], sl 50 [(0, c1 (vS s_)), (6, c1 (vi (s_.size : Int))), (7, c1 (vi s1)), (41, c1 (vB (decide (c15 > 57))))], []⟩) ?_
 refine ifE hb 0 [41] [] hq (fun hq _ => ?_) (fun hq _ => ?_)
 exact retE hb 5 (he1 _ (injO hq))
 exact backE hb 7 [0, 6, 7] [] 0 (hn1 _ (injO hq)) trivial
 exact backE hb 23 [0, 6, 7] [] 0 (hn1 _ (injO hq)) trivial
 exact backE hb 31 [0, 6, 7] [] 0 (hn1 _ (injO hq)) trivial
 refine ifE hb 7 [44, 45] [] hq (fun hq _ => ?_) (fun hq _ => ?_)
 exact retE hb 6 (he1 _ (injO hq))
 exact retE hb 6 (he1 _ (injO hq))
noncomputable def gQ6y  (t_ : Ty) : Option (Bool) :=
 bif (decide (t_.kind = 4)) then bif (decide ((t_.elems.length : Int) = 1)) then some (decide ((t_.names.length : Int) = 0)) else some (false) else bif (decide (t_.kind = 5)) then bif (decide ((t_.elems.length : Int) = 1)) then some (decide ((t_.names.length : Int) = 0)) else some (false) else bif (decide (t_.kind = 6)) then some (decide ((t_.elems.length : Int) = (t_.names.length : Int))) else bif (decide (t_.kind ≥ 0)) then bif (decide (t_.kind ≤ 3)) then some (decide ((IntKind.i64.wrap ((t_.elems.length : Int) + (t_.names.length : Int))) = 0)) else some (false) else some (false)
theorem gQ6z (hb : Base E E0 G) (he : ∀ w, E w → EnvV w)   (t_ : Ty) : ∀ r_ : Bool, gQ6y t_ = some r_ →
 Pure E E0 Tryz.prog 133 [.agg (aT t_)] (c1 (vB r_)) := by
 refine fnE hb Tryz.func133 rfl fun r_ hq => ?_
 refine ifE hb 18 [5, 6] [] hq (fun hq _ => ?_) (fun hq _ => ?_)
 refine ifE hb 10 [11, 12] [] hq (fun hq _ => ?_) (fun hq _ => ?_)
 exact retE hb 7 (injO hq).symm
 exact retE hb 7 (injO hq).symm
 refine ifE hb 5 [5, 7] [] hq (fun hq _ => ?_) (fun hq _ => ?_)
 refine ifE hb 8 [11, 12] [] hq (fun hq _ => ?_) (fun hq _ => ?_)
 exact retE hb 7 (injO hq).symm
 exact retE hb 7 (injO hq).symm
 refine ifE hb 6 [18, 19] [] hq (fun hq _ => ?_) (fun hq _ => ?_)
 exact retE hb 12 (injO hq).symm
 refine ifE hb 9 [29, 30] [] hq (fun hq _ => ?_) (fun hq _ => ?_)
 refine ifE hb 5 [33, 34, 35] [] hq (fun hq _ => ?_) (fun hq _ => ?_)
 exact retE hb 11 (injO hq).symm
 exact retE hb 11 (injO hq).symm
 exact retE hb 16 (injO hq).symm
noncomputable def gQ6n (r_types_check : Ty → Int → Option (Int)) (t_ : Ty) (level_ : Int) (s2 : Int) : Option ((Int) ⊕ ((Int) ⊕ (Int))) :=
 bif (decide (s2 < (t_.elems.length : Int))) then (idx t_.elems s2).bind fun x12 => (r_types_check x12 (IntKind.i64.wrap (level_ + 1))).bind fun y13 => bif (!decide (y13 = 0)) then some (.inr (.inr (y13))) else some (.inl (IntKind.i64.wrap (s2 + 1))) else some (.inr (.inr (0)))
noncomputable def gQ6m (r_types_check : Ty → Int → Option (Int)) (t_ : Ty) (level_ : Int) (s1 : Int) : Option ((Int) ⊕ (Int)) :=
 bif (decide (s1 < (t_.names.length : Int))) then (idx t_.names s1).bind fun x5 => (gQ00 x5).bind fun y6 => bif (!y6) then some (.inr (7)) else bif (decide (s1 > 0)) then (idx t_.names (IntKind.i64.wrap (s1 - 1))).bind fun x9 => bif (Op.bytesLess x5.toList x9.toList || decide (x5 = x9)) then some (.inr (1)) else some (.inl (IntKind.i64.wrap (s1 + 1))) else some (.inl (IntKind.i64.wrap (s1 + 1))) else loopO (gQ6n r_types_check t_ level_) 0
noncomputable def gQ6l (r_types_check : Ty → Int → Option (Int)) (t_ : Ty) (level_ : Int) : Option (Int) :=
 bif (decide (level_ > 32)) then some (4) else (gQ6y t_).bind fun y2 => bif (!y2) then some (1) else loopO (gQ6m r_types_check t_ level_) 0
theorem gQ6o (hb : Base E E0 G) (he : ∀ w, E w → EnvV w) (r_types_check : Ty → Int → Option (Int)) (hr_types_check : ∀ (a0 : Ty) (a1 : Int) (r : Int), r_types_check a0 a1 = some r → Pure E E0 Tryz.prog 97 [.agg (aT a0), .cell (vi a1)] (c1 (vi r))) (t_ : Ty) (level_ : Int) : ∀ r_ : Int, gQ6l r_types_check t_ level_ = some r_ →
 Pure E E0 Tryz.prog 97 [.agg (aT t_), .cell (vi level_)] (c1 (vi r_)) := by
 refine fnE hb Tryz.func97 rfl fun r_ hq => ?_
 refine ifE hb 11 [11] [] hq (fun hq _ => ?_) (fun hq _ => ?_)
 exact retE hb 5 (injO hq).symm
 refine callE hb 6 hq (gQ6z hb he t_) fun y2 hy2 hq => ?_
 refine ifE hb 2 [14] [] hq (fun hq _ => ?_) (fun hq _ => ?_)
 exact retE hb 5 (injO hq).symm
 refine cpE hb 11 [1, 2, 16, 17, 18] (s' := ⟨none, [pick (bodyOf Tryz.f97) [1, 1, 1, 0, 1, 0]], [(0, [pick (bodyOf Tryz.f97) [1, 1, 1, 1]])], sl 54 [(1, c1 (vi level_)), (2, pt 0), (16, c1 (vL flS t_.names)), (17, c1 (vi (t_.names.length : Int))), (18, c1 (vi 0))], [bx (aT t_)]⟩) ?_
 refine loopE hb 0 (gQ6m r_types_check t_ level_) (fun s1 => sl 54 [(1, c1 (vi level_)), (2, pt 0), (16, c1 (vL flS t_.names)), (17, c1 (vi (t_.names.length : Int))), (18, c1 (vi s1))]) (fun s1 => [bx (aT t_)]) [1, 2, 16, 17, 18] [] 1 (s0 := 0) ⟨(by kernel_rfl), trivial⟩ hq (fun s1 x1 hq hn1 he1 => ?_)
 refine ifE hb 5 [19] [] hq (fun hq _ => ?_) (fun hq _ => ?_)
 refine idxE hb flS 7 hq fun x5 hx5 hq => ?_
 refine callE hb 8 hq (gQ02 hb he x5) fun y6 hy6 hq => ?_
 refine ifE hb 2 [25] [] hq (fun hq _ => ?_) (fun hq _ => ?_)
 exact retE hb 5 (he1 _ (injO hq))
 refine ifE hb 7 [27, 28] [] hq (fun hq _ => ?_) (fun hq _ => ?_)
 refine idxE hb flS 5 hq fun x9 hx9 hq => ?_
 refine ifE hb 4 [36, 37] [] hq (fun hq _ => ?_) (fun hq _ => ?_)
 refine cpE hb 2 [] (s' := ⟨none, [pick (bodyOf Tryz.f97) [1, 1, 1, 0, 1, 0, 0, 1, 1, 0, 0, 1, 1, 1, 0, 0], pick (bodyOf Tryz.f97) [1, 1, 1, 0, 1, 0, 0, 1, 1, 0, 0, 1, 1, 1, 0, 1]], [(1, [pick (bodyOf Tryz.f97) [1, 1, 1, 0, 1, 0, 0, 1, 1, 1], pick (bodyOf Tryz.f97) [1, 1, 1, 0, 1, 0]]), (0, [pick (bodyOf Tryz.f97) [1, 1, 1, 1]])], sl 54 [], [bx (aT t_)]⟩) ?_
 exact retE hb 3 (he1 _ (injO hq))
 refine cpE hb 3 [1, 2, 16, 17, 18] (s' := ⟨none, [pick (bodyOf Tryz.f97) [1, 1, 1, 0, 1, 0, 0, 1, 1, 1], pick (bodyOf Tryz.f97) [1, 1, 1, 0, 1, 0]], [(0, [pick (bodyOf Tryz.f97) [1, 1, 1, 1]])], sl 54 [(1, c1 (vi level_)), (2, pt 0), (16, c1 (vL flS t_.names)), (17, c1 (vi (t_.names.length : Int))), (18, c1 (vi s1))], [bx (aT t_)]⟩) ?_
 exact backE hb 4 [1, 2, 16, 17, 18] [] 1 (hn1 _ (injO hq)) ⟨(by kernel_rfl), trivial⟩
 exact backE hb 17 [1, 2, 16, 17, 18] [] 1 (hn1 _ (injO hq)) ⟨(by kernel_rfl), trivial⟩
 refine loopE hb 11 (gQ6n r_types_check t_ level_) (fun s2 => sl 54 [(1, c1 (vi level_)), (40, c1 (vL flT t_.elems)), (41, c1 (vi (t_.elems.length : Int))), (42, c1 (vi s2))]) (fun s2 => [none]) [1, 40, 41, 42] [0] 1 (s0 := 0) ⟨rfl, trivial⟩ hq (fun s2 x2 hq hn2 he2 => ?_)
 refine ifE hb 5 [43] [] hq (fun hq _ => ?_) (fun hq _ => ?_)
 refine idxE hb flT 6 hq fun x12 hx12 hq => ?_
 refine callE hb 9 hq (hr_types_check x12 (IntKind.i64.wrap (level_ + 1))) fun y13 hy13 hq => ?_
 refine ifE hb 7 [51] [] hq (fun hq _ => ?_) (fun hq _ => ?_)
 exact retE hb 6 (he1 _ ((he2 _ (injO hq)).symm))
 exact backE hb 7 [1, 40, 41, 42] [] 1 (hn2 _ (injO hq)) ⟨rfl, trivial⟩
 exact retE hb 6 (he1 _ ((he2 _ (injO hq)).symm))
noncomputable def tQ8v (rec : Ty → Int → Option (Int)) (a : Ty) (b : Int) : Option (Int) :=
 gQ6l (fun a0 a1 => rec a0 a1) a b
noncomputable def tQ8t (a0 : Ty) (a1 : Int) : Option (Int) := tieF relT wfT tQ8v a0 a1
theorem tQ8u (hb : Base E E0 G) (he : ∀ w, E w → EnvV w) (a0 : Ty) (a1 : Int) (r : Int) (hq : tQ8t a0 a1 = some r) : Pure E E0 Tryz.prog 97 [.agg (aT a0), .cell (vi a1)] (c1 (vi r)) :=
 tieF_ok (C := fun a b r => Pure E E0 Tryz.prog 97 [.agg (aT a), .cell (vi b)] (c1 (vi r))) (fun rec hr a b r hq => gQ6o hb he (fun a0 a1 => rec a0 a1) (fun a0 a1 r e => hr a0 a1 r e) a b r hq) a0 a1 r hq
noncomputable def gQ6b  (t_ : Ty) : Option (Int) :=
 (tQ8t t_ 1).bind fun y1 => some (y1)
theorem gQ6c (hb : Base E E0 G) (he : ∀ w, E w → EnvV w)   (t_ : Ty) : ∀ r_ : Int, gQ6b t_ = some r_ →
 Pure E E0 Tryz.prog 47 [.agg (aT t_)] (c1 (vi r_)) := by
 refine fnE hb Tryz.func47 rfl fun r_ hq => ?_
 refine callE hb 8 hq (tQ8u hb he t_ 1) fun y1 hy1 hq => ?_
 exact retE hb 2 (injO hq).symm
noncomputable def gQ4j  (a_ : AttrG) (last_ : ByteArray) (first_ : Bool) : Option (Int) :=
 (gQ00 a_.name).bind fun y1 => bif (!y1) then some (7) else bif (!first_) then bif (Op.bytesLess a_.name.toList last_.toList || decide (a_.name = last_)) then some (1) else (gQ6b a_.type_).bind fun y5 => bif (!decide (y5 = 0)) then some (y5) else bif (decide (a_.mode < 1)) then some (1) else bif (decide (a_.mode > 4)) then some (1) else bif a_.volatile then bif (decide (a_.mode < 3)) then some (1) else some (0) else some (0) else (gQ6b a_.type_).bind fun y11 => bif (!decide (y11 = 0)) then some (y11) else bif (decide (a_.mode < 1)) then some (1) else bif (decide (a_.mode > 4)) then some (1) else bif a_.volatile then bif (decide (a_.mode < 3)) then some (1) else some (0) else some (0)
theorem gQ4k (hb : Base E E0 G) (he : ∀ w, E w → EnvV w)   (a_ : AttrG) (last_ : ByteArray) (first_ : Bool) : ∀ r_ : Int, gQ4j a_ last_ first_ = some r_ →
 Pure E E0 Tryz.prog 95 [.agg [vS a_.name, vi a_.type_.kind, vL flT a_.type_.elems, vL flS a_.type_.names, vi a_.mode, vB a_.replace, vB a_.sensitive, vB a_.volatile], .cell (vS last_), .cell (vB first_)] (c1 (vi r_)) := by
 refine fnE hb Tryz.func95 rfl fun r_ hq => ?_
 refine callE hb 10 hq (gQ02 hb he a_.name) fun y1 hy1 hq => ?_
 refine ifE hb 2 [11] [] hq (fun hq _ => ?_) (fun hq _ => ?_)
 exact retE hb 5 (injO hq).symm
 refine ifE hb 8 [13, 14] [] hq (fun hq _ => ?_) (fun hq _ => ?_)
 refine ifE hb 6 [18, 19] [] hq (fun hq _ => ?_) (fun hq _ => ?_)
 exact retE hb 5 (injO hq).symm
 refine callE hb 7 hq (gQ6c hb he a_.type_) fun y5 hy5 hq => ?_
 refine ifE hb 7 [24] [] hq (fun hq _ => ?_) (fun hq _ => ?_)
 exact retE hb 6 (injO hq).symm
 refine ifE hb 9 [28, 29] [] hq (fun hq _ => ?_) (fun hq _ => ?_)
 refine cpE hb 14 [42] (s' := ⟨none, [pick (bodyOf Tryz.f95) [1, 1, 1, 1, 0, 1], pick (bodyOf Tryz.f95) [1, 1, 1, 1, 1]], [], sl 43 [(42, c1 (vB true))], [bx [vS a_.name, vi a_.type_.kind, vL flT a_.type_.elems, vL flS a_.type_.names, vi a_.mode, vB a_.replace, vB a_.sensitive, vB a_.volatile]]⟩) ?_
 exact retE hb 5 (injO hq).symm
 refine ifE hb 5 [32, 33, 34] [] hq (fun hq _ => ?_) (fun hq _ => ?_)
 refine cpE hb 9 [42] (s' := ⟨none, [pick (bodyOf Tryz.f95) [1, 1, 1, 1, 0, 1], pick (bodyOf Tryz.f95) [1, 1, 1, 1, 1]], [], sl 43 [(42, c1 (vB true))], [bx [vS a_.name, vi a_.type_.kind, vL flT a_.type_.elems, vL flS a_.type_.names, vi a_.mode, vB a_.replace, vB a_.sensitive, vB a_.volatile]]⟩) ?_
 exact retE hb 5 (injO hq).symm
 refine ifE hb 3 [36, 37] [] hq (fun hq _ => ?_) (fun hq _ => ?_)
 refine cpE hb 6 [42] (s' := ⟨none, [pick (bodyOf Tryz.f95) [1, 1, 1, 1, 0, 1], pick (bodyOf Tryz.f95) [1, 1, 1, 1, 1]], [], sl 43 [(42, c1 (vB (decide (a_.mode < 3))))], [bx [vS a_.name, vi a_.type_.kind, vL flT a_.type_.elems, vL flS a_.type_.names, vi a_.mode, vB a_.replace, vB a_.sensitive, vB a_.volatile]]⟩) ?_
 refine ifE hb 0 [42] [] hq (fun hq _ => ?_) (fun hq _ => ?_)
 exact retE hb 5 (injO hq).symm
 exact retE hb 6 (injO hq).symm
 refine cpE hb 6 [42] (s' := ⟨none, [pick (bodyOf Tryz.f95) [1, 1, 1, 1, 0, 1], pick (bodyOf Tryz.f95) [1, 1, 1, 1, 1]], [], sl 43 [(42, c1 (vB false))], [bx [vS a_.name, vi a_.type_.kind, vL flT a_.type_.elems, vL flS a_.type_.names, vi a_.mode, vB a_.replace, vB a_.sensitive, vB a_.volatile]]⟩) ?_
 exact retE hb 6 (injO hq).symm
 refine callE hb 13 hq (gQ6c hb he a_.type_) fun y11 hy11 hq => ?_
 refine ifE hb 7 [24] [] hq (fun hq _ => ?_) (fun hq _ => ?_)
 exact retE hb 6 (injO hq).symm
 refine ifE hb 9 [28, 29] [] hq (fun hq _ => ?_) (fun hq _ => ?_)
 exact retE hb 19 (injO hq).symm
 refine ifE hb 5 [32, 33, 34] [] hq (fun hq _ => ?_) (fun hq _ => ?_)
 refine cpE hb 9 [42] (s' := ⟨none, [pick (bodyOf Tryz.f95) [1, 1, 1, 1, 0, 1], pick (bodyOf Tryz.f95) [1, 1, 1, 1, 1]], [], sl 43 [(42, c1 (vB true))], [bx [vS a_.name, vi a_.type_.kind, vL flT a_.type_.elems, vL flS a_.type_.names, vi a_.mode, vB a_.replace, vB a_.sensitive, vB a_.volatile]]⟩) ?_
 exact retE hb 5 (injO hq).symm
 refine ifE hb 3 [36, 37] [] hq (fun hq _ => ?_) (fun hq _ => ?_)
 refine cpE hb 6 [42] (s' := ⟨none, [pick (bodyOf Tryz.f95) [1, 1, 1, 1, 0, 1], pick (bodyOf Tryz.f95) [1, 1, 1, 1, 1]], [], sl 43 [(42, c1 (vB (decide (a_.mode < 3))))], [bx [vS a_.name, vi a_.type_.kind, vL flT a_.type_.elems, vL flS a_.type_.names, vi a_.mode, vB a_.replace, vB a_.sensitive, vB a_.volatile]]⟩) ?_
 refine ifE hb 0 [42] [] hq (fun hq _ => ?_) (fun hq _ => ?_)
 exact retE hb 5 (injO hq).symm
 exact retE hb 6 (injO hq).symm
 refine cpE hb 6 [42] (s' := ⟨none, [pick (bodyOf Tryz.f95) [1, 1, 1, 1, 0, 1], pick (bodyOf Tryz.f95) [1, 1, 1, 1, 1]], [], sl 43 [(42, c1 (vB false))], [bx [vS a_.name, vi a_.type_.kind, vL flT a_.type_.elems, vL flS a_.type_.names, vi a_.mode, vB a_.replace, vB a_.sensitive, vB a_.volatile]]⟩) ?_
 exact retE hb 6 (injO hq).symm
noncomputable def gQ4m (l_ : List AttrG) (s1 : Bool × Int × ByteArray) : Option ((Bool × Int × ByteArray) ⊕ (Int)) :=
 bif (decide (s1.2.1 < (l_.length : Int))) then (idx l_ s1.2.1).bind fun x2 => (gQ4j x2 s1.2.2 (decide (s1.2.1 = 0))).bind fun y3 => bif (!decide (y3 = 0)) then some (.inr (y3)) else bif s1.1 then bif (decide (x2.mode > 2)) then some (.inr (1)) else some (.inl (true, (IntKind.i64.wrap (s1.2.1 + 1)), x2.name)) else some (.inl (false, (IntKind.i64.wrap (s1.2.1 + 1)), x2.name)) else some (.inr (0))
noncomputable def gQ4l  (l_ : List AttrG) (configured_ : Bool) : Option (Int) :=
 loopO (gQ4m l_) (configured_, 0, eS)
theorem gQ4n (hb : Base E E0 G) (he : ∀ w, E w → EnvV w)   (l_ : List AttrG) (configured_ : Bool) : ∀ r_ : Int, gQ4l l_ configured_ = some r_ →
 Pure E E0 Tryz.prog 45 [.cell (vL flAttrG l_), .cell (vB configured_)] (c1 (vi r_)) := by
 refine fnE hb Tryz.func45 rfl fun r_ hq => ?_
 refine loopE hb 16 (gQ4m l_) (fun s1 => sl 33 [(1, c1 (vB s1.1)), (5, c1 (vS s1.2.2)), (9, c1 (vL flAttrG l_)), (10, c1 (vi (l_.length : Int))), (11, c1 (vi s1.2.1))]) (fun s1 => []) [1, 5, 9, 10, 11] [] 0 (s0 := (configured_, 0, eS)) trivial hq (fun s1 x1 hq hn1 he1 => ?_)
 refine ifE hb 5 [12] [] hq (fun hq _ => ?_) (fun hq _ => ?_)
 refine idxE hb flAttrG 7 hq fun x2 hx2 hq => ?_
 refine callE hb 12 hq (gQ4k hb he x2 s1.2.2 (decide (s1.2.1 = 0))) fun y3 hy3 hq => ?_
 refine ifE hb 7 [22] [] hq (fun hq _ => ?_) (fun hq _ => ?_)
 exact retE hb 6 (he1 _ (injO hq))
 refine ifE hb 7 [1, 24, 25] [] hq (fun hq _ => ?_) (fun hq _ => ?_)
 refine ifE hb 5 [28, 29] [] hq (fun hq _ => ?_) (fun hq _ => ?_)
 exact retE hb 5 (he1 _ (injO hq))
 exact backE hb 12 [1, 5, 9, 10, 11] [] 0 (hn1 _ (injO hq)) trivial
 exact backE hb 17 [1, 5, 9, 10, 11] [] 0 (hn1 _ (injO hq)) trivial
 exact retE hb 6 (he1 _ (injO hq))
noncomputable def gQ5p  (s_ : SchemaG) (i_ : Int) : Option (Int) :=
 (idx s_.nested i_).bind fun x1 => (gQ00 x1.name).bind fun y2 => bif (!y2) then some (7) else bif (decide (i_ > 0)) then (idx s_.nested (IntKind.i64.wrap (i_ - 1))).bind fun x5 => bif (Op.bytesLess x1.name.toList x5.name.toList || decide (x1.name = x5.name)) then some (1) else (gQ43 s_ x1.name).bind fun y7 => bif y7.2 then some (8) else bif (decide (x1.min < 0)) then some (1) else bif (decide (x1.max < x1.min)) then some (1) else bif (decide (x1.max > 256)) then some (1) else bif (decide ((x1.attrs.length : Int) > 64)) then some (14) else (gQ4l x1.attrs true).bind fun y13 => some (y13) else (gQ43 s_ x1.name).bind fun y14 => bif y14.2 then some (8) else bif (decide (x1.min < 0)) then some (1) else bif (decide (x1.max < x1.min)) then some (1) else bif (decide (x1.max > 256)) then some (1) else bif (decide ((x1.attrs.length : Int) > 64)) then some (14) else (gQ4l x1.attrs true).bind fun y20 => some (y20)
theorem gQ5q (hb : Base E E0 G) (he : ∀ w, E w → EnvV w)   (s_ : SchemaG) (i_ : Int) : ∀ r_ : Int, gQ5p s_ i_ = some r_ →
 Pure E E0 Tryz.prog 46 [.agg [vL flAttrG s_.attrs, vL flNestedG s_.nested], .cell (vi i_)] (c1 (vi r_)) := by
 refine fnE hb Tryz.func46 rfl fun r_ hq => ?_
 refine idxE hb flNestedG 10 hq fun x1 hx1 hq => ?_
 refine callE hb 9 hq (gQ02 hb he x1.name) fun y2 hy2 hq => ?_
 refine ifE hb 2 [16] [] hq (fun hq _ => ?_) (fun hq _ => ?_)
 exact retE hb 5 (injO hq).symm
 refine drawE hb mixed 4 12 [] ?_
 refine ifE hb 3 [18, 19] [] hq (fun hq _ => ?_) (fun hq _ => ?_)
 refine idxE hb flNestedG 6 hq fun x5 hx5 hq => ?_
 refine ifE hb 6 [29, 30] [] hq (fun hq _ => ?_) (fun hq _ => ?_)
 refine cpE hb 2 [] (s' := ⟨none, [pick (bodyOf Tryz.f46) [1, 1, 1, 0, 1, 0, 0], pick (bodyOf Tryz.f46) [1, 1, 1, 0, 1, 0, 1], pick (bodyOf Tryz.f46) [1, 1, 1, 1]], [], sl 61 [], [bx [vL flAttrG s_.attrs, vL flNestedG s_.nested], bx [vS x1.name, vi x1.min, vi x1.max, vL flAttrG x1.attrs, vB x1.replace]]⟩) ?_
 exact retE hb 3 (injO hq).symm
 refine cpE hb 4 [2, 5] (s' := ⟨none, [pick (bodyOf Tryz.f46) [1, 1, 1, 1, 0, 0], pick (bodyOf Tryz.f46) [1, 1, 1, 1, 0, 1], pick (bodyOf Tryz.f46) [1, 1, 1, 1, 1]], [], sl 61 [(2, pt 0), (5, pt 1)], [bx [vL flAttrG s_.attrs, vL flNestedG s_.nested], bx [vS x1.name, vi x1.min, vi x1.max, vL flAttrG x1.attrs, vB x1.replace]]⟩) ?_
 refine callE hb 4 hq (gQ45 hb he s_ x1.name) fun y7 hy7 hq => ?_
 refine ifE hb 11 [7, 37, 38] [] hq (fun hq _ => ?_) (fun hq _ => ?_)
 exact retE hb 5 (injO hq).symm
 refine ifE hb 9 [41, 42] [] hq (fun hq _ => ?_) (fun hq _ => ?_)
 exact retE hb 17 (injO hq).symm
 refine ifE hb 7 [47, 48, 49] [] hq (fun hq _ => ?_) (fun hq _ => ?_)
 exact retE hb 10 (injO hq).symm
 refine ifE hb 5 [52, 53] [] hq (fun hq _ => ?_) (fun hq _ => ?_)
 exact retE hb 5 (injO hq).symm
 refine ifE hb 10 [57] [] hq (fun hq _ => ?_) (fun hq _ => ?_)
 exact retE hb 5 (injO hq).symm
 refine callE hb 6 hq (gQ4n hb he x1.attrs true) fun y13 hy13 hq => ?_
 exact retE hb 2 (injO hq).symm
 refine callE hb 21 hq (gQ45 hb he s_ x1.name) fun y14 hy14 hq => ?_
 refine ifE hb 11 [7, 37, 38] [] hq (fun hq _ => ?_) (fun hq _ => ?_)
 refine cpE hb 2 [] (s' := ⟨none, [pick (bodyOf Tryz.f46) [1, 1, 1, 1, 0, 1, 1, 0, 0], pick (bodyOf Tryz.f46) [1, 1, 1, 1, 0, 1, 1, 0, 1], pick (bodyOf Tryz.f46) [1, 1, 1, 1, 1]], [], sl 61 [], [bx [vL flAttrG s_.attrs, vL flNestedG s_.nested], bx [vS x1.name, vi x1.min, vi x1.max, vL flAttrG x1.attrs, vB x1.replace], bx [vS y14.1.name, vi y14.1.type_.kind, vL flT y14.1.type_.elems, vL flS y14.1.type_.names, vi y14.1.mode, vB y14.1.replace, vB y14.1.sensitive, vB y14.1.volatile]]⟩) ?_
 exact retE hb 3 (injO hq).symm
 refine cpE hb 4 [5] (s' := ⟨none, [pick (bodyOf Tryz.f46) [1, 1, 1, 1, 1, 0, 0], pick (bodyOf Tryz.f46) [1, 1, 1, 1, 1, 0, 1], pick (bodyOf Tryz.f46) [1, 1, 1, 1, 1, 1]], [], sl 61 [(5, pt 1)], [bx [vL flAttrG s_.attrs, vL flNestedG s_.nested], bx [vS x1.name, vi x1.min, vi x1.max, vL flAttrG x1.attrs, vB x1.replace], bx [vS y14.1.name, vi y14.1.type_.kind, vL flT y14.1.type_.elems, vL flS y14.1.type_.names, vi y14.1.mode, vB y14.1.replace, vB y14.1.sensitive, vB y14.1.volatile]]⟩) ?_
 refine ifE hb 5 [41, 42] [] hq (fun hq _ => ?_) (fun hq _ => ?_)
 exact retE hb 17 (injO hq).symm
 refine ifE hb 7 [47, 48, 49] [] hq (fun hq _ => ?_) (fun hq _ => ?_)
 exact retE hb 10 (injO hq).symm
 refine ifE hb 5 [52, 53] [] hq (fun hq _ => ?_) (fun hq _ => ?_)
 exact retE hb 5 (injO hq).symm
 refine ifE hb 10 [57] [] hq (fun hq _ => ?_) (fun hq _ => ?_)
 exact retE hb 5 (injO hq).symm
 refine callE hb 6 hq (gQ4n hb he x1.attrs true) fun y20 hy20 hq => ?_
 exact retE hb 2 (injO hq).symm
noncomputable def gQ3x (s_ : SchemaG) (s1 : Int) : Option ((Int) ⊕ (Int)) :=
 bif (decide (s1 < (s_.nested.length : Int))) then (gQ5p s_ s1).bind fun y5 => bif (!decide (y5 = 0)) then some (.inr (y5)) else some (.inl (IntKind.i64.wrap (s1 + 1))) else (gQ43 s_ (⟨#[105, 100]⟩ : ByteArray)).bind fun y7 => bif (!y7.2) then some (.inr (12)) else bif (!decide (y7.1.mode = 3)) then some (.inr (1)) else bif (!decide (y7.1.type_.kind = 3)) then some (.inr (1)) else bif y7.1.volatile then some (.inr (1)) else (gQ4d s_).bind fun y12 => (gQ6b y12).bind fun y13 => some (.inr (y13))
noncomputable def gQ3w  (s_ : SchemaG) : Option (Int) :=
 bif (decide ((if (s_.nested.length : Int) > (s_.attrs.length : Int) then (s_.nested.length : Int) else (s_.attrs.length : Int)) > 64)) then some (14) else (gQ4l s_.attrs false).bind fun y2 => bif (!decide (y2 = 0)) then some (y2) else loopO (gQ3x s_) 0
theorem gQ3y (hb : Base E E0 G) (he : ∀ w, E w → EnvV w)   (s_ : SchemaG) : ∀ r_ : Int, gQ3w s_ = some r_ →
 Pure E E0 Tryz.prog 12 [.agg [vL flAttrG s_.attrs, vL flNestedG s_.nested]] (c1 (vi r_)) := by
 refine fnE hb Tryz.func12 rfl fun r_ hq => ?_
 refine ifE hb 17 [15] [] hq (fun hq _ => ?_) (fun hq _ => ?_)
 exact retE hb 5 (injO hq).symm
 refine callE hb 7 hq (gQ4n hb he s_.attrs false) fun y2 hy2 hq => ?_
 refine ifE hb 7 [20] [] hq (fun hq _ => ?_) (fun hq _ => ?_)
 exact retE hb 6 (injO hq).symm
 refine cpE hb 11 [1, 24, 25] (s' := ⟨none, [pick (bodyOf Tryz.f12) [1, 1, 1, 0, 1, 0]], [(0, [pick (bodyOf Tryz.f12) [1, 1, 1, 1]])], sl 58 [(1, pt 0), (24, c1 (vi (s_.nested.length : Int))), (25, c1 (vi 0))], [bx [vL flAttrG s_.attrs, vL flNestedG s_.nested]]⟩) ?_
 refine loopE hb 0 (gQ3x s_) (fun s1 => sl 58 [(1, pt 0), (24, c1 (vi (s_.nested.length : Int))), (25, c1 (vi s1))]) (fun s1 => [bx [vL flAttrG s_.attrs, vL flNestedG s_.nested]]) [1, 24, 25] [] 1 (s0 := 0) ⟨(by kernel_rfl), trivial⟩ hq (fun s1 x1 hq hn1 he1 => ?_)
 refine ifE hb 5 [26] [] hq (fun hq _ => ?_) (fun hq _ => ?_)
 refine callE hb 13 hq (gQ5q hb he s_ s1) fun y5 hy5 hq => ?_
 refine ifE hb 7 [32] [] hq (fun hq _ => ?_) (fun hq _ => ?_)
 exact retE hb 6 (he1 _ (injO hq))
 exact backE hb 7 [1, 24, 25] [] 1 (hn1 _ (injO hq)) ⟨(by kernel_rfl), trivial⟩
 refine callE hb 5 hq (gQ45 hb he s_ (⟨#[105, 100]⟩ : ByteArray)) fun y7 hy7 hq => ?_
 refine ifE hb 13 [41] [] hq (fun hq _ => ?_) (fun hq _ => ?_)
 exact retE hb 5 (he1 _ (injO hq))
 refine ifE hb 9 [44, 45] [] hq (fun hq _ => ?_) (fun hq _ => ?_)
 exact retE hb 15 (he1 _ (injO hq))
 refine ifE hb 6 [49, 50, 51] [] hq (fun hq _ => ?_) (fun hq _ => ?_)
 exact retE hb 9 (he1 _ (injO hq))
 refine ifE hb 4 [53, 54] [] hq (fun hq _ => ?_) (fun hq _ => ?_)
 exact retE hb 5 (he1 _ (injO hq))
 refine callE hb 5 hq (gQ4i hb he s_) fun y12 hy12 hq => ?_
 refine callE hb 0 hq (gQ6c hb he y12) fun y13 hy13 hq => ?_
 exact retE hb 2 (he1 _ (injO hq))
noncomputable def gQ3p (l_ : List AttrG) (s1 : Int × List Ty × List ByteArray) : Option ((Int × List Ty × List ByteArray) ⊕ (Ty)) :=
 bif (decide (s1.1 < (l_.length : Int))) then (idx l_ s1.1).bind fun x2 => (app 16 s1.2.2 [x2.name]).bind fun l3 => (idx l_ s1.1).bind fun x4 => (app 56 s1.2.1 [x4.type_]).bind fun l5 => some (.inl ((IntKind.i64.wrap (s1.1 + 1)), l5, l3)) else some (.inr (Ty.mk 6 s1.2.1 s1.2.2))
noncomputable def gQ3o  (l_ : List AttrG) : Option (Ty) :=
 loopO (gQ3p l_) (0, [], [])
theorem gQ3q (hb : Base E E0 G) (he : ∀ w, E w → EnvV w)   (l_ : List AttrG) : ∀ r_ : Ty, gQ3o l_ = some r_ →
 Pure E E0 Tryz.prog 88 [.cell (vL flAttrG l_)] (.one (.agg (aT r_))) := by
 refine fnE hb Tryz.func88 rfl fun r_ hq => ?_
 refine ownSE hb 16 1 1 3 (cs := [vi 6, vN, vN]) (by kernel_rfl) ?_
 refine ownSE hb 0 1 2 1 (cs := [vi 6, vO flT 2 [], vN]) (by kernel_rfl) ?_
 refine loopE hb 0 (gQ3p l_) (fun s1 => sl 33 [(0, c1 (vL flAttrG l_)), (2, pt 0), (3, pt 1), (4, c1 (vi s1.1))]) (fun s1 => [bx [vi 0, vN, vN], bx [vi 6, vO flT 2 s1.2.1, vO flS 3 s1.2.2], some (arO true flT.sz 0 (flT.f s1.2.1)), some (arO true flS.sz 0 (flS.f s1.2.2))]) [0, 2, 3, 4] [] 4 (s0 := (0, [], [])) ⟨(by kernel_rfl), (by kernel_rfl), (under_arO _ _ _ _ _), (under_arO _ _ _ _ _), trivial⟩ hq (fun s1 x1 hq hn1 he1 => ?_)
 refine ifE hb 8 [9] [] hq (fun hq _ => ?_) (fun hq _ => ?_)
 refine drawE hb mixed 5 8 [] ?_
 refine idxE hb flAttrG 4 hq fun x2 hx2 hq => ?_
 refine appOwnE flS hb 4 3 true 0 (flS.one x2.name) hq fun l3 hl3 hq => ?_
 refine drawE hb mixed 3 8 [] ?_
 refine idxE hb flAttrG 4 hq fun x4 hx4 hq => ?_
 refine appOwnE flT hb 4 2 true 0 (flT.one x4.type_) hq fun l5 hl5 hq => ?_
 refine cpE hb 4 [0, 2, 3, 4] (s' := ⟨none, [pick (bodyOf Tryz.f88) [1, 1, 0, 1, 0, 0, 1, 1], pick (bodyOf Tryz.f88) [1, 1, 0, 1, 0]], [(0, [pick (bodyOf Tryz.f88) [1, 1, 1]])], sl 33 [(0, c1 (vL flAttrG l_)), (2, pt 0), (3, pt 1), (4, c1 (vi s1.1))], [bx [vi 0, vN, vN], bx [vi 6, vO flT 2 l5, vO flS 3 l3], some (arO true flT.sz 0 (flT.f l5)), some (arO true flS.sz 0 (flS.f l3))]⟩) ?_
 exact backE hb 5 [0, 2, 3, 4] [] 4 (hn1 _ (injO hq)) ⟨(by kernel_rfl), (by kernel_rfl), (under_arO _ _ _ _ _), (under_arO _ _ _ _ _), trivial⟩
 refine markE hb 7 2 true (sz := flT.sz) (fr := 0) (cs := flT.f s1.2.1) (by kernel_rfl) (Nat.zero_le _) ?_
 refine cellSE hb 0 0 1 (cs := [vi 6, vO flT 2 s1.2.1, vO flS 3 s1.2.2]) (c := vO flT 2 s1.2.1) (conv_own flT (nb := true) (id := 2) (xs := s1.2.1) (by kernel_rfl)) (by kernel_rfl) ?_
 refine markE hb 0 3 true (sz := flS.sz) (fr := 0) (cs := flS.f s1.2.2) (by kernel_rfl) (Nat.zero_le _) ?_
 refine cellSE hb 0 0 2 (cs := [vi 6, vL flT s1.2.1, vO flS 3 s1.2.2]) (c := vO flS 3 s1.2.2) (conv_own flS (nb := true) (id := 3) (xs := s1.2.2) (by kernel_rfl)) (by kernel_rfl) ?_
 exact retE hb 0 (he1 _ (injO hq))
noncomputable def gQ3f (s_ : SchemaG) (s1 : Int × Int × List Ty × List ByteArray) : Option ((Int × Int × List Ty × List ByteArray) ⊕ (Ty)) :=
 bif (decide (s1.1 < (s_.attrs.length : Int))) then bif (decide (s1.2.1 = (s_.nested.length : Int))) then (idx s_.attrs s1.1).bind fun x3 => (app 16 s1.2.2.2 [x3.name]).bind fun l4 => (idx s_.attrs s1.1).bind fun x5 => (app 56 s1.2.2.1 [x5.type_]).bind fun l6 => some (.inl ((IntKind.i64.wrap (s1.1 + 1)), s1.2.1, l6, l4)) else (idx s_.attrs s1.1).bind fun x7 => (idx s_.nested s1.2.1).bind fun x8 => bif (Op.bytesLess x7.name.toList x8.name.toList) then (idx s_.attrs s1.1).bind fun x10 => (app 16 s1.2.2.2 [x10.name]).bind fun l11 => (idx s_.attrs s1.1).bind fun x12 => (app 56 s1.2.2.1 [x12.type_]).bind fun l13 => some (.inl ((IntKind.i64.wrap (s1.1 + 1)), s1.2.1, l13, l11)) else (idx s_.nested s1.2.1).bind fun x14 => (app 16 s1.2.2.2 [x14.name]).bind fun l15 => (idx s_.nested s1.2.1).bind fun x16 => (gQ3o x16.attrs).bind fun y17 => (app 56 s1.2.2.1 [(Ty.mk 4 [y17] [])]).bind fun l18 => some (.inl (s1.1, (IntKind.i64.wrap (s1.2.1 + 1)), l18, l15)) else bif (decide (s1.2.1 < (s_.nested.length : Int))) then bif (decide (s1.2.1 = (s_.nested.length : Int))) then (idx s_.attrs s1.1).bind fun x21 => (app 16 s1.2.2.2 [x21.name]).bind fun l22 => (idx s_.attrs s1.1).bind fun x23 => (app 56 s1.2.2.1 [x23.type_]).bind fun l24 => some (.inl ((IntKind.i64.wrap (s1.1 + 1)), s1.2.1, l24, l22)) else (idx s_.nested s1.2.1).bind fun x25 => (app 16 s1.2.2.2 [x25.name]).bind fun l26 => (idx s_.nested s1.2.1).bind fun x27 => (gQ3o x27.attrs).bind fun y28 => (app 56 s1.2.2.1 [(Ty.mk 4 [y28] [])]).bind fun l29 => some (.inl (s1.1, (IntKind.i64.wrap (s1.2.1 + 1)), l29, l26)) else some (.inr (Ty.mk 6 s1.2.2.1 s1.2.2.2))
noncomputable def gQ3e  (s_ : SchemaG) : Option (Ty) :=
 loopO (gQ3f s_) (0, 0, [], [])
theorem gQ3g (hb : Base E E0 G) (he : ∀ w, E w → EnvV w)   (s_ : SchemaG) : ∀ r_ : Ty, gQ3e s_ = some r_ →
 Pure E E0 Tryz.prog 41 [.agg [vL flAttrG s_.attrs, vL flNestedG s_.nested]] (.one (.agg (aT r_))) := by
 refine fnE hb Tryz.func41 rfl fun r_ hq => ?_
 refine ownSE hb 18 2 1 3 (cs := [vi 6, vN, vN]) (by kernel_rfl) ?_
 refine ownSE hb 0 2 2 1 (cs := [vi 6, vO flT 3 [], vN]) (by kernel_rfl) ?_
 refine loopE hb 0 (gQ3f s_) (fun s1 => sl 98 [(1, pt 0), (2, pt 1), (3, pt 2), (4, c1 (vi s1.1)), (5, c1 (vi s1.2.1))]) (fun s1 => [bx [vL flAttrG s_.attrs, vL flNestedG s_.nested], bx [vi 0, vN, vN], bx [vi 6, vO flT 3 s1.2.2.1, vO flS 4 s1.2.2.2], some (arO true flT.sz 0 (flT.f s1.2.2.1)), some (arO true flS.sz 0 (flS.f s1.2.2.2))]) [1, 2, 3, 4, 5] [] 5 (s0 := (0, 0, [], [])) ⟨(by kernel_rfl), (by kernel_rfl), (by kernel_rfl), (under_arO _ _ _ _ _), (under_arO _ _ _ _ _), trivial⟩ hq (fun s1 x1 hq hn1 he1 => ?_)
 refine ifE hb 9 [11, 12] [] hq (fun hq hc1 => ?_) (fun hq hc1 => ?_)
 refine drawE hb mixed 11 24 [] ?_
 refine ifE hb 6 [23, 24] [] hq (fun hq _ => ?_) (fun hq _ => ?_)
 refine drawE hb mixed 25 9 [] ?_
 refine idxE hb flAttrG 5 hq fun x3 hx3 hq => ?_
 refine appOwnE flS hb 4 4 true 0 (flS.one x3.name) hq fun l4 hl4 hq => ?_
 refine cpE hb 4 [1, 2, 3, 4, 5] (s' := ⟨none, [pick (bodyOf Tryz.f41) [1, 1, 1, 0, 0, 0, 1, 0, 1, 0, 1, 0], pick (bodyOf Tryz.f41) [1, 1, 1, 0, 0, 0, 1, 0, 1, 0, 1, 1]], [(1, [pick (bodyOf Tryz.f41) [1, 1, 1, 0, 0]]), (0, [pick (bodyOf Tryz.f41) [1, 1, 1, 1]])], sl 98 [(1, pt 0), (2, pt 1), (3, pt 2), (4, c1 (vi s1.1)), (5, c1 (vi s1.2.1))], [bx [vL flAttrG s_.attrs, vL flNestedG s_.nested], bx [vi 0, vN, vN], bx [vi 6, vO flT 3 s1.2.2.1, vO flS 4 l4], some (arO true flT.sz 0 (flT.f s1.2.2.1)), some (arO true flS.sz 0 (flS.f l4))]⟩) ?_
 refine drawE hb mixed 0 9 [] ?_
 refine idxE hb flAttrG 5 hq fun x5 hx5 hq => ?_
 refine appOwnE flT hb 4 3 true 0 (flT.one x5.type_) hq fun l6 hl6 hq => ?_
 exact backE hb 9 [1, 2, 3, 4, 5] [] 5 (hn1 _ (injO hq)) ⟨(by kernel_rfl), (by kernel_rfl), (by kernel_rfl), (under_arO _ _ _ _ _), (under_arO _ _ _ _ _), trivial⟩
 refine knE hb 6 [29, 30] [] (b := (decide (s1.1 < (s_.attrs.length : Int)))) (v := true) hc1 ?_
 refine idxE hb flAttrG 3 hq fun x7 hx7 hq => ?_
 refine idxE hb flNestedG 5 hq fun x8 hx8 hq => ?_
 refine cpE hb 7 [1, 2, 3, 4, 5, 45] (s' := ⟨none, [pick (bodyOf Tryz.f41) [1, 1, 1, 0, 0, 0, 1, 0, 1]], [(1, [pick (bodyOf Tryz.f41) [1, 1, 1, 0, 0]]), (0, [pick (bodyOf Tryz.f41) [1, 1, 1, 1]])], sl 98 [(1, pt 0), (2, pt 1), (3, pt 2), (4, c1 (vi s1.1)), (5, c1 (vi s1.2.1)), (45, c1 (vB (Op.bytesLess x7.name.toList x8.name.toList)))], [bx [vL flAttrG s_.attrs, vL flNestedG s_.nested], bx [vi 0, vN, vN], bx [vi 6, vO flT 3 s1.2.2.1, vO flS 4 s1.2.2.2], some (arO true flT.sz 0 (flT.f s1.2.2.1)), some (arO true flS.sz 0 (flS.f s1.2.2.2))]⟩) ?_
 refine ifE hb 0 [45] [] hq (fun hq _ => ?_) (fun hq _ => ?_)
 refine drawE hb mixed 2 9 [] ?_
 refine idxE hb flAttrG 5 hq fun x10 hx10 hq => ?_
 refine appOwnE flS hb 4 4 true 0 (flS.one x10.name) hq fun l11 hl11 hq => ?_
 refine drawE hb mixed 4 9 [] ?_
 refine idxE hb flAttrG 5 hq fun x12 hx12 hq => ?_
 refine appOwnE flT hb 4 3 true 0 (flT.one x12.type_) hq fun l13 hl13 hq => ?_
 refine cpE hb 3 [1, 2, 3, 4, 5] (s' := ⟨none, [pick (bodyOf Tryz.f41) [1, 1, 1, 0, 0, 0, 1, 0, 1, 0, 1, 1]], [(1, [pick (bodyOf Tryz.f41) [1, 1, 1, 0, 0]]), (0, [pick (bodyOf Tryz.f41) [1, 1, 1, 1]])], sl 98 [(1, pt 0), (2, pt 1), (3, pt 2), (4, c1 (vi s1.1)), (5, c1 (vi s1.2.1))], [bx [vL flAttrG s_.attrs, vL flNestedG s_.nested], bx [vi 0, vN, vN], bx [vi 6, vO flT 3 l13, vO flS 4 l11], some (arO true flT.sz 0 (flT.f l13)), some (arO true flS.sz 0 (flS.f l11))]⟩) ?_
 exact backE hb 6 [1, 2, 3, 4, 5] [] 5 (hn1 _ (injO hq)) ⟨(by kernel_rfl), (by kernel_rfl), (by kernel_rfl), (under_arO _ _ _ _ _), (under_arO _ _ _ _ _), trivial⟩
 refine drawE hb mixed 2 9 [] ?_
 refine idxE hb flNestedG 5 hq fun x14 hx14 hq => ?_
 refine appOwnE flS hb 4 4 true 0 (flS.one x14.name) hq fun l15 hl15 hq => ?_
 refine drawE hb mixed 4 12 [] ?_
 refine idxE hb flNestedG 5 hq fun x16 hx16 hq => ?_
 refine callE hb 2 hq (gQ3q hb he x16.attrs) fun y17 hy17 hq => ?_
 refine appOwnE flT hb 4 3 true 0 ((flT.one (Ty.mk 4 [y17] [])).trans (congrArg (fun z => [pI .i64 4, PV.sl false 1 z, pL flS []]) (flT.one y17))) hq fun l18 hl18 hq => ?_
 refine cpE hb 3 [1, 2, 3, 4, 5] (s' := ⟨none, [pick (bodyOf Tryz.f41) [1, 1, 1, 0, 0, 0, 1, 0, 1, 1, 1, 1]], [(1, [pick (bodyOf Tryz.f41) [1, 1, 1, 0, 0]]), (0, [pick (bodyOf Tryz.f41) [1, 1, 1, 1]])], sl 98 [(1, pt 0), (2, pt 1), (3, pt 2), (4, c1 (vi s1.1)), (5, c1 (vi s1.2.1))], [bx [vL flAttrG s_.attrs, vL flNestedG s_.nested], bx [vi 0, vN, vN], bx [vi 6, vO flT 3 l18, vO flS 4 l15], some (arO true flT.sz 0 (flT.f l18)), some (arO true flS.sz 0 (flS.f l15))]⟩) ?_
 exact backE hb 6 [1, 2, 3, 4, 5] [] 5 (hn1 _ (injO hq)) ⟨(by kernel_rfl), (by kernel_rfl), (by kernel_rfl), (under_arO _ _ _ _ _), (under_arO _ _ _ _ _), trivial⟩
 refine ifE hb 7 [17, 18] [] hq (fun hq _ => ?_) (fun hq _ => ?_)
 refine drawE hb mixed 4 24 [] ?_
 refine ifE hb 6 [23, 24] [] hq (fun hq _ => ?_) (fun hq _ => ?_)
 refine drawE hb mixed 25 9 [] ?_
 refine idxE hb flAttrG 5 hq fun x21 hx21 hq => ?_
 refine appOwnE flS hb 4 4 true 0 (flS.one x21.name) hq fun l22 hl22 hq => ?_
 refine cpE hb 4 [1, 2, 3, 4, 5] (s' := ⟨none, [pick (bodyOf Tryz.f41) [1, 1, 1, 0, 0, 0, 1, 0, 1, 0, 1, 0], pick (bodyOf Tryz.f41) [1, 1, 1, 0, 0, 0, 1, 0, 1, 0, 1, 1]], [(1, [pick (bodyOf Tryz.f41) [1, 1, 1, 0, 0]]), (0, [pick (bodyOf Tryz.f41) [1, 1, 1, 1]])], sl 98 [(1, pt 0), (2, pt 1), (3, pt 2), (4, c1 (vi s1.1)), (5, c1 (vi s1.2.1))], [bx [vL flAttrG s_.attrs, vL flNestedG s_.nested], bx [vi 0, vN, vN], bx [vi 6, vO flT 3 s1.2.2.1, vO flS 4 l22], some (arO true flT.sz 0 (flT.f s1.2.2.1)), some (arO true flS.sz 0 (flS.f l22))]⟩) ?_
 refine drawE hb mixed 0 9 [] ?_
 refine idxE hb flAttrG 5 hq fun x23 hx23 hq => ?_
 refine appOwnE flT hb 4 3 true 0 (flT.one x23.type_) hq fun l24 hl24 hq => ?_
 exact backE hb 9 [1, 2, 3, 4, 5] [] 5 (hn1 _ (injO hq)) ⟨(by kernel_rfl), (by kernel_rfl), (by kernel_rfl), (under_arO _ _ _ _ _), (under_arO _ _ _ _ _), trivial⟩
 refine knE hb 6 [29, 30] [] (b := (decide (s1.1 < (s_.attrs.length : Int)))) (v := false) hc1 ?_
 refine cpE hb 17 [1, 2, 3, 4, 5, 45] (s' := ⟨none, [pick (bodyOf Tryz.f41) [1, 1, 1, 0, 0, 0, 1, 0, 1]], [(1, [pick (bodyOf Tryz.f41) [1, 1, 1, 0, 0]]), (0, [pick (bodyOf Tryz.f41) [1, 1, 1, 1]])], sl 98 [(1, pt 0), (2, pt 1), (3, pt 2), (4, c1 (vi s1.1)), (5, c1 (vi s1.2.1)), (45, c1 (vB false))], [bx [vL flAttrG s_.attrs, vL flNestedG s_.nested], bx [vi 0, vN, vN], bx [vi 6, vO flT 3 s1.2.2.1, vO flS 4 s1.2.2.2], some (arO true flT.sz 0 (flT.f s1.2.2.1)), some (arO true flS.sz 0 (flS.f s1.2.2.2))]⟩) ?_
 refine drawE hb mixed 2 9 [] ?_
 refine idxE hb flNestedG 5 hq fun x25 hx25 hq => ?_
 refine appOwnE flS hb 4 4 true 0 (flS.one x25.name) hq fun l26 hl26 hq => ?_
 refine drawE hb mixed 4 12 [] ?_
 refine idxE hb flNestedG 5 hq fun x27 hx27 hq => ?_
 refine callE hb 2 hq (gQ3q hb he x27.attrs) fun y28 hy28 hq => ?_
 refine appOwnE flT hb 4 3 true 0 ((flT.one (Ty.mk 4 [y28] [])).trans (congrArg (fun z => [pI .i64 4, PV.sl false 1 z, pL flS []]) (flT.one y28))) hq fun l29 hl29 hq => ?_
 refine cpE hb 3 [1, 2, 3, 4, 5] (s' := ⟨none, [pick (bodyOf Tryz.f41) [1, 1, 1, 0, 0, 0, 1, 0, 1, 1, 1, 1]], [(1, [pick (bodyOf Tryz.f41) [1, 1, 1, 0, 0]]), (0, [pick (bodyOf Tryz.f41) [1, 1, 1, 1]])], sl 98 [(1, pt 0), (2, pt 1), (3, pt 2), (4, c1 (vi s1.1)), (5, c1 (vi s1.2.1))], [bx [vL flAttrG s_.attrs, vL flNestedG s_.nested], bx [vi 0, vN, vN], bx [vi 6, vO flT 3 l29, vO flS 4 l26], some (arO true flT.sz 0 (flT.f l29)), some (arO true flS.sz 0 (flS.f l26))]⟩) ?_
 exact backE hb 6 [1, 2, 3, 4, 5] [] 5 (hn1 _ (injO hq)) ⟨(by kernel_rfl), (by kernel_rfl), (by kernel_rfl), (under_arO _ _ _ _ _), (under_arO _ _ _ _ _), trivial⟩
 refine markE hb 7 3 true (sz := flT.sz) (fr := 0) (cs := flT.f s1.2.2.1) (by kernel_rfl) (Nat.zero_le _) ?_
 refine cellSE hb 0 1 1 (cs := [vi 6, vO flT 3 s1.2.2.1, vO flS 4 s1.2.2.2]) (c := vO flT 3 s1.2.2.1) (conv_own flT (nb := true) (id := 3) (xs := s1.2.2.1) (by kernel_rfl)) (by kernel_rfl) ?_
 refine markE hb 0 4 true (sz := flS.sz) (fr := 0) (cs := flS.f s1.2.2.2) (by kernel_rfl) (Nat.zero_le _) ?_
 refine cellSE hb 0 1 2 (cs := [vi 6, vL flT s1.2.2.1, vO flS 4 s1.2.2.2]) (c := vO flS 4 s1.2.2.2) (conv_own flS (nb := true) (id := 4) (xs := s1.2.2.2) (by kernel_rfl)) (by kernel_rfl) ?_
 exact retE hb 0 (he1 _ (injO hq))
noncomputable def gQ27  (c_ : Int) : Option (Bool) :=
 bif (decide (c_ ≥ 97)) then bif (decide (c_ ≤ 122)) then some (true) else bif (decide (c_ ≥ 65)) then bif (decide (c_ ≤ 90)) then some (true) else some (decide (c_ = 95)) else some (decide (c_ = 95)) else bif (decide (c_ ≥ 65)) then bif (decide (c_ ≤ 90)) then some (true) else some (decide (c_ = 95)) else some (decide (c_ = 95))
theorem gQ28 (hb : Base E E0 G) (he : ∀ w, E w → EnvV w)   (c_ : Int) : ∀ r_ : Bool, gQ27 c_ = some r_ →
 Pure E E0 Tryz.prog 134 [.cell (vI .u8 c_)] (c1 (vB r_)) := by
 refine fnE hb Tryz.func134 rfl fun r_ hq => ?_
 refine ifE hb 9 [4, 5] [] hq (fun hq _ => ?_) (fun hq _ => ?_)
 refine ifE hb 4 [7, 8, 9] [] hq (fun hq _ => ?_) (fun hq _ => ?_)
 exact retE hb 13 (injO hq).symm
 refine ifE hb 3 [11, 12] [] hq (fun hq _ => ?_) (fun hq _ => ?_)
 refine ifE hb 5 [14, 15, 16, 17] [] hq (fun hq _ => ?_) (fun hq _ => ?_)
 exact retE hb 5 (injO hq).symm
 exact retE hb 5 (injO hq).symm
 exact retE hb 10 (injO hq).symm
 refine ifE hb 7 [11, 12] [] hq (fun hq _ => ?_) (fun hq _ => ?_)
 refine ifE hb 5 [14, 15, 16, 17] [] hq (fun hq _ => ?_) (fun hq _ => ?_)
 exact retE hb 5 (injO hq).symm
 exact retE hb 5 (injO hq).symm
 exact retE hb 10 (injO hq).symm
noncomputable def gQ25 (s_ : ByteArray) (s1 : Int) : Option ((Int) ⊕ (Bool)) :=
 bif (decide (s1 < (s_.size : Int))) then (sidx s_ s1).bind fun c7 => (gQ27 c7).bind fun y8 => bif (!y8) then (sidx s_ s1).bind fun c10 => bif (decide (c10 < 48)) then some (.inr (false)) else (sidx s_ s1).bind fun c12 => bif (decide (c12 > 57)) then some (.inr (false)) else some (.inl (IntKind.i64.wrap (s1 + 1))) else some (.inl (IntKind.i64.wrap (s1 + 1))) else some (.inr (true))
noncomputable def gQ24  (s_ : ByteArray) : Option (Bool) :=
 bif (decide (s_ = eS)) then some (false) else bif (decide ((s_.size : Int) > 64)) then some (false) else (sidx s_ 0).bind fun c3 => (gQ27 c3).bind fun y4 => bif (!y4) then some (false) else loopO (gQ25 s_) 0
theorem gQ26 (hb : Base E E0 G) (he : ∀ w, E w → EnvV w)   (s_ : ByteArray) : ∀ r_ : Bool, gQ24 s_ = some r_ →
 Pure E E0 Tryz.prog 99 [.cell (vS s_)] (c1 (vB r_)) := by
 refine fnE hb Tryz.func99 rfl fun r_ hq => ?_
 refine ifE hb 10 [5, 6] [] hq (fun hq _ => ?_) (fun hq _ => ?_)
 exact retE hb 16 (injO hq).symm
 refine ifE hb 5 [9, 10, 11] [] hq (fun hq _ => ?_) (fun hq _ => ?_)
 exact retE hb 11 (injO hq).symm
 refine sidxE hb 1 hq fun c3 hc3 hq => ?_
 refine callE hb 0 hq (gQ28 hb he c3) fun y4 hy4 hq => ?_
 refine ifE hb 3 [15, 16] [] hq (fun hq _ => ?_) (fun hq _ => ?_)
 exact retE hb 5 (injO hq).symm
 refine cpE hb 8 [0, 3] (s' := ⟨none, [pick (bodyOf Tryz.f99) [1, 1, 0, 1, 0]], [(0, [pick (bodyOf Tryz.f99) [1, 1, 1]])], sl 40 [(0, c1 (vS s_)), (3, c1 (vi 0))], []⟩) ?_
 refine loopE hb 0 (gQ25 s_) (fun s1 => sl 40 [(0, c1 (vS s_)), (3, c1 (vi s1))]) (fun s1 => []) [0, 3] [] 0 (s0 := 0) trivial hq (fun s1 x1 hq hn1 he1 => ?_)
 refine ifE hb 8 [20] [] hq (fun hq _ => ?_) (fun hq _ => ?_)
 refine sidxE hb 8 hq fun c7 hc7 hq => ?_
 refine callE hb 0 hq (gQ28 hb he c7) fun y8 hy8 hq => ?_
 refine ifE hb 2 [27, 28] [] hq (fun hq _ => ?_) (fun hq _ => ?_)
 refine sidxE hb 2 hq fun c10 hc10 hq => ?_
 refine ifE hb 2 [32, 33] [] hq (fun hq _ => ?_) (fun hq _ => ?_)
 exact retE hb 12 (he1 _ (injO hq))
 refine sidxE hb 2 hq fun c12 hc12 hq => ?_
 refine cpE hb 4 [0, 3, 39] (s' := ⟨none, [pick (bodyOf Tryz.f99) [1, 1, 0, 1, 0, 0, 1, 0, 0, 1]], [(1, [pick (bodyOf Tryz.f99) [1, 1, 0, 1, 0, 0, 1, 1], pick (bodyOf Tryz.f99) [1, 1, 0, 1, 0]]), (0, [pick (bodyOf Tryz.f99) [1, 1, 1]])], sl 40 [(0, c1 (vS s_)), (3, c1 (vi s1)), (39, c1 (vB (decide (c12 > 57))))], []⟩) ?_
 refine ifE hb 0 [39] [] hq (fun hq _ => ?_) (fun hq _ => ?_)
 exact retE hb 5 (he1 _ (injO hq))
 exact backE hb 8 [0, 3] [] 0 (hn1 _ (injO hq)) trivial
 exact backE hb 20 [0, 3] [] 0 (hn1 _ (injO hq)) trivial
 exact retE hb 6 (he1 _ (injO hq))
noncomputable def gQ30  (t_ : Ty) : Option (Bool) :=
 bif (decide (t_.kind < 0)) then some (false) else bif (decide (t_.kind > 6)) then some (false) else bif (decide (t_.kind = 6)) then some (decide ((t_.elems.length : Int) = (t_.names.length : Int))) else bif (decide (t_.kind = 4)) then bif (decide ((t_.elems.length : Int) = 1)) then some (decide ((t_.names.length : Int) = 0)) else some (false) else bif (decide (t_.kind = 5)) then bif (decide ((t_.elems.length : Int) = 1)) then some (decide ((t_.names.length : Int) = 0)) else some (false) else bif (decide ((t_.elems.length : Int) = 0)) then some (decide ((t_.names.length : Int) = 0)) else some (false)
theorem gQ31 (hb : Base E E0 G) (he : ∀ w, E w → EnvV w)   (t_ : Ty) : ∀ r_ : Bool, gQ30 t_ = some r_ →
 Pure E E0 Tryz.prog 135 [.agg (aT t_)] (c1 (vB r_)) := by
 refine fnE hb Tryz.func135 rfl fun r_ hq => ?_
 refine ifE hb 12 [5, 6] [] hq (fun hq _ => ?_) (fun hq _ => ?_)
 exact retE hb 10 (injO hq).symm
 refine ifE hb 5 [9, 10] [] hq (fun hq _ => ?_) (fun hq _ => ?_)
 exact retE hb 5 (injO hq).symm
 refine ifE hb 9 [13] [] hq (fun hq _ => ?_) (fun hq _ => ?_)
 exact retE hb 12 (injO hq).symm
 refine ifE hb 9 [23, 24] [] hq (fun hq _ => ?_) (fun hq _ => ?_)
 refine ifE hb 13 [32, 33] [] hq (fun hq _ => ?_) (fun hq _ => ?_)
 exact retE hb 7 (injO hq).symm
 exact retE hb 7 (injO hq).symm
 refine ifE hb 5 [27, 28] [] hq (fun hq _ => ?_) (fun hq _ => ?_)
 refine ifE hb 8 [32, 33] [] hq (fun hq _ => ?_) (fun hq _ => ?_)
 exact retE hb 7 (injO hq).symm
 exact retE hb 7 (injO hq).symm
 refine ifE hb 9 [42, 43] [] hq (fun hq _ => ?_) (fun hq _ => ?_)
 exact retE hb 7 (injO hq).symm
 exact retE hb 7 (injO hq).symm
noncomputable def gQ2p (r_r10_check : Ty → Int → Option (Int)) (t_ : Ty) (level_ : Int) (s2 : Int) : Option ((Int) ⊕ ((Int) ⊕ (Int))) :=
 bif (decide (s2 < (t_.elems.length : Int))) then (idx t_.elems s2).bind fun x13 => (r_r10_check x13 (IntKind.i64.wrap (level_ + 1))).bind fun y14 => bif (!decide (y14 = 0)) then some (.inr (.inr (y14))) else some (.inl (IntKind.i64.wrap (s2 + 1))) else some (.inr (.inr (0)))
noncomputable def gQ2o (r_r10_check : Ty → Int → Option (Int)) (t_ : Ty) (level_ : Int) (s1 : Int) : Option ((Int) ⊕ (Int)) :=
 bif (decide (s1 < (t_.names.length : Int))) then (idx t_.names s1).bind fun x5 => (gQ24 x5).bind fun y6 => bif (!y6) then some (.inr (7)) else bif (decide (s1 > 0)) then (idx t_.names (IntKind.i64.wrap (s1 - 1))).bind fun x9 => (idx t_.names s1).bind fun x10 => bif (!Op.bytesLess x9.toList x10.toList) then some (.inr (1)) else some (.inl (IntKind.i64.wrap (s1 + 1))) else some (.inl (IntKind.i64.wrap (s1 + 1))) else loopO (gQ2p r_r10_check t_ level_) 0
noncomputable def gQ2n (r_r10_check : Ty → Int → Option (Int)) (t_ : Ty) (level_ : Int) : Option (Int) :=
 bif (decide (level_ > 32)) then some (4) else (gQ30 t_).bind fun y2 => bif (!y2) then some (1) else loopO (gQ2o r_r10_check t_ level_) 0
theorem gQ2q (hb : Base E E0 G) (he : ∀ w, E w → EnvV w) (r_r10_check : Ty → Int → Option (Int)) (hr_r10_check : ∀ (a0 : Ty) (a1 : Int) (r : Int), r_r10_check a0 a1 = some r → Pure E E0 Tryz.prog 100 [.agg (aT a0), .cell (vi a1)] (c1 (vi r))) (t_ : Ty) (level_ : Int) : ∀ r_ : Int, gQ2n r_r10_check t_ level_ = some r_ →
 Pure E E0 Tryz.prog 100 [.agg (aT t_), .cell (vi level_)] (c1 (vi r_)) := by
 refine fnE hb Tryz.func100 rfl fun r_ hq => ?_
 refine ifE hb 11 [9] [] hq (fun hq _ => ?_) (fun hq _ => ?_)
 exact retE hb 5 (injO hq).symm
 refine callE hb 6 hq (gQ31 hb he t_) fun y2 hy2 hq => ?_
 refine ifE hb 2 [12] [] hq (fun hq _ => ?_) (fun hq _ => ?_)
 exact retE hb 5 (injO hq).symm
 refine cpE hb 8 [1, 2, 5] (s' := ⟨none, [pick (bodyOf Tryz.f100) [1, 1, 1, 0, 1, 0]], [(0, [pick (bodyOf Tryz.f100) [1, 1, 1, 1]])], sl 61 [(1, c1 (vi level_)), (2, pt 0), (5, c1 (vi 0))], [bx (aT t_)]⟩) ?_
 refine loopE hb 0 (gQ2o r_r10_check t_ level_) (fun s1 => sl 61 [(1, c1 (vi level_)), (2, pt 0), (5, c1 (vi s1))]) (fun s1 => [bx (aT t_)]) [1, 2, 5] [] 1 (s0 := 0) ⟨(by kernel_rfl), trivial⟩ hq (fun s1 x1 hq hn1 he1 => ?_)
 refine ifE hb 9 [17] [] hq (fun hq _ => ?_) (fun hq _ => ?_)
 refine idxE hb flS 10 hq fun x5 hx5 hq => ?_
 refine callE hb 1 hq (gQ26 hb he x5) fun y6 hy6 hq => ?_
 refine ifE hb 2 [26] [] hq (fun hq _ => ?_) (fun hq _ => ?_)
 exact retE hb 5 (he1 _ (injO hq))
 refine drawE hb mixed 3 14 [] ?_
 refine ifE hb 3 [28, 29] [] hq (fun hq _ => ?_) (fun hq _ => ?_)
 refine idxE hb flS 4 hq fun x9 hx9 hq => ?_
 refine idxE hb flS 4 hq fun x10 hx10 hq => ?_
 refine cpE hb 5 [1, 2, 5, 42] (s' := ⟨none, [pick (bodyOf Tryz.f100) [1, 1, 1, 0, 1, 0, 0, 1, 0, 0, 1, 1]], [(1, [pick (bodyOf Tryz.f100) [1, 1, 1, 0, 1, 0, 0, 1, 1], pick (bodyOf Tryz.f100) [1, 1, 1, 0, 1, 0]]), (0, [pick (bodyOf Tryz.f100) [1, 1, 1, 1]])], sl 61 [(1, c1 (vi level_)), (2, pt 0), (5, c1 (vi s1)), (42, c1 (vB (!Op.bytesLess x9.toList x10.toList)))], [bx (aT t_)]⟩) ?_
 refine ifE hb 0 [42] [] hq (fun hq _ => ?_) (fun hq _ => ?_)
 exact retE hb 5 (he1 _ (injO hq))
 exact backE hb 8 [1, 2, 5] [] 1 (hn1 _ (injO hq)) ⟨(by kernel_rfl), trivial⟩
 exact backE hb 23 [1, 2, 5] [] 1 (hn1 _ (injO hq)) ⟨(by kernel_rfl), trivial⟩
 refine loopE hb 8 (gQ2p r_r10_check t_ level_) (fun s2 => sl 61 [(1, c1 (vi level_)), (2, pt 0), (6, c1 (vi s2))]) (fun s2 => [bx (aT t_)]) [1, 2, 6] [] 1 (s0 := 0) ⟨(by kernel_rfl), trivial⟩ hq (fun s2 x2 hq hn2 he2 => ?_)
 refine ifE hb 9 [47] [] hq (fun hq _ => ?_) (fun hq _ => ?_)
 refine idxE hb flT 9 hq fun x13 hx13 hq => ?_
 refine callE hb 3 hq (hr_r10_check x13 (IntKind.i64.wrap (level_ + 1))) fun y14 hy14 hq => ?_
 refine ifE hb 7 [59] [] hq (fun hq _ => ?_) (fun hq _ => ?_)
 exact retE hb 6 (he1 _ ((he2 _ (injO hq)).symm))
 exact backE hb 8 [1, 2, 6] [] 1 (hn2 _ (injO hq)) ⟨(by kernel_rfl), trivial⟩
 exact retE hb 6 (he1 _ ((he2 _ (injO hq)).symm))
noncomputable def tQ8d (rec : Ty → Int → Option (Int)) (a : Ty) (b : Int) : Option (Int) :=
 gQ2n (fun a0 a1 => rec a0 a1) a b
noncomputable def tQ8b (a0 : Ty) (a1 : Int) : Option (Int) := tieF relT wfT tQ8d a0 a1
theorem tQ8c (hb : Base E E0 G) (he : ∀ w, E w → EnvV w) (a0 : Ty) (a1 : Int) (r : Int) (hq : tQ8b a0 a1 = some r) : Pure E E0 Tryz.prog 100 [.agg (aT a0), .cell (vi a1)] (c1 (vi r)) :=
 tieF_ok (C := fun a b r => Pure E E0 Tryz.prog 100 [.agg (aT a), .cell (vi b)] (c1 (vi r))) (fun rec hr a b r hq => gQ2q hb he (fun a0 a1 => rec a0 a1) (fun a0 a1 r e => hr a0 a1 r e) a b r hq) a0 a1 r hq
noncomputable def gQ2g  (t_ : Ty) : Option (Int) :=
 (tQ8b t_ 1).bind fun y1 => some (y1)
theorem gQ2h (hb : Base E E0 G) (he : ∀ w, E w → EnvV w)   (t_ : Ty) : ∀ r_ : Int, gQ2g t_ = some r_ →
 Pure E E0 Tryz.prog 51 [.agg (aT t_)] (c1 (vi r_)) := by
 refine fnE hb Tryz.func51 rfl fun r_ hq => ?_
 refine callE hb 8 hq (tQ8c hb he t_ 1) fun y1 hy1 hq => ?_
 exact retE hb 2 (injO hq).symm
noncomputable def gQ3h  (a_ : AttrG) (before_ : ByteArray) (first_ : Bool) : Option (Int) :=
 (gQ24 a_.name).bind fun y1 => bif (!y1) then some (7) else bif (!first_) then bif (Op.bytesLess a_.name.toList before_.toList || decide (a_.name = before_)) then some (1) else (gQ2g a_.type_).bind fun y5 => bif (!decide (y5 = 0)) then some (y5) else bif (decide (a_.mode < 1)) then some (1) else bif (decide (a_.mode > 4)) then some (1) else bif a_.volatile then bif (decide (a_.mode = 1)) then some (1) else bif (decide (a_.mode = 2)) then some (1) else some (0) else some (0) else (gQ2g a_.type_).bind fun y12 => bif (!decide (y12 = 0)) then some (y12) else bif (decide (a_.mode < 1)) then some (1) else bif (decide (a_.mode > 4)) then some (1) else bif a_.volatile then bif (decide (a_.mode = 1)) then some (1) else bif (decide (a_.mode = 2)) then some (1) else some (0) else some (0)
theorem gQ3i (hb : Base E E0 G) (he : ∀ w, E w → EnvV w)   (a_ : AttrG) (before_ : ByteArray) (first_ : Bool) : ∀ r_ : Int, gQ3h a_ before_ first_ = some r_ →
 Pure E E0 Tryz.prog 98 [.agg [vS a_.name, vi a_.type_.kind, vL flT a_.type_.elems, vL flS a_.type_.names, vi a_.mode, vB a_.replace, vB a_.sensitive, vB a_.volatile], .cell (vS before_), .cell (vB first_)] (c1 (vi r_)) := by
 refine fnE hb Tryz.func98 rfl fun r_ hq => ?_
 refine callE hb 10 hq (gQ26 hb he a_.name) fun y1 hy1 hq => ?_
 refine ifE hb 2 [11] [] hq (fun hq _ => ?_) (fun hq _ => ?_)
 exact retE hb 5 (injO hq).symm
 refine ifE hb 8 [13, 14] [] hq (fun hq _ => ?_) (fun hq _ => ?_)
 refine ifE hb 6 [18, 19] [] hq (fun hq _ => ?_) (fun hq _ => ?_)
 exact retE hb 5 (injO hq).symm
 refine callE hb 6 hq (gQ2h hb he a_.type_) fun y5 hy5 hq => ?_
 refine ifE hb 8 [24] [] hq (fun hq _ => ?_) (fun hq _ => ?_)
 exact retE hb 6 (injO hq).symm
 refine ifE hb 9 [28, 29] [] hq (fun hq _ => ?_) (fun hq _ => ?_)
 refine cpE hb 5 [3, 33] (s' := ⟨none, [pick (bodyOf Tryz.f98) [1, 1, 1, 1, 1, 0, 1], pick (bodyOf Tryz.f98) [1, 1, 1, 1, 1, 1]], [], sl 46 [(3, pt 0), (33, c1 (vB true))], [bx [vS a_.name, vi a_.type_.kind, vL flT a_.type_.elems, vL flS a_.type_.names, vi a_.mode, vB a_.replace, vB a_.sensitive, vB a_.volatile]]⟩) ?_
 exact retE hb 5 (injO hq).symm
 refine cpE hb 5 [3, 33] (s' := ⟨none, [pick (bodyOf Tryz.f98) [1, 1, 1, 1, 1, 0, 1], pick (bodyOf Tryz.f98) [1, 1, 1, 1, 1, 1]], [], sl 46 [(3, pt 0), (33, c1 (vB (decide (a_.mode > 4))))], [bx [vS a_.name, vi a_.type_.kind, vL flT a_.type_.elems, vL flS a_.type_.names, vi a_.mode, vB a_.replace, vB a_.sensitive, vB a_.volatile]]⟩) ?_
 refine ifE hb 0 [33] [] hq (fun hq _ => ?_) (fun hq _ => ?_)
 exact retE hb 5 (injO hq).symm
 refine ifE hb 8 [35, 36] [] hq (fun hq _ => ?_) (fun hq _ => ?_)
 refine ifE hb 4 [39, 40] [] hq (fun hq _ => ?_) (fun hq _ => ?_)
 exact retE hb 11 (injO hq).symm
 refine ifE hb 6 [43, 44, 45] [] hq (fun hq _ => ?_) (fun hq _ => ?_)
 exact retE hb 5 (injO hq).symm
 exact retE hb 6 (injO hq).symm
 exact retE hb 16 (injO hq).symm
 refine callE hb 12 hq (gQ2h hb he a_.type_) fun y12 hy12 hq => ?_
 refine ifE hb 8 [24] [] hq (fun hq _ => ?_) (fun hq _ => ?_)
 exact retE hb 6 (injO hq).symm
 refine ifE hb 9 [28, 29] [] hq (fun hq _ => ?_) (fun hq _ => ?_)
 exact retE hb 10 (injO hq).symm
 refine ifE hb 5 [32, 33] [] hq (fun hq _ => ?_) (fun hq _ => ?_)
 refine cpE hb 2 [] (s' := ⟨none, [pick (bodyOf Tryz.f98) [1, 1, 1, 1, 1, 0, 1, 0, 0], pick (bodyOf Tryz.f98) [1, 1, 1, 1, 1, 0, 1, 0, 1], pick (bodyOf Tryz.f98) [1, 1, 1, 1, 1, 1]], [], sl 46 [], [bx [vS a_.name, vi a_.type_.kind, vL flT a_.type_.elems, vL flS a_.type_.names, vi a_.mode, vB a_.replace, vB a_.sensitive, vB a_.volatile]]⟩) ?_
 exact retE hb 3 (injO hq).symm
 refine cpE hb 4 [3] (s' := ⟨none, [pick (bodyOf Tryz.f98) [1, 1, 1, 1, 1, 1, 0, 0], pick (bodyOf Tryz.f98) [1, 1, 1, 1, 1, 1, 0, 1], pick (bodyOf Tryz.f98) [1, 1, 1, 1, 1, 1, 1]], [], sl 46 [(3, pt 0)], [bx [vS a_.name, vi a_.type_.kind, vL flT a_.type_.elems, vL flS a_.type_.names, vi a_.mode, vB a_.replace, vB a_.sensitive, vB a_.volatile]]⟩) ?_
 refine ifE hb 4 [35, 36] [] hq (fun hq _ => ?_) (fun hq _ => ?_)
 refine ifE hb 4 [39, 40] [] hq (fun hq _ => ?_) (fun hq _ => ?_)
 exact retE hb 11 (injO hq).symm
 refine ifE hb 6 [43, 44, 45] [] hq (fun hq _ => ?_) (fun hq _ => ?_)
 exact retE hb 5 (injO hq).symm
 exact retE hb 6 (injO hq).symm
 exact retE hb 16 (injO hq).symm
noncomputable def gQ3k (l_ : List AttrG) (s1 : Bool × ByteArray × Int) : Option ((Bool × ByteArray × Int) ⊕ (Int)) :=
 bif (decide (s1.2.2 < (l_.length : Int))) then (idx l_ s1.2.2).bind fun x2 => (gQ3h x2 s1.2.1 (decide (s1.2.2 = 0))).bind fun y3 => bif (!decide (y3 = 0)) then some (.inr (y3)) else bif s1.1 then (idx l_ s1.2.2).bind fun x6 => bif (!decide (x6.mode = 1)) then (idx l_ s1.2.2).bind fun x8 => bif (!decide (x8.mode = 2)) then some (.inr (1)) else (idx l_ s1.2.2).bind fun x10 => some (.inl (true, x10.name, (IntKind.i64.wrap (s1.2.2 + 1)))) else (idx l_ s1.2.2).bind fun x11 => some (.inl (true, x11.name, (IntKind.i64.wrap (s1.2.2 + 1)))) else (idx l_ s1.2.2).bind fun x12 => some (.inl (false, x12.name, (IntKind.i64.wrap (s1.2.2 + 1)))) else some (.inr (0))
noncomputable def gQ3j  (l_ : List AttrG) (nested_ : Bool) : Option (Int) :=
 loopO (gQ3k l_) (nested_, eS, 0)
theorem gQ3l (hb : Base E E0 G) (he : ∀ w, E w → EnvV w)   (l_ : List AttrG) (nested_ : Bool) : ∀ r_ : Int, gQ3j l_ nested_ = some r_ →
 Pure E E0 Tryz.prog 48 [.cell (vL flAttrG l_), .cell (vB nested_)] (c1 (vi r_)) := by
 refine fnE hb Tryz.func48 rfl fun r_ hq => ?_
 refine loopE hb 14 (gQ3k l_) (fun s1 => sl 47 [(0, c1 (vL flAttrG l_)), (1, c1 (vB s1.1)), (5, c1 (vS s1.2.1)), (6, c1 (vi s1.2.2))]) (fun s1 => []) [0, 1, 5, 6] [] 0 (s0 := (nested_, eS, 0)) trivial hq (fun s1 x1 hq hn1 he1 => ?_)
 refine ifE hb 8 [11] [] hq (fun hq _ => ?_) (fun hq _ => ?_)
 refine idxE hb flAttrG 8 hq fun x2 hx2 hq => ?_
 refine callE hb 4 hq (gQ3i hb he x2 s1.2.1 (decide (s1.2.2 = 0))) fun y3 hy3 hq => ?_
 refine ifE hb 8 [23] [] hq (fun hq _ => ?_) (fun hq _ => ?_)
 exact retE hb 6 (he1 _ (injO hq))
 refine ifE hb 7 [1, 25, 26] [] hq (fun hq _ => ?_) (fun hq _ => ?_)
 refine idxE hb flAttrG 2 hq fun x6 hx6 hq => ?_
 refine ifE hb 5 [32, 33, 34] [] hq (fun hq _ => ?_) (fun hq _ => ?_)
 refine idxE hb flAttrG 2 hq fun x8 hx8 hq => ?_
 refine cpE hb 5 [0, 1, 6, 41] (s' := ⟨none, [pick (bodyOf Tryz.f48) [1, 1, 0, 1, 0, 0, 1, 0, 0, 1, 1, 0, 1], pick (bodyOf Tryz.f48) [1, 1, 0, 1, 0, 0, 1, 0, 0, 1, 1, 1]], [(1, [pick (bodyOf Tryz.f48) [1, 1, 0, 1, 0, 0, 1, 1], pick (bodyOf Tryz.f48) [1, 1, 0, 1, 0]]), (0, [pick (bodyOf Tryz.f48) [1, 1, 1]])], sl 47 [(0, c1 (vL flAttrG l_)), (1, c1 (vB true)), (6, c1 (vi s1.2.2)), (41, c1 (vB (!decide (x8.mode = 2))))], []⟩) ?_
 refine ifE hb 0 [41] [] hq (fun hq _ => ?_) (fun hq _ => ?_)
 exact retE hb 5 (he1 _ (injO hq))
 refine idxE hb flAttrG 5 hq fun x10 hx10 hq => ?_
 exact backE hb 10 [0, 1, 5, 6] [] 0 (hn1 _ (injO hq)) trivial
 refine cpE hb 8 [0, 1, 6, 41] (s' := ⟨none, [pick (bodyOf Tryz.f48) [1, 1, 0, 1, 0, 0, 1, 0, 0, 1, 1, 0, 1], pick (bodyOf Tryz.f48) [1, 1, 0, 1, 0, 0, 1, 0, 0, 1, 1, 1]], [(1, [pick (bodyOf Tryz.f48) [1, 1, 0, 1, 0, 0, 1, 1], pick (bodyOf Tryz.f48) [1, 1, 0, 1, 0]]), (0, [pick (bodyOf Tryz.f48) [1, 1, 1]])], sl 47 [(0, c1 (vL flAttrG l_)), (1, c1 (vB true)), (6, c1 (vi s1.2.2)), (41, c1 (vB false))], []⟩) ?_
 refine idxE hb flAttrG 5 hq fun x11 hx11 hq => ?_
 exact backE hb 10 [0, 1, 5, 6] [] 0 (hn1 _ (injO hq)) trivial
 refine idxE hb flAttrG 21 hq fun x12 hx12 hq => ?_
 exact backE hb 10 [0, 1, 5, 6] [] 0 (hn1 _ (injO hq)) trivial
 exact retE hb 6 (he1 _ (injO hq))
noncomputable def gQ33 (l_ : List AttrG) (name_ : ByteArray) (s1 : Int) : Option ((Int) ⊕ (AttrG × Bool)) :=
 bif (decide (s1 < (l_.length : Int))) then (idx l_ s1).bind fun x2 => bif (decide (x2.name = name_)) then (idx l_ s1).bind fun x4 => some (.inr (x4, true)) else some (.inl (IntKind.i64.wrap (s1 + 1))) else some (.inr ((AttrG.mk eS (Ty.mk 0 [] []) 0 false false false), false))
noncomputable def gQ32  (l_ : List AttrG) (name_ : ByteArray) : Option (AttrG × Bool) :=
 loopO (gQ33 l_ name_) 0
theorem gQ34 (hb : Base E E0 G) (he : ∀ w, E w → EnvV w)   (l_ : List AttrG) (name_ : ByteArray) : ∀ r_ : AttrG × Bool, gQ32 l_ name_ = some r_ →
 Pure E E0 Tryz.prog 50 [.cell (vL flAttrG l_), .cell (vS name_)] (.tup [.agg [vS r_.1.name, vi r_.1.type_.kind, vL flT r_.1.type_.elems, vL flS r_.1.type_.names, vi r_.1.mode, vB r_.1.replace, vB r_.1.sensitive, vB r_.1.volatile], .cell (vB r_.2)]) := by
 refine fnE hb Tryz.func50 rfl fun r_ hq => ?_
 refine loopE hb 11 (gQ33 l_ name_) (fun s1 => sl 25 [(0, c1 (vL flAttrG l_)), (1, c1 (vS name_)), (4, pt 0), (6, c1 (vi s1))]) (fun s1 => [bx [vS eS, vi 0, vN, vN, vi 0, vB false, vB false, vB false]]) [0, 1, 4, 6] [] 1 (s0 := 0) ⟨(by kernel_rfl), trivial⟩ hq (fun s1 x1 hq hn1 he1 => ?_)
 refine ifE hb 8 [10] [] hq (fun hq _ => ?_) (fun hq _ => ?_)
 refine idxE hb flAttrG 8 hq fun x2 hx2 hq => ?_
 refine ifE hb 5 [19] [] hq (fun hq _ => ?_) (fun hq _ => ?_)
 refine idxE hb flAttrG 5 hq fun x4 hx4 hq => ?_
 exact retE hb 4 (he1 _ (injO hq))
 exact backE hb 8 [0, 1, 4, 6] [] 1 (hn1 _ (injO hq)) ⟨(by kernel_rfl), trivial⟩
 exact retE hb 8 (he1 _ (injO hq))
noncomputable def gQ3m  (s_ : SchemaG) (i_ : Int) : Option (Int) :=
 (idx s_.nested i_).bind fun x1 => (gQ24 x1.name).bind fun y2 => bif (!y2) then some (7) else bif (decide (i_ > 0)) then (idx s_.nested (IntKind.i64.wrap (i_ - 1))).bind fun x5 => bif (Op.bytesLess x1.name.toList x5.name.toList || decide (x1.name = x5.name)) then some (1) else (gQ32 s_.attrs x1.name).bind fun y7 => bif y7.2 then some (8) else bif (decide (x1.min < 0)) then some (1) else bif (decide (x1.max < x1.min)) then some (1) else bif (decide (x1.max > 256)) then some (1) else bif (decide ((x1.attrs.length : Int) > 64)) then some (14) else (gQ3j x1.attrs true).bind fun y13 => some (y13) else (gQ32 s_.attrs x1.name).bind fun y14 => bif y14.2 then some (8) else bif (decide (x1.min < 0)) then some (1) else bif (decide (x1.max < x1.min)) then some (1) else bif (decide (x1.max > 256)) then some (1) else bif (decide ((x1.attrs.length : Int) > 64)) then some (14) else (gQ3j x1.attrs true).bind fun y20 => some (y20)
theorem gQ3n (hb : Base E E0 G) (he : ∀ w, E w → EnvV w)   (s_ : SchemaG) (i_ : Int) : ∀ r_ : Int, gQ3m s_ i_ = some r_ →
 Pure E E0 Tryz.prog 49 [.agg [vL flAttrG s_.attrs, vL flNestedG s_.nested], .cell (vi i_)] (c1 (vi r_)) := by
 refine fnE hb Tryz.func49 rfl fun r_ hq => ?_
 refine idxE hb flNestedG 10 hq fun x1 hx1 hq => ?_
 refine callE hb 9 hq (gQ26 hb he x1.name) fun y2 hy2 hq => ?_
 refine ifE hb 2 [16] [] hq (fun hq _ => ?_) (fun hq _ => ?_)
 exact retE hb 5 (injO hq).symm
 refine drawE hb mixed 4 12 [] ?_
 refine ifE hb 3 [18, 19] [] hq (fun hq _ => ?_) (fun hq _ => ?_)
 refine idxE hb flNestedG 6 hq fun x5 hx5 hq => ?_
 refine ifE hb 6 [29, 30] [] hq (fun hq _ => ?_) (fun hq _ => ?_)
 refine cpE hb 2 [] (s' := ⟨none, [pick (bodyOf Tryz.f49) [1, 1, 1, 0, 1, 0, 0], pick (bodyOf Tryz.f49) [1, 1, 1, 0, 1, 0, 1], pick (bodyOf Tryz.f49) [1, 1, 1, 1]], [], sl 62 [], [bx [vL flAttrG s_.attrs, vL flNestedG s_.nested], bx [vS x1.name, vi x1.min, vi x1.max, vL flAttrG x1.attrs, vB x1.replace]]⟩) ?_
 exact retE hb 3 (injO hq).symm
 refine cpE hb 3 [2, 5] (s' := ⟨none, [pick (bodyOf Tryz.f49) [1, 1, 1, 1, 0], pick (bodyOf Tryz.f49) [1, 1, 1, 1, 1]], [], sl 62 [(2, pt 0), (5, pt 1)], [bx [vL flAttrG s_.attrs, vL flNestedG s_.nested], bx [vS x1.name, vi x1.min, vi x1.max, vL flAttrG x1.attrs, vB x1.replace]]⟩) ?_
 refine callE hb 5 hq (gQ34 hb he s_.attrs x1.name) fun y7 hy7 hq => ?_
 refine ifE hb 12 [7, 38, 39] [] hq (fun hq _ => ?_) (fun hq _ => ?_)
 exact retE hb 5 (injO hq).symm
 refine ifE hb 9 [42, 43] [] hq (fun hq _ => ?_) (fun hq _ => ?_)
 exact retE hb 17 (injO hq).symm
 refine ifE hb 7 [48, 49, 50] [] hq (fun hq _ => ?_) (fun hq _ => ?_)
 exact retE hb 10 (injO hq).symm
 refine ifE hb 5 [53, 54] [] hq (fun hq _ => ?_) (fun hq _ => ?_)
 exact retE hb 5 (injO hq).symm
 refine ifE hb 10 [58] [] hq (fun hq _ => ?_) (fun hq _ => ?_)
 exact retE hb 5 (injO hq).symm
 refine callE hb 6 hq (gQ3l hb he x1.attrs true) fun y13 hy13 hq => ?_
 exact retE hb 2 (injO hq).symm
 refine callE hb 21 hq (gQ34 hb he s_.attrs x1.name) fun y14 hy14 hq => ?_
 refine ifE hb 12 [7, 38, 39] [] hq (fun hq _ => ?_) (fun hq _ => ?_)
 refine cpE hb 2 [] (s' := ⟨none, [pick (bodyOf Tryz.f49) [1, 1, 1, 1, 1, 0, 1, 0, 0], pick (bodyOf Tryz.f49) [1, 1, 1, 1, 1, 0, 1, 0, 1], pick (bodyOf Tryz.f49) [1, 1, 1, 1, 1, 1]], [], sl 62 [], [bx [vL flAttrG s_.attrs, vL flNestedG s_.nested], bx [vS x1.name, vi x1.min, vi x1.max, vL flAttrG x1.attrs, vB x1.replace], bx [vS y14.1.name, vi y14.1.type_.kind, vL flT y14.1.type_.elems, vL flS y14.1.type_.names, vi y14.1.mode, vB y14.1.replace, vB y14.1.sensitive, vB y14.1.volatile]]⟩) ?_
 exact retE hb 3 (injO hq).symm
 refine cpE hb 4 [5] (s' := ⟨none, [pick (bodyOf Tryz.f49) [1, 1, 1, 1, 1, 1, 0, 0], pick (bodyOf Tryz.f49) [1, 1, 1, 1, 1, 1, 0, 1], pick (bodyOf Tryz.f49) [1, 1, 1, 1, 1, 1, 1]], [], sl 62 [(5, pt 1)], [bx [vL flAttrG s_.attrs, vL flNestedG s_.nested], bx [vS x1.name, vi x1.min, vi x1.max, vL flAttrG x1.attrs, vB x1.replace], bx [vS y14.1.name, vi y14.1.type_.kind, vL flT y14.1.type_.elems, vL flS y14.1.type_.names, vi y14.1.mode, vB y14.1.replace, vB y14.1.sensitive, vB y14.1.volatile]]⟩) ?_
 refine ifE hb 5 [42, 43] [] hq (fun hq _ => ?_) (fun hq _ => ?_)
 exact retE hb 17 (injO hq).symm
 refine ifE hb 7 [48, 49, 50] [] hq (fun hq _ => ?_) (fun hq _ => ?_)
 exact retE hb 10 (injO hq).symm
 refine ifE hb 5 [53, 54] [] hq (fun hq _ => ?_) (fun hq _ => ?_)
 exact retE hb 5 (injO hq).symm
 refine ifE hb 10 [58] [] hq (fun hq _ => ?_) (fun hq _ => ?_)
 exact retE hb 5 (injO hq).symm
 refine callE hb 6 hq (gQ3l hb he x1.attrs true) fun y20 hy20 hq => ?_
 exact retE hb 2 (injO hq).symm
noncomputable def gQ36 (s_ : SchemaG) (s1 : Int) : Option ((Int) ⊕ (Int)) :=
 bif (decide (s1 < (s_.nested.length : Int))) then (gQ3m s_ s1).bind fun y6 => bif (!decide (y6 = 0)) then some (.inr (y6)) else some (.inl (IntKind.i64.wrap (s1 + 1))) else (gQ32 s_.attrs (⟨#[105, 100]⟩ : ByteArray)).bind fun y8 => bif (!y8.2) then some (.inr (12)) else bif (!decide (y8.1.mode = 3)) then some (.inr (1)) else bif (!decide (y8.1.type_.kind = 3)) then some (.inr (1)) else bif y8.1.volatile then some (.inr (1)) else (gQ3e s_).bind fun y13 => (gQ2g y13).bind fun y14 => some (.inr (y14))
noncomputable def gQ35  (s_ : SchemaG) : Option (Int) :=
 bif (decide ((s_.attrs.length : Int) > 64)) then some (14) else bif (decide ((s_.nested.length : Int) > 64)) then some (14) else (gQ3j s_.attrs false).bind fun y3 => bif (!decide (y3 = 0)) then some (y3) else loopO (gQ36 s_) 0
theorem gQ37 (hb : Base E E0 G) (he : ∀ w, E w → EnvV w)   (s_ : SchemaG) : ∀ r_ : Int, gQ35 s_ = some r_ →
 Pure E E0 Tryz.prog 13 [.agg [vL flAttrG s_.attrs, vL flNestedG s_.nested]] (c1 (vi r_)) := by
 refine fnE hb Tryz.func13 rfl fun r_ hq => ?_
 refine ifE hb 13 [10, 11] [] hq (fun hq _ => ?_) (fun hq _ => ?_)
 exact retE hb 11 (injO hq).symm
 refine ifE hb 6 [15, 16] [] hq (fun hq _ => ?_) (fun hq _ => ?_)
 exact retE hb 5 (injO hq).symm
 refine callE hb 6 hq (gQ3l hb he s_.attrs false) fun y3 hy3 hq => ?_
 refine ifE hb 8 [21] [] hq (fun hq _ => ?_) (fun hq _ => ?_)
 exact retE hb 6 (injO hq).symm
 refine cpE hb 8 [1, 4] (s' := ⟨none, [pick (bodyOf Tryz.f13) [1, 1, 1, 1, 0, 1, 0]], [(0, [pick (bodyOf Tryz.f13) [1, 1, 1, 1, 1]])], sl 60 [(1, pt 0), (4, c1 (vi 0))], [bx [vL flAttrG s_.attrs, vL flNestedG s_.nested]]⟩) ?_
 refine loopE hb 0 (gQ36 s_) (fun s1 => sl 60 [(1, pt 0), (4, c1 (vi s1))]) (fun s1 => [bx [vL flAttrG s_.attrs, vL flNestedG s_.nested]]) [1, 4] [] 1 (s0 := 0) ⟨(by kernel_rfl), trivial⟩ hq (fun s1 x1 hq hn1 he1 => ?_)
 refine ifE hb 9 [27] [] hq (fun hq _ => ?_) (fun hq _ => ?_)
 refine callE hb 8 hq (gQ3n hb he s_ s1) fun y6 hy6 hq => ?_
 refine ifE hb 7 [34] [] hq (fun hq _ => ?_) (fun hq _ => ?_)
 exact retE hb 6 (he1 _ (injO hq))
 exact backE hb 8 [1, 4] [] 1 (hn1 _ (injO hq)) ⟨(by kernel_rfl), trivial⟩
 refine callE hb 6 hq (gQ34 hb he s_.attrs (⟨#[105, 100]⟩ : ByteArray)) fun y8 hy8 hq => ?_
 refine ifE hb 13 [43] [] hq (fun hq _ => ?_) (fun hq _ => ?_)
 exact retE hb 5 (he1 _ (injO hq))
 refine ifE hb 9 [46, 47] [] hq (fun hq _ => ?_) (fun hq _ => ?_)
 exact retE hb 15 (he1 _ (injO hq))
 refine ifE hb 6 [51, 52, 53] [] hq (fun hq _ => ?_) (fun hq _ => ?_)
 exact retE hb 9 (he1 _ (injO hq))
 refine ifE hb 4 [55, 56] [] hq (fun hq _ => ?_) (fun hq _ => ?_)
 exact retE hb 5 (he1 _ (injO hq))
 refine callE hb 5 hq (gQ3g hb he s_) fun y13 hy13 hq => ?_
 refine callE hb 0 hq (gQ2h hb he y13) fun y14 hy14 hq => ?_
 exact retE hb 2 (he1 _ (injO hq))
noncomputable def gQ5n  (s_ : SchemaG) : Option (List ByteArray) :=
 (gQ4d s_).bind fun y1 => some (y1.names)
theorem gQ5o (hb : Base E E0 G) (he : ∀ w, E w → EnvV w)   (s_ : SchemaG) : ∀ r_ : List ByteArray, gQ5n s_ = some r_ →
 Pure E E0 Tryz.prog 74 [.agg [vL flAttrG s_.attrs, vL flNestedG s_.nested]] (c1 (vL flS r_)) := by
 refine fnE hb Tryz.func74 rfl fun r_ hq => ?_
 refine callE hb 8 hq (gQ4i hb he s_) fun y1 hy1 hq => ?_
 exact retE hb 3 (injO hq).symm
noncomputable def gQ67 (s_ : List ByteArray) (v_ : ByteArray) (s1 : Int) : Option ((Int) ⊕ (Int)) :=
 bif (decide (s1 < (s_.length : Int))) then (idx s_ s1).bind fun x2 => bif (decide (v_ = x2)) then some (.inr (s1)) else some (.inl (IntKind.i64.wrap (s1 + 1))) else some (.inr (-1))
noncomputable def gQ66  (s_ : List ByteArray) (v_ : ByteArray) : Option (Int) :=
 loopO (gQ67 s_ v_) 0
theorem gQ68 (hb : Base E E0 G) (he : ∀ w, E w → EnvV w)   (s_ : List ByteArray) (v_ : ByteArray) : ∀ r_ : Int, gQ66 s_ v_ = some r_ →
 Pure E E0 Tryz.prog 136 [.cell (vL flS s_), .cell (vS v_)] (c1 (vi r_)) := by
 refine fnE hb Tryz.func136 rfl fun r_ hq => ?_
 refine loopE hb 12 (gQ67 s_ v_) (fun s1 => sl 19 [(0, c1 (vL flS s_)), (1, c1 (vS v_)), (7, c1 (vi (s_.length : Int))), (8, c1 (vi s1))]) (fun s1 => []) [0, 1, 7, 8] [] 0 (s0 := 0) trivial hq (fun s1 x1 hq hn1 he1 => ?_)
 refine ifE hb 5 [9] [] hq (fun hq _ => ?_) (fun hq _ => ?_)
 refine idxE hb flS 14 hq fun x2 hx2 hq => ?_
 refine ifE hb 3 [16] [] hq (fun hq _ => ?_) (fun hq _ => ?_)
 exact retE hb 6 (he1 _ (injO hq))
 exact backE hb 7 [0, 1, 7, 8] [] 0 (hn1 _ (injO hq)) trivial
 exact retE hb 6 (he1 _ (injO hq))
noncomputable def gQ61  (s_ : List ByteArray) (v_ : ByteArray) : Option (Bool) :=
 (gQ66 s_ v_).bind fun y1 => some (decide (y1 ≥ 0))
theorem gQ62 (hb : Base E E0 G) (he : ∀ w, E w → EnvV w)   (s_ : List ByteArray) (v_ : ByteArray) : ∀ r_ : Bool, gQ61 s_ v_ = some r_ →
 Pure E E0 Tryz.prog 102 [.cell (vL flS s_), .cell (vS v_)] (c1 (vB r_)) := by
 refine fnE hb Tryz.func102 rfl fun r_ hq => ?_
 refine callE hb 8 hq (gQ68 hb he s_ v_) fun y1 hy1 hq => ?_
 exact retE hb 3 (injO hq).symm
noncomputable def gQ5g (v_ : Val) (y4 : List ByteArray) (s1 : Int) : Option ((Int) ⊕ (DiagG)) :=
 bif (decide (s1 < (v_.keys.length : Int))) then (idx v_.keys s1).bind fun x6 => (gQ61 y4 x6).bind fun y7 => bif (!y7) then some (.inr (DiagG.mk 13 0 x6)) else some (.inl (IntKind.i64.wrap (s1 + 1))) else some (.inr (DiagG.mk 0 0 eS))
noncomputable def gQ5f  (s_ : SchemaG) (v_ : Val) : Option (DiagG) :=
 (m_checkE v_).bind fun y1 => bif (!decide (y1 = 0)) then some (DiagG.mk 1 0 eS) else bif (!decide (v_.kind = 5)) then some (DiagG.mk 6 0 eS) else (gQ5n s_).bind fun y4 => loopO (gQ5g v_ y4) 0
theorem gQ5h (hb : Base E E0 G) (he : ∀ w, E w → EnvV w)   (s_ : SchemaG) (v_ : Val) : ∀ r_ : DiagG, gQ5f s_ v_ = some r_ →
 Pure E E0 Tryz.prog 57 [.agg [vL flAttrG s_.attrs, vL flNestedG s_.nested], .agg (aV v_)] (.one (.agg [vi r_.kind, vi r_.at_, vS r_.name])) := by
 refine fnE hb Tryz.func57 rfl fun r_ hq => ?_
 refine callE hb 10 hq (pCheck_g hb he v_) fun y1 hy1 hq => ?_
 refine ifE hb 2 [10] [] hq (fun hq _ => ?_) (fun hq _ => ?_)
 exact retE hb 6 (injO hq).symm
 refine ifE hb 9 [14] [] hq (fun hq _ => ?_) (fun hq _ => ?_)
 exact retE hb 6 (injO hq).symm
 refine callE hb 5 hq (gQ5o hb he s_) fun y4 hy4 hq => ?_
 refine cpE hb 11 [4, 5, 19, 20, 21] (s' := ⟨none, [pick (bodyOf Tryz.f57) [1, 1, 1, 1, 0, 1, 0]], [(0, [pick (bodyOf Tryz.f57) [1, 1, 1, 1, 1]])], sl 33 [(4, pt 2), (5, c1 (vL flS y4)), (19, c1 (vL flS v_.keys)), (20, c1 (vi (v_.keys.length : Int))), (21, c1 (vi 0))], [bx [vL flAttrG s_.attrs, vL flNestedG s_.nested], bx (aV v_), bx [vi 0, vi 0, vS eS]]⟩) ?_
 refine loopE hb 0 (gQ5g v_ y4) (fun s1 => sl 33 [(4, pt 2), (5, c1 (vL flS y4)), (19, c1 (vL flS v_.keys)), (20, c1 (vi (v_.keys.length : Int))), (21, c1 (vi s1))]) (fun s1 => [none, none, bx [vi 0, vi 0, vS eS]]) [4, 5, 19, 20, 21] [0, 1] 3 (s0 := 0) ⟨rfl, rfl, (by kernel_rfl), trivial⟩ hq (fun s1 x1 hq hn1 he1 => ?_)
 refine ifE hb 5 [22] [] hq (fun hq _ => ?_) (fun hq _ => ?_)
 refine idxE hb flS 6 hq fun x6 hx6 hq => ?_
 refine callE hb 7 hq (gQ62 hb he y4 x6) fun y7 hy7 hq => ?_
 refine ifE hb 2 [28] [] hq (fun hq _ => ?_) (fun hq _ => ?_)
 exact retE hb 7 (he1 _ (injO hq))
 exact backE hb 7 [4, 5, 19, 20, 21] [] 3 (hn1 _ (injO hq)) ⟨rfl, rfl, (by kernel_rfl), trivial⟩
 exact retE hb 7 (he1 _ (injO hq))
noncomputable def gQ80 (r_value_copied : Val → Option (Val)) (l_ : List Val) (s1 : Int × List Val) : Option ((Int × List Val) ⊕ (List Val)) :=
 bif (decide (s1.1 < (l_.length : Int))) then (idx l_ s1.1).bind fun x4 => (r_value_copied x4).bind fun y5 => (app 80 s1.2 [y5]).bind fun l6 => some (.inl ((IntKind.i64.wrap (s1.1 + 1)), l6)) else some (.inr (s1.2))
noncomputable def gQ7z (r_value_copied : Val → Option (Val)) (l_ : List Val) : Option (List Val) :=
 bif (decide ((l_.length : Int) = 0)) then some ([]) else (mkc 80 (l_.length : Int)).bind fun u2 => loopO (gQ80 r_value_copied l_) (0, [])
theorem gQ81 (hb : Base E E0 G) (he : ∀ w, E w → EnvV w) (r_value_copied : Val → Option (Val)) (hr_value_copied : ∀ (a0 : Val) (r : Val), r_value_copied a0 = some r → Pure E E0 Tryz.prog 109 [.agg (aV a0)] (.one (.agg (aV r)))) (l_ : List Val) : ∀ r_ : List Val, gQ7z r_value_copied l_ = some r_ →
 Pure E E0 Tryz.prog 138 [.cell (vL flV l_)] (c1 (vL flV r_)) := by
 refine fnE hb Tryz.func138 rfl fun r_ hq => ?_
 refine ifE hb 11 [8] [] hq (fun hq _ => ?_) (fun hq _ => ?_)
 exact retE hb 5 (injO hq).symm
 refine mk0E flV hb 6 hq fun u2 hu2 hq => ?_
 refine cpE hb 10 [3, 12, 13, 14] (s' := ⟨none, [pick (bodyOf Tryz.f138) [1, 1, 1, 0, 1, 0]], [(0, [pick (bodyOf Tryz.f138) [1, 1, 1, 1]])], sl 25 [(3, c1 (vO flV 0 [])), (12, c1 (vL flV l_)), (13, c1 (vi (l_.length : Int))), (14, c1 (vi 0))], [some (arO false flV.sz 0 (flV.f []))]⟩) ?_
 refine loopE hb 0 (gQ80 r_value_copied l_) (fun s1 => sl 25 [(3, c1 (vO flV 0 s1.2)), (12, c1 (vL flV l_)), (13, c1 (vi (l_.length : Int))), (14, c1 (vi s1.1))]) (fun s1 => [some (arO false flV.sz 0 (flV.f s1.2))]) [3, 12, 13, 14] [] 1 (s0 := (0, [])) ⟨(under_arO _ _ _ _ _), trivial⟩ hq (fun s1 x1 hq hn1 he1 => ?_)
 refine ifE hb 5 [15] [] hq (fun hq _ => ?_) (fun hq _ => ?_)
 refine idxE hb flV 6 hq fun x4 hx4 hq => ?_
 refine callE hb 7 hq (hr_value_copied x4) fun y5 hy5 hq => ?_
 refine appOwnE flV hb 1 0 false 0 (flV.one y5) hq fun l6 hl6 hq => ?_
 exact backE hb 7 [3, 12, 13, 14] [] 1 (hn1 _ (injO hq)) ⟨(under_arO _ _ _ _ _), trivial⟩
 refine markE hb 7 0 false (sz := flV.sz) (fr := 0) (cs := flV.f s1.2) (by kernel_rfl) (Nat.zero_le _) ?_
 refine cellTE hb 0 2 (c := vO flV 0 s1.2) (conv_own flV (nb := false) (id := 0) (xs := s1.2) (by kernel_rfl)) ?_
 exact retE hb 0 (he1 _ (injO hq))
noncomputable def gQ7x (r_value_copies : List Val → Option (List Val)) (v_ : Val) : Option (Val) :=
 (clone 16 v_.keys).bind fun y1 => (r_value_copies v_.items).bind fun y2 => some (Val.mk v_.kind v_.num v_.str y2 y1)
theorem gQ7y (hb : Base E E0 G) (he : ∀ w, E w → EnvV w) (r_value_copies : List Val → Option (List Val)) (hr_value_copies : ∀ (a0 : List Val) (r : List Val), r_value_copies a0 = some r → Pure E E0 Tryz.prog 138 [.cell (vL flV a0)] (c1 (vL flV r))) (v_ : Val) : ∀ r_ : Val, gQ7x r_value_copies v_ = some r_ →
 Pure E E0 Tryz.prog 109 [.agg (aV v_)] (.one (.agg (aV r_))) := by
 refine fnE hb Tryz.func109 rfl fun r_ hq => ?_
 refine callE hb 9 hq (cloneK_g hb he v_.keys) fun y1 hy1 hq => ?_
 refine callE hb 7 hq (hr_value_copies v_.items) fun y2 hy2 hq => ?_
 exact retE hb 8 (injO hq).symm
noncomputable def tQ97 (rec : Val → Unit → Option (Val)) (a : Val) (b : Unit) : Option (Val) :=
 gQ7x (gQ7z (fun a0 => rec a0 ())) a
noncomputable def tQ95 (a0 : Val) : Option (Val) := tieF relV wfV tQ97 a0 ()
theorem tQ96 (hb : Base E E0 G) (he : ∀ w, E w → EnvV w) (a0 : Val) (r : Val) (hq : tQ95 a0 = some r) : Pure E E0 Tryz.prog 109 [.agg (aV a0)] (.one (.agg (aV r))) :=
 tieF_ok (C := fun a b r => Pure E E0 Tryz.prog 109 [.agg (aV a)] (.one (.agg (aV r)))) (fun rec hr a b r hq => gQ7y hb he (gQ7z (fun a0 => rec a0 ())) (gQ81 hb he (fun a0 => rec a0 ()) (fun a0 r e => hr a0 () r e)) a r hq) a0 () r hq
noncomputable def gQ77  (v_ : Val) (key_ : ByteArray) : Option (Val × Bool) :=
 (gQ5y v_.keys key_).bind fun y1 => bif (!decide (v_.kind = 5)) then some ((Val.mk 0 0 eS [] []), false) else bif (!y1.2) then some ((Val.mk 0 0 eS [] []), false) else bif (decide (y1.1 ≥ (v_.items.length : Int))) then some ((Val.mk 0 0 eS [] []), false) else (idx v_.items y1.1).bind fun x5 => (tQ95 x5).bind fun y6 => some (y6, true)
theorem gQ78 (hb : Base E E0 G) (he : ∀ w, E w → EnvV w)   (v_ : Val) (key_ : ByteArray) : ∀ r_ : Val × Bool, gQ77 v_ key_ = some r_ →
 Pure E E0 Tryz.prog 91 [.agg (aV v_), .cell (vS key_)] (.tup [.agg (aV r_.1), .cell (vB r_.2)]) := by
 refine fnE hb Tryz.func91 rfl fun r_ hq => ?_
 refine callE hb 11 hq (gQ60 hb he v_.keys key_) fun y1 hy1 hq => ?_
 refine ifE hb 13 [17, 18] [] hq (fun hq _ => ?_) (fun hq _ => ?_)
 exact retE hb 18 (injO hq).symm
 refine ifE hb 4 [20, 21, 22] [] hq (fun hq _ => ?_) (fun hq _ => ?_)
 exact retE hb 14 (injO hq).symm
 refine ifE hb 7 [27, 28] [] hq (fun hq _ => ?_) (fun hq _ => ?_)
 exact retE hb 7 (injO hq).symm
 refine idxE hb flV 7 hq fun x5 hx5 hq => ?_
 refine callE hb 1 hq (tQ96 hb he x5) fun y6 hy6 hq => ?_
 exact retE hb 3 (injO hq).symm
noncomputable def gQ5i  (v_ : Val) (name_ : ByteArray) : Option (Val) :=
 (gQ77 v_ name_).bind fun y1 => some (y1.1)
theorem gQ5j (hb : Base E E0 G) (he : ∀ w, E w → EnvV w)   (v_ : Val) (name_ : ByteArray) : ∀ r_ : Val, gQ5i v_ name_ = some r_ →
 Pure E E0 Tryz.prog 60 [.agg (aV v_), .cell (vS name_)] (.one (.agg (aV r_))) := by
 refine fnE hb Tryz.func60 rfl fun r_ hq => ?_
 refine callE hb 9 hq (gQ78 hb he v_ name_) fun y1 hy1 hq => ?_
 exact retE hb 12 (injO hq).symm
noncomputable def gQ70  (b_ : Bool) : Option (Val) :=
 bif b_ then some (Val.mk 1 1 eS [] []) else some (Val.mk 1 0 eS [] [])
theorem gQ71 (hb : Base E E0 G) (he : ∀ w, E w → EnvV w)   (b_ : Bool) : ∀ r_ : Val, gQ70 b_ = some r_ →
 Pure E E0 Tryz.prog 179 [.cell (vB b_)] (.one (.agg (aV r_))) := by
 refine fnE hb Tryz.func179 rfl fun r_ hq => ?_
 refine ifE hb 15 [0, 5] [] hq (fun hq _ => ?_) (fun hq _ => ?_)
 exact retE hb 10 (injO hq).symm
 exact retE hb 7 (injO hq).symm
noncomputable def gQ0d  (v_ : Val) : Option (Val × Int) :=
 bif (decide (v_.kind = 1)) then some (v_, 0) else bif (decide (v_.kind = 3)) then bif (decide (v_.str = (⟨#[116, 114, 117, 101]⟩ : ByteArray))) then (gQ70 true).bind fun y4 => some (y4, 0) else bif (decide (v_.str = (⟨#[102, 97, 108, 115, 101]⟩ : ByteArray))) then (gQ70 false).bind fun y6 => some (y6, 0) else some ((Val.mk 0 0 eS [] []), 6) else some ((Val.mk 0 0 eS [] []), 6)
theorem gQ0e (hb : Base E E0 G) (he : ∀ w, E w → EnvV w)   (v_ : Val) : ∀ r_ : Val × Int, gQ0d v_ = some r_ →
 Pure E E0 Tryz.prog 154 [.agg (aV v_)] (.tup [.agg (aV r_.1), .cell (vi r_.2)]) := by
 refine fnE hb Tryz.func154 rfl fun r_ hq => ?_
 refine ifE hb 15 [4, 7] [] hq (fun hq _ => ?_) (fun hq _ => ?_)
 exact retE hb 7 (injO hq).symm
 refine ifE hb 7 [12, 13] [] hq (fun hq hc2 => ?_) (fun hq hc2 => ?_)
 refine ifE hb 6 [9, 16, 17] [] hq (fun hq _ => ?_) (fun hq _ => ?_)
 refine callE hb 3 hq (gQ71 hb he true) fun y4 hy4 hq => ?_
 exact retE hb 3 (injO hq).symm
 refine knE hb 7 [22, 23] [] (b := (decide (v_.kind = 3))) (v := true) hc2 ?_
 refine ifE hb 6 [19, 26, 27] [] hq (fun hq _ => ?_) (fun hq _ => ?_)
 refine callE hb 3 hq (gQ71 hb he false) fun y6 hy6 hq => ?_
 exact retE hb 3 (injO hq).symm
 exact retE hb 9 (injO hq).symm
 refine knE hb 13 [22, 23] [] (b := (decide (v_.kind = 3))) (v := false) hc2 ?_
 exact retE hb 15 (injO hq).symm
noncomputable def gQ7m  (n_ : Int) : Option (Val) :=
 some (Val.mk 2 n_ eS [] [])
theorem gQ7n (hb : Base E E0 G) (he : ∀ w, E w → EnvV w)   (n_ : Int) : ∀ r_ : Val, gQ7m n_ = some r_ →
 Pure E E0 Tryz.prog 181 [.cell (vi n_)] (.one (.agg (aV r_))) := by
 refine fnE hb Tryz.func181 rfl fun r_ hq => ?_
 exact retE hb 10 (injO hq).symm
noncomputable def gQ0f  (v_ : Val) : Option (Val × Int) :=
 bif (decide (v_.kind = 2)) then some (v_, 0) else bif (!decide (v_.kind = 3)) then some ((Val.mk 0 0 eS [] []), 6) else (m_parse v_.str).bind fun y3 => bif (!decide (y3.2 = 0)) then some ((Val.mk 0 0 eS [] []), 6) else (gQ7m y3.1).bind fun y5 => some (y5, 0)
theorem gQ0g (hb : Base E E0 G) (he : ∀ w, E w → EnvV w)   (v_ : Val) : ∀ r_ : Val × Int, gQ0f v_ = some r_ →
 Pure E E0 Tryz.prog 155 [.agg (aV v_)] (.tup [.agg (aV r_.1), .cell (vi r_.2)]) := by
 refine fnE hb Tryz.func155 rfl fun r_ hq => ?_
 refine ifE hb 13 [8] [] hq (fun hq _ => ?_) (fun hq _ => ?_)
 exact retE hb 7 (injO hq).symm
 refine ifE hb 9 [12] [] hq (fun hq _ => ?_) (fun hq _ => ?_)
 exact retE hb 7 (injO hq).symm
 refine callE hb 6 hq (parse_g hb he v_.str) fun y3 hy3 hq => ?_
 refine ifE hb 12 [21] [] hq (fun hq _ => ?_) (fun hq _ => ?_)
 exact retE hb 7 (injO hq).symm
 refine callE hb 5 hq (gQ7n hb he y3.1) fun y5 hy5 hq => ?_
 exact retE hb 3 (injO hq).symm
noncomputable def gQ7t  (s_ : ByteArray) : Option (Val) :=
 some (Val.mk 3 0 s_ [] [])
theorem gQ7u (hb : Base E E0 G) (he : ∀ w, E w → EnvV w)   (s_ : ByteArray) : ∀ r_ : Val, gQ7t s_ = some r_ →
 Pure E E0 Tryz.prog 129 [.cell (vS s_)] (.one (.agg (aV r_))) := by
 refine fnE hb Tryz.func129 rfl fun r_ hq => ?_
 exact retE hb 10 (injO hq).symm
noncomputable def gQ0l  (v_ : Val) : Option (Val × Int) :=
 bif (decide (v_.kind = 3)) then some (v_, 0) else bif (decide (v_.kind = 2)) then (m_format v_.num).bind fun y3 => (gQ7t y3).bind fun y4 => some (y4, 0) else bif (decide (v_.kind = 1)) then bif (decide (v_.num = 1)) then (gQ7t (⟨#[116, 114, 117, 101]⟩ : ByteArray)).bind fun y7 => some (y7, 0) else (gQ7t (⟨#[102, 97, 108, 115, 101]⟩ : ByteArray)).bind fun y8 => some (y8, 0) else some ((Val.mk 0 0 eS [] []), 6)
theorem gQ0m (hb : Base E E0 G) (he : ∀ w, E w → EnvV w)   (v_ : Val) : ∀ r_ : Val × Int, gQ0l v_ = some r_ →
 Pure E E0 Tryz.prog 156 [.agg (aV v_)] (.tup [.agg (aV r_.1), .cell (vi r_.2)]) := by
 refine fnE hb Tryz.func156 rfl fun r_ hq => ?_
 refine ifE hb 15 [4, 7] [] hq (fun hq _ => ?_) (fun hq _ => ?_)
 exact retE hb 7 (injO hq).symm
 refine ifE hb 8 [9, 12] [] hq (fun hq _ => ?_) (fun hq _ => ?_)
 refine callE hb 5 hq (format_g hb he v_.num) fun y3 hy3 hq => ?_
 refine callE hb 0 hq (gQ7u hb he y3) fun y4 hy4 hq => ?_
 exact retE hb 3 (injO hq).symm
 refine ifE hb 7 [20, 21] [] hq (fun hq hc5 => ?_) (fun hq hc5 => ?_)
 refine ifE hb 6 [17, 24, 25] [] hq (fun hq _ => ?_) (fun hq _ => ?_)
 refine callE hb 3 hq (gQ7u hb he (⟨#[116, 114, 117, 101]⟩ : ByteArray)) fun y7 hy7 hq => ?_
 exact retE hb 3 (injO hq).symm
 refine knE hb 8 [27, 30] [] (b := (decide (v_.kind = 1))) (v := true) hc5 ?_
 refine callE hb 3 hq (gQ7u hb he (⟨#[102, 97, 108, 115, 101]⟩ : ByteArray)) fun y8 hy8 hq => ?_
 exact retE hb 3 (injO hq).symm
 refine knE hb 14 [27, 30] [] (b := (decide (v_.kind = 1))) (v := false) hc5 ?_
 exact retE hb 9 (injO hq).symm
noncomputable def gQ0a (r_convert_to : Val → Ty → Option (Val × Int)) (v_ : Val) (t_ : Ty) (y1 : List ByteArray) (s1 : Int × List Val) : Option ((Int × List Val) ⊕ (Val × Int)) :=
 bif (decide (s1.1 < (v_.items.length : Int))) then (idx v_.items s1.1).bind fun x3 => (r_convert_to x3 t_).bind fun y4 => bif (!decide (y4.2 = 0)) then some (.inr ((Val.mk 0 0 eS [] []), y4.2)) else (app 80 s1.2 [y4.1]).bind fun l6 => some (.inl ((IntKind.i64.wrap (s1.1 + 1)), l6)) else some (.inr ((Val.mk v_.kind 0 eS s1.2 y1), 0))
noncomputable def gQ09 (r_convert_to : Val → Ty → Option (Val × Int)) (v_ : Val) (t_ : Ty) : Option (Val × Int) :=
 (clone 16 v_.keys).bind fun y1 => loopO (gQ0a r_convert_to v_ t_ y1) (0, [])
theorem gQ0b (hb : Base E E0 G) (he : ∀ w, E w → EnvV w) (r_convert_to : Val → Ty → Option (Val × Int)) (hr_convert_to : ∀ (a0 : Val) (a1 : Ty) (r : Val × Int), r_convert_to a0 a1 = some r → Pure E E0 Tryz.prog 137 [.agg (aV a0), .agg (aT a1)] (.tup [.agg (aV r.1), .cell (vi r.2)])) (v_ : Val) (t_ : Ty) : ∀ r_ : Val × Int, gQ09 r_convert_to v_ t_ = some r_ →
 Pure E E0 Tryz.prog 157 [.agg (aV v_), .agg (aT t_)] (.tup [.agg (aV r_.1), .cell (vi r_.2)]) := by
 refine fnE hb Tryz.func157 rfl fun r_ hq => ?_
 refine drawE hb mixed 8 7 [] ?_
 refine callE hb 4 hq (cloneK_g hb he v_.keys) fun y1 hy1 hq => ?_
 refine cpE hb 14 [3, 4, 6, 18, 19, 20] (s' := ⟨none, [pick (bodyOf Tryz.f157) [1, 1, 0, 1, 0]], [(0, [pick (bodyOf Tryz.f157) [1, 1, 1]])], sl 42 [(3, pt 1), (4, pt 2), (6, pt 3), (18, c1 (vL flV v_.items)), (19, c1 (vi (v_.items.length : Int))), (20, c1 (vi 0))], [bx (aV v_), bx (aT t_), bx zV, bx [vi v_.kind, vi 0, vS eS, vN, vL flS y1]]⟩) ?_
 refine ownSE hb 0 3 3 5 (cs := [vi v_.kind, vi 0, vS eS, vN, vL flS y1]) (by kernel_rfl) ?_
 refine loopE hb 0 (gQ0a r_convert_to v_ t_ y1) (fun s1 => sl 42 [(3, pt 1), (4, pt 2), (6, pt 3), (18, c1 (vL flV v_.items)), (19, c1 (vi (v_.items.length : Int))), (20, c1 (vi s1.1))]) (fun s1 => [none, bx (aT t_), bx zV, bx [vi v_.kind, vi 0, vS eS, vO flV 4 s1.2, vL flS y1], some (arO true flV.sz 0 (flV.f s1.2))]) [3, 4, 6, 18, 19, 20] [0] 5 (s0 := (0, [])) ⟨rfl, (by kernel_rfl), (by kernel_rfl), (by kernel_rfl), (under_arO _ _ _ _ _), trivial⟩ hq (fun s1 x1 hq hn1 he1 => ?_)
 refine ifE hb 5 [21] [] hq (fun hq _ => ?_) (fun hq _ => ?_)
 refine idxE hb flV 6 hq fun x3 hx3 hq => ?_
 refine callE hb 8 hq (hr_convert_to x3 t_) fun y4 hy4 hq => ?_
 refine ifE hb 13 [31] [] hq (fun hq _ => ?_) (fun hq _ => ?_)
 exact retE hb 8 (he1 _ (injO hq))
 refine appOwnE flV hb 7 4 true 0 (flV.one y4.1) hq fun l6 hl6 hq => ?_
 exact backE hb 8 [3, 4, 6, 18, 19, 20] [] 5 (hn1 _ (injO hq)) ⟨rfl, (by kernel_rfl), (by kernel_rfl), (by kernel_rfl), (under_arO _ _ _ _ _), trivial⟩
 refine markE hb 8 4 true (sz := flV.sz) (fr := 0) (cs := flV.f s1.2) (by kernel_rfl) (Nat.zero_le _) ?_
 refine cellSE hb 0 2 3 (cs := [vi v_.kind, vi 0, vS eS, vO flV 4 s1.2, vL flS y1]) (c := vO flV 4 s1.2) (conv_own flV (nb := true) (id := 4) (xs := s1.2) (by kernel_rfl)) (by kernel_rfl) ?_
 exact retE hb 0 (he1 _ (injO hq))
noncomputable def gQ0j (r_convert_to : Val → Ty → Option (Val × Int)) (v_ : Val) (t_ : Ty) (y5 : List ByteArray) (s2 : Int × List Val) : Option ((Int × List Val) ⊕ ((Int) ⊕ (Val × Int))) :=
 bif (decide (s2.1 < (t_.names.length : Int))) then (idx t_.names s2.1).bind fun x7 => (gQ77 v_ x7).bind fun y8 => (idx t_.elems s2.1).bind fun x9 => (r_convert_to y8.1 x9).bind fun y10 => bif (!decide (y10.2 = 0)) then some (.inr (.inr ((Val.mk 0 0 eS [] []), y10.2))) else (app 80 s2.2 [y10.1]).bind fun l12 => some (.inl ((IntKind.i64.wrap (s2.1 + 1)), l12)) else some (.inr (.inr ((Val.mk 5 0 eS s2.2 y5), 0)))
noncomputable def gQ0i (r_convert_to : Val → Ty → Option (Val × Int)) (v_ : Val) (t_ : Ty) (s1 : Int) : Option ((Int) ⊕ (Val × Int)) :=
 bif (decide (s1 < (v_.keys.length : Int))) then (idx v_.keys s1).bind fun x2 => (gQ61 t_.names x2).bind fun y3 => bif (!y3) then some (.inr ((Val.mk 0 0 eS [] []), 13)) else some (.inl (IntKind.i64.wrap (s1 + 1))) else (clone 16 t_.names).bind fun y5 => loopO (gQ0j r_convert_to v_ t_ y5) (0, [])
noncomputable def gQ0h (r_convert_to : Val → Ty → Option (Val × Int)) (v_ : Val) (t_ : Ty) : Option (Val × Int) :=
 loopO (gQ0i r_convert_to v_ t_) 0
theorem gQ0k (hb : Base E E0 G) (he : ∀ w, E w → EnvV w) (r_convert_to : Val → Ty → Option (Val × Int)) (hr_convert_to : ∀ (a0 : Val) (a1 : Ty) (r : Val × Int), r_convert_to a0 a1 = some r → Pure E E0 Tryz.prog 137 [.agg (aV a0), .agg (aT a1)] (.tup [.agg (aV r.1), .cell (vi r.2)])) (v_ : Val) (t_ : Ty) : ∀ r_ : Val × Int, gQ0h r_convert_to v_ t_ = some r_ →
 Pure E E0 Tryz.prog 158 [.agg (aV v_), .agg (aT t_)] (.tup [.agg (aV r_.1), .cell (vi r_.2)]) := by
 refine fnE hb Tryz.func158 rfl fun r_ hq => ?_
 refine loopE hb 16 (gQ0i r_convert_to v_ t_) (fun s1 => sl 69 [(2, pt 0), (3, pt 1), (4, pt 2), (16, c1 (vL flS v_.keys)), (17, c1 (vi (v_.keys.length : Int))), (18, c1 (vi s1))]) (fun s1 => [bx (aV v_), bx (aT t_), bx zV]) [2, 3, 4, 16, 17, 18] [] 3 (s0 := 0) ⟨(by kernel_rfl), (by kernel_rfl), (by kernel_rfl), trivial⟩ hq (fun s1 x1 hq hn1 he1 => ?_)
 refine ifE hb 5 [19] [] hq (fun hq _ => ?_) (fun hq _ => ?_)
 refine idxE hb flS 6 hq fun x2 hx2 hq => ?_
 refine callE hb 8 hq (gQ62 hb he t_.names x2) fun y3 hy3 hq => ?_
 refine ifE hb 2 [26] [] hq (fun hq _ => ?_) (fun hq _ => ?_)
 exact retE hb 7 (he1 _ (injO hq))
 exact backE hb 7 [2, 3, 4, 16, 17, 18] [] 3 (hn1 _ (injO hq)) ⟨(by kernel_rfl), (by kernel_rfl), (by kernel_rfl), trivial⟩
 refine callE hb 6 hq (cloneK_g hb he t_.names) fun y5 hy5 hq => ?_
 refine cpE hb 13 [2, 3, 4, 8, 34, 35, 36] (s' := ⟨none, [pick (bodyOf Tryz.f158) [1, 1, 1, 0, 1, 0]], [(2, [pick (bodyOf Tryz.f158) [1, 1, 1, 1]])], sl 69 [(2, pt 0), (3, pt 1), (4, pt 2), (8, pt 3), (34, c1 (vL flS t_.names)), (35, c1 (vi (t_.names.length : Int))), (36, c1 (vi 0))], [bx (aV v_), bx (aT t_), bx zV, bx [vi 5, vi 0, vS eS, vN, vL flS y5]]⟩) ?_
 refine ownSE hb 0 3 3 5 (cs := [vi 5, vi 0, vS eS, vN, vL flS y5]) (by kernel_rfl) ?_
 refine loopE hb 0 (gQ0j r_convert_to v_ t_ y5) (fun s2 => sl 69 [(2, pt 0), (3, pt 1), (4, pt 2), (8, pt 3), (34, c1 (vL flS t_.names)), (35, c1 (vi (t_.names.length : Int))), (36, c1 (vi s2.1))]) (fun s2 => [bx (aV v_), bx (aT t_), bx zV, bx [vi 5, vi 0, vS eS, vO flV 4 s2.2, vL flS y5], some (arO true flV.sz 0 (flV.f s2.2))]) [2, 3, 4, 8, 34, 35, 36] [] 5 (s0 := (0, [])) ⟨(by kernel_rfl), (by kernel_rfl), (by kernel_rfl), (by kernel_rfl), (under_arO _ _ _ _ _), trivial⟩ hq (fun s2 x2 hq hn2 he2 => ?_)
 refine ifE hb 5 [37] [] hq (fun hq _ => ?_) (fun hq _ => ?_)
 refine idxE hb flS 7 hq fun x7 hx7 hq => ?_
 refine callE hb 8 hq (gQ78 hb he v_ x7) fun y8 hy8 hq => ?_
 refine drawE hb mixed 8 11 [9] ?_
 refine idxE hb flT 4 hq fun x9 hx9 hq => ?_
 refine callE hb 1 hq (hr_convert_to y8.1 x9) fun y10 hy10 hq => ?_
 refine cpE hb 10 [2, 3, 4, 8, 13, 14, 34, 35, 36] (s' := ⟨none, [pick (bodyOf Tryz.f158) [1, 1, 1, 0, 1, 0, 0, 1, 1, 0, 0, 1, 1, 1, 0, 0], pick (bodyOf Tryz.f158) [1, 1, 1, 0, 1, 0, 0, 1, 1, 0, 0, 1, 1, 1, 0, 1], pick (bodyOf Tryz.f158) [1, 1, 1, 0, 1, 0, 0, 1, 1, 0, 0, 1, 1, 1, 1]], [(3, [pick (bodyOf Tryz.f158) [1, 1, 1, 0, 1, 0, 0, 1, 1, 1], pick (bodyOf Tryz.f158) [1, 1, 1, 0, 1, 0]]), (2, [pick (bodyOf Tryz.f158) [1, 1, 1, 1]])], sl 69 [(2, pt 0), (3, pt 1), (4, pt 2), (8, pt 3), (13, pt 6), (14, c1 (vi y10.2)), (34, c1 (vL flS t_.names)), (35, c1 (vi (t_.names.length : Int))), (36, c1 (vi s2.1))], [bx (aV v_), bx (aT t_), bx zV, bx [vi 5, vi 0, vS eS, vO flV 4 s2.2, vL flS y5], some (arO true flV.sz 0 (flV.f s2.2)), bx (aV y8.1), bx (aV y10.1)]⟩) ?_
 refine ifE hb 4 [58] [] hq (fun hq _ => ?_) (fun hq _ => ?_)
 exact retE hb 8 (he1 _ ((he2 _ (injO hq)).symm))
 refine appOwnE flV hb 7 4 true 0 (flV.one y10.1) hq fun l12 hl12 hq => ?_
 exact backE hb 8 [2, 3, 4, 8, 34, 35, 36] [] 5 (hn2 _ (injO hq)) ⟨(by kernel_rfl), (by kernel_rfl), (by kernel_rfl), (by kernel_rfl), (under_arO _ _ _ _ _), trivial⟩
 refine markE hb 8 4 true (sz := flV.sz) (fr := 0) (cs := flV.f s2.2) (by kernel_rfl) (Nat.zero_le _) ?_
 refine cellSE hb 0 2 3 (cs := [vi 5, vi 0, vS eS, vO flV 4 s2.2, vL flS y5]) (c := vO flV 4 s2.2) (conv_own flV (nb := true) (id := 4) (xs := s2.2) (by kernel_rfl)) (by kernel_rfl) ?_
 exact retE hb 0 (he1 _ ((he2 _ (injO hq)).symm))
noncomputable def gQ0c (r_convert_toObject : Val → Ty → Option (Val × Int)) (r_convert_each : Val → Ty → Option (Val × Int)) (v_ : Val) (t_ : Ty) : Option (Val × Int) :=
 bif (decide (t_.kind = 0)) then (cpy v_).bind fun y2 => some (y2, 0) else bif (decide (v_.kind = 0)) then (cpy v_).bind fun y4 => some (y4, 0) else bif (decide (v_.kind = 6)) then (cpy v_).bind fun y6 => some (y6, 0) else bif (decide (t_.kind = 1)) then (gQ0d v_).bind fun y8 => some (y8.1, y8.2) else bif (decide (t_.kind = 2)) then (gQ0f v_).bind fun y10 => some (y10.1, y10.2) else bif (decide (t_.kind = 3)) then (gQ0l v_).bind fun y12 => some (y12.1, y12.2) else bif (decide (t_.kind = 4)) then bif (decide (v_.kind = 4)) then (idx t_.elems 0).bind fun x15 => (r_convert_each v_ x15).bind fun y16 => some (y16.1, y16.2) else some ((Val.mk 0 0 eS [] []), 6) else bif (decide (t_.kind = 5)) then bif (decide (v_.kind = 5)) then (idx t_.elems 0).bind fun x19 => (r_convert_each v_ x19).bind fun y20 => some (y20.1, y20.2) else some ((Val.mk 0 0 eS [] []), 6) else bif (decide (t_.kind = 6)) then bif (decide (v_.kind = 5)) then (r_convert_toObject v_ t_).bind fun y23 => some (y23.1, y23.2) else some ((Val.mk 0 0 eS [] []), 6) else some ((Val.mk 0 0 eS [] []), 6)
theorem gQ0n (hb : Base E E0 G) (he : ∀ w, E w → EnvV w) (r_convert_toObject : Val → Ty → Option (Val × Int)) (r_convert_each : Val → Ty → Option (Val × Int)) (hr_convert_toObject : ∀ (a0 : Val) (a1 : Ty) (r : Val × Int), r_convert_toObject a0 a1 = some r → Pure E E0 Tryz.prog 158 [.agg (aV a0), .agg (aT a1)] (.tup [.agg (aV r.1), .cell (vi r.2)])) (hr_convert_each : ∀ (a0 : Val) (a1 : Ty) (r : Val × Int), r_convert_each a0 a1 = some r → Pure E E0 Tryz.prog 157 [.agg (aV a0), .agg (aT a1)] (.tup [.agg (aV r.1), .cell (vi r.2)])) (v_ : Val) (t_ : Ty) : ∀ r_ : Val × Int, gQ0c r_convert_toObject r_convert_each v_ t_ = some r_ →
 Pure E E0 Tryz.prog 137 [.agg (aV v_), .agg (aT t_)] (.tup [.agg (aV r_.1), .cell (vi r_.2)]) := by
 refine fnE hb Tryz.func137 rfl fun r_ hq => ?_
 refine ifE hb 14 [8, 9] [] hq (fun hq _ => ?_) (fun hq _ => ?_)
 refine callE hb 14 hq (copied_convert_g hb he v_) fun y2 hy2 hq => ?_
 exact retE hb 3 (injO hq).symm
 refine ifE hb 5 [12, 13, 14] [] hq (fun hq _ => ?_) (fun hq _ => ?_)
 refine callE hb 9 hq (copied_convert_g hb he v_) fun y4 hy4 hq => ?_
 exact retE hb 3 (injO hq).symm
 refine ifE hb 5 [17, 18] [] hq (fun hq _ => ?_) (fun hq _ => ?_)
 refine callE hb 4 hq (copied_convert_g hb he v_) fun y6 hy6 hq => ?_
 exact retE hb 3 (injO hq).symm
 refine ifE hb 14 [23, 24] [] hq (fun hq _ => ?_) (fun hq _ => ?_)
 refine callE hb 4 hq (gQ0e hb he v_) fun y8 hy8 hq => ?_
 exact retE hb 5 (injO hq).symm
 refine ifE hb 6 [29, 30] [] hq (fun hq _ => ?_) (fun hq _ => ?_)
 refine callE hb 4 hq (gQ0g hb he v_) fun y10 hy10 hq => ?_
 exact retE hb 5 (injO hq).symm
 refine ifE hb 6 [35, 36] [] hq (fun hq _ => ?_) (fun hq _ => ?_)
 refine callE hb 4 hq (gQ0m hb he v_) fun y12 hy12 hq => ?_
 exact retE hb 5 (injO hq).symm
 refine ifE hb 6 [41, 42] [] hq (fun hq _ => ?_) (fun hq _ => ?_)
 refine cpE hb 2 [2, 3, 4] (s' := ⟨none, [pick (bodyOf Tryz.f137) [1, 1, 0, 1, 0, 1, 1, 1, 1, 1, 1, 1, 0, 0], pick (bodyOf Tryz.f137) [1, 1, 0, 1, 0, 1, 1, 1, 1, 1, 1, 1, 0, 1]], [(0, [pick (bodyOf Tryz.f137) [1, 1, 1]])], sl 78 [(2, pt 0), (3, pt 1), (4, pt 2)], [bx (aV v_), bx (aT t_), bx zV]⟩) ?_
 refine ifE hb 5 [45] [] hq (fun hq _ => ?_) (fun hq _ => ?_)
 refine drawE hb mixed 2 7 [6] ?_
 refine idxE hb flT 3 hq fun x15 hx15 hq => ?_
 refine callE hb 1 hq (hr_convert_each v_ x15) fun y16 hy16 hq => ?_
 exact retE hb 6 (injO hq).symm
 exact retE hb 9 (injO hq).symm
 refine cpE hb 2 [2, 3, 4, 22] (s' := ⟨none, [pick (bodyOf Tryz.f137) [1, 1, 0, 1, 0, 1, 1, 1, 1, 1, 1, 1, 1, 0], pick (bodyOf Tryz.f137) [1, 1, 0, 1, 0, 1, 1, 1, 1, 1, 1, 1, 1, 1]], [(0, [pick (bodyOf Tryz.f137) [1, 1, 1]])], sl 78 [(2, pt 0), (3, pt 1), (4, pt 2), (22, c1 (vi t_.kind))], [bx (aV v_), bx (aT t_), bx zV]⟩) ?_
 refine ifE hb 4 [54, 55] [] hq (fun hq _ => ?_) (fun hq _ => ?_)
 refine ifE hb 7 [58] [] hq (fun hq _ => ?_) (fun hq _ => ?_)
 refine drawE hb mixed 2 7 [6] ?_
 refine idxE hb flT 3 hq fun x19 hx19 hq => ?_
 refine callE hb 1 hq (hr_convert_each v_ x19) fun y20 hy20 hq => ?_
 exact retE hb 6 (injO hq).symm
 exact retE hb 9 (injO hq).symm
 refine ifE hb 6 [67, 68] [] hq (fun hq _ => ?_) (fun hq _ => ?_)
 refine ifE hb 7 [71] [] hq (fun hq _ => ?_) (fun hq _ => ?_)
 refine callE hb 5 hq (hr_convert_toObject v_ t_) fun y23 hy23 hq => ?_
 exact retE hb 5 (injO hq).symm
 exact retE hb 9 (injO hq).symm
 exact retE hb 9 (injO hq).symm
noncomputable def tQ84 (rec : Ty → Val → Option (Val × Int)) (a : Ty) (b : Val) : Option (Val × Int) :=
 gQ0c (gQ0h (fun a0 a1 => rec a1 a0)) (gQ09 (fun a0 a1 => rec a1 a0)) b a
noncomputable def tQ82 (a0 : Val) (a1 : Ty) : Option (Val × Int) := tieF relT wfT tQ84 a1 a0
theorem tQ83 (hb : Base E E0 G) (he : ∀ w, E w → EnvV w) (a0 : Val) (a1 : Ty) (r : Val × Int) (hq : tQ82 a0 a1 = some r) : Pure E E0 Tryz.prog 137 [.agg (aV a0), .agg (aT a1)] (.tup [.agg (aV r.1), .cell (vi r.2)]) :=
 tieF_ok (C := fun a b r => Pure E E0 Tryz.prog 137 [.agg (aV b), .agg (aT a)] (.tup [.agg (aV r.1), .cell (vi r.2)])) (fun rec hr a b r hq => gQ0n hb he (gQ0h (fun a0 a1 => rec a1 a0)) (gQ09 (fun a0 a1 => rec a1 a0)) (gQ0k hb he (fun a0 a1 => rec a1 a0) (fun a0 a1 r e => hr a1 a0 r e)) (gQ0b hb he (fun a0 a1 => rec a1 a0) (fun a0 a1 r e => hr a1 a0 r e)) b a r hq) a1 a0 r hq
noncomputable def gQ07  (v_ : Val) (t_ : Ty) : Option (Val × Int) :=
 (tQ82 v_ t_).bind fun y1 => bif (decide (y1.2 = 0)) then (m_checkE y1.1).bind fun y3 => bif (!decide (y3 = 0)) then some ((Val.mk 0 0 eS [] []), y3) else some (y1.1, 0) else some ((Val.mk 0 0 eS [] []), y1.2)
theorem gQ08 (hb : Base E E0 G) (he : ∀ w, E w → EnvV w)   (v_ : Val) (t_ : Ty) : ∀ r_ : Val × Int, gQ07 v_ t_ = some r_ →
 Pure E E0 Tryz.prog 103 [.agg (aV v_), .agg (aT t_)] (.tup [.agg (aV r_.1), .cell (vi r_.2)]) := by
 refine fnE hb Tryz.func103 rfl fun r_ hq => ?_
 refine callE hb 11 hq (tQ83 hb he v_ t_) fun y1 hy1 hq => ?_
 refine ifE hb 13 [15] [] hq (fun hq _ => ?_) (fun hq hc2 => ?_)
 refine callE hb 3 hq (pCheck_g hb he y1.1) fun y3 hy3 hq => ?_
 refine ifE hb 8 [19] [] hq (fun hq _ => ?_) (fun hq _ => ?_)
 exact retE hb 8 (injO hq).symm
 exact retE hb 8 (injO hq).symm
 refine knE hb 8 [19] [] (b := (!decide (y1.2 = 0))) (v := true) (congrArg (fun z => !z) hc2) ?_
 exact retE hb 8 (injO hq).symm
noncomputable def gQ4o  (a_ : AttrG) (v_ : Val) : Option (Val × Int) :=
 (gQ5i v_ a_.name).bind fun y1 => bif (decide (a_.mode = 1)) then bif (decide (y1.kind = 0)) then some ((Val.mk 0 0 eS [] []), 12) else bif (decide (a_.mode = 3)) then some ((Val.mk 0 0 eS [] []), 13) else (gQ07 y1 a_.type_).bind fun y5 => some (y5.1, y5.2) else bif (decide (a_.mode = 3)) then bif (!decide (y1.kind = 0)) then some ((Val.mk 0 0 eS [] []), 13) else (gQ07 y1 a_.type_).bind fun y8 => some (y8.1, y8.2) else (gQ07 y1 a_.type_).bind fun y9 => some (y9.1, y9.2)
theorem gQ4p (hb : Base E E0 G) (he : ∀ w, E w → EnvV w)   (a_ : AttrG) (v_ : Val) : ∀ r_ : Val × Int, gQ4o a_ v_ = some r_ →
 Pure E E0 Tryz.prog 58 [.agg [vS a_.name, vi a_.type_.kind, vL flT a_.type_.elems, vL flS a_.type_.names, vi a_.mode, vB a_.replace, vB a_.sensitive, vB a_.volatile], .agg (aV v_)] (.tup [.agg (aV r_.1), .cell (vi r_.2)]) := by
 refine fnE hb Tryz.func58 rfl fun r_ hq => ?_
 refine callE hb 12 hq (gQ5j hb he v_ a_.name) fun y1 hy1 hq => ?_
 refine ifE hb 10 [13, 14] [] hq (fun hq _ => ?_) (fun hq _ => ?_)
 refine ifE hb 5 [17, 18] [] hq (fun hq _ => ?_) (fun hq hc3 => ?_)
 exact retE hb 7 (injO hq).symm
 refine ifE hb 9 [22, 23] [] hq (fun hq _ => ?_) (fun hq _ => ?_)
 refine knE hb 5 [26, 27] [] (b := (!decide (y1.kind = 0))) (v := true) (congrArg (fun z => !z) hc3) ?_
 exact retE hb 7 (injO hq).symm
 refine callE hb 12 hq (gQ08 hb he y1 a_.type_) fun y5 hy5 hq => ?_
 exact retE hb 5 (injO hq).symm
 refine ifE hb 14 [22, 23] [] hq (fun hq _ => ?_) (fun hq _ => ?_)
 refine ifE hb 5 [26, 27] [] hq (fun hq _ => ?_) (fun hq _ => ?_)
 exact retE hb 7 (injO hq).symm
 refine callE hb 7 hq (gQ08 hb he y1 a_.type_) fun y8 hy8 hq => ?_
 exact retE hb 5 (injO hq).symm
 refine callE hb 12 hq (gQ08 hb he y1 a_.type_) fun y9 hy9 hq => ?_
 exact retE hb 5 (injO hq).symm
noncomputable def gQ50  (n_ : NestedG) (v_ : Val) (x4 : ByteArray) (x6 : AttrG) : Option (Bool) :=
 some (decide (x6.name = x4))
theorem gQ51 (hb : Base E E0 G) (he : ∀ w, E w → EnvV w)   (n_ : NestedG) (v_ : Val) (x4 : ByteArray) (x6 : AttrG) : ∀ r_ : Bool, gQ50 n_ v_ x4 x6 = some r_ →
 Ok E E0 Tryz.prog 140 [.agg [vS x6.name, vi x6.type_.kind, vL flT x6.type_.elems, vL flS x6.type_.names, vi x6.mode, vB x6.replace, vB x6.sensitive, vB x6.volatile], .cell (.ptr 3 0 0)] [bx [vS n_.name, vi n_.min, vi n_.max, vL flAttrG n_.attrs, vB n_.replace], bx (aV v_), bx zV, bx [vS x4]] (c1 (vB r_)) [bx [vS n_.name, vi n_.min, vi n_.max, vL flAttrG n_.attrs, vB n_.replace], bx (aV v_), bx zV, bx [vS x4]] := by
 refine fnO hb Tryz.func140 rfl fun r_ hq => ?_
 exact retOE hb 13 [3] [] 4 (injO hq).symm ⟨(by kernel_rfl), (by kernel_rfl), (by kernel_rfl), (by kernel_rfl), trivial⟩
noncomputable def gQ4y (n_ : NestedG) (v_ : Val) (x4 : ByteArray) (s1 : Int) : Option ((Int) ⊕ (Int)) :=
 bif (decide (s1 < (n_.attrs.length : Int))) then (idx n_.attrs s1).bind fun x6 => (gQ50 n_ v_ x4 x6).bind fun y7 => bif y7 then some (.inr (s1)) else some (.inl (IntKind.i64.wrap (s1 + 1))) else some (.inr (-1))
noncomputable def gQ4x  (n_ : NestedG) (v_ : Val) (x4 : ByteArray) : Option (Int) :=
 loopO (gQ4y n_ v_ x4) 0
theorem gQ4z (hb : Base E E0 G) (he : ∀ w, E w → EnvV w)   (n_ : NestedG) (v_ : Val) (x4 : ByteArray) : ∀ r_ : Int, gQ4x n_ v_ x4 = some r_ →
 Ok E E0 Tryz.prog 159 [.cell (vL flAttrG n_.attrs), .cell (.fn 140 [(3, 0, 0)])] [bx [vS n_.name, vi n_.min, vi n_.max, vL flAttrG n_.attrs, vB n_.replace], bx (aV v_), bx zV, bx [vS x4]] (c1 (vi r_)) [bx [vS n_.name, vi n_.min, vi n_.max, vL flAttrG n_.attrs, vB n_.replace], bx (aV v_), bx zV, bx [vS x4]] := by
 refine fnO hb Tryz.func159 rfl fun r_ hq => ?_
 refine loopE hb 12 (gQ4y n_ v_ x4) (fun s1 => sl 19 [(0, c1 (vL flAttrG n_.attrs)), (1, c1 (.fn 140 [(3, 0, 0)])), (7, c1 (vi (n_.attrs.length : Int))), (8, c1 (vi s1))]) (fun s1 => [bx [vS n_.name, vi n_.min, vi n_.max, vL flAttrG n_.attrs, vB n_.replace], bx (aV v_), bx zV, bx [vS x4]]) [0, 1, 7, 8] [] 4 (s0 := 0) ⟨(by kernel_rfl), (by kernel_rfl), (by kernel_rfl), (by kernel_rfl), trivial⟩ hq (fun s1 x1 hq hn1 he1 => ?_)
 refine ifE hb 5 [9] [] hq (fun hq _ => ?_) (fun hq _ => ?_)
 refine idxE hb flAttrG 14 hq fun x6 hx6 hq => ?_
 refine callOE hb 1 hq (gQ51 hb he n_ v_ x4 x6) fun y7 hy7 hq => ?_
 refine ifE hb 1 [16] [] hq (fun hq _ => ?_) (fun hq _ => ?_)
 exact retOE hb 6 [4] [] 4 (he1 _ (injO hq)) ⟨(by kernel_rfl), (by kernel_rfl), (by kernel_rfl), (by kernel_rfl), trivial⟩
 exact backE hb 7 [0, 1, 7, 8] [] 4 (hn1 _ (injO hq)) ⟨(by kernel_rfl), (by kernel_rfl), (by kernel_rfl), (by kernel_rfl), trivial⟩
 exact retOE hb 6 [4] [] 4 (he1 _ (injO hq)) ⟨(by kernel_rfl), (by kernel_rfl), (by kernel_rfl), (by kernel_rfl), trivial⟩
noncomputable def gQ4v  (n_ : NestedG) (v_ : Val) (x4 : ByteArray) : Option (Bool) :=
 (gQ4x n_ v_ x4).bind fun y9 => some (decide (y9 ≥ 0))
theorem gQ4w (hb : Base E E0 G) (he : ∀ w, E w → EnvV w)   (n_ : NestedG) (v_ : Val) (x4 : ByteArray) : ∀ r_ : Bool, gQ4v n_ v_ x4 = some r_ →
 Ok E E0 Tryz.prog 139 [.cell (vL flAttrG n_.attrs), .cell (.fn 140 [(3, 0, 0)])] [bx [vS n_.name, vi n_.min, vi n_.max, vL flAttrG n_.attrs, vB n_.replace], bx (aV v_), bx zV, bx [vS x4]] (c1 (vB r_)) [bx [vS n_.name, vi n_.min, vi n_.max, vL flAttrG n_.attrs, vB n_.replace], bx (aV v_), bx zV, bx [vS x4]] := by
 refine fnO hb Tryz.func139 rfl fun r_ hq => ?_
 refine callOE hb 8 hq (gQ4z hb he n_ v_ x4) fun y9 hy9 hq => ?_
 exact retOE hb 3 [4] [] 4 (injO hq).symm ⟨(by kernel_rfl), (by kernel_rfl), (by kernel_rfl), (by kernel_rfl), trivial⟩
noncomputable def gQ4u (n_ : NestedG) (v_ : Val) (s2 : Int × List Val × List ByteArray) : Option ((Int × List Val × List ByteArray) ⊕ ((Int) ⊕ (Val × Int))) :=
 bif (decide (s2.1 < (n_.attrs.length : Int))) then (idx n_.attrs s2.1).bind fun x13 => (gQ4o x13 v_).bind fun y14 => bif (!decide (y14.2 = 0)) then some (.inr (.inr ((Val.mk 0 0 eS [] []), y14.2))) else (app 16 s2.2.2 [x13.name]).bind fun l16 => (app 80 s2.2.1 [y14.1]).bind fun l17 => some (.inl ((IntKind.i64.wrap (s2.1 + 1)), l17, l16)) else some (.inr (.inr ((Val.mk 5 0 eS s2.2.1 s2.2.2), 0)))
noncomputable def gQ4t (n_ : NestedG) (v_ : Val) (s1 : Int) : Option ((Int) ⊕ (Val × Int)) :=
 bif (decide (s1 < (v_.keys.length : Int))) then (idx v_.keys s1).bind fun x4 => (gQ4v n_ v_ x4).bind fun y10 => bif (!y10) then some (.inr ((Val.mk 0 0 eS [] []), 13)) else some (.inl (IntKind.i64.wrap (s1 + 1))) else loopO (gQ4u n_ v_) (0, [], [])
noncomputable def gQ4s  (n_ : NestedG) (v_ : Val) : Option (Val × Int) :=
 bif (decide (v_.kind = 6)) then some (v_, 0) else bif (!decide (v_.kind = 5)) then some ((Val.mk 0 0 eS [] []), 6) else loopO (gQ4t n_ v_) 0
theorem gQ52 (hb : Base E E0 G) (he : ∀ w, E w → EnvV w)   (n_ : NestedG) (v_ : Val) : ∀ r_ : Val × Int, gQ4s n_ v_ = some r_ →
 Pure E E0 Tryz.prog 105 [.agg [vS n_.name, vi n_.min, vi n_.max, vL flAttrG n_.attrs, vB n_.replace], .agg (aV v_)] (.tup [.agg (aV r_.1), .cell (vi r_.2)]) := by
 refine fnE hb Tryz.func105 rfl fun r_ hq => ?_
 refine ifE hb 14 [15] [] hq (fun hq _ => ?_) (fun hq _ => ?_)
 exact retE hb 7 (injO hq).symm
 refine ifE hb 9 [19] [] hq (fun hq _ => ?_) (fun hq _ => ?_)
 exact retE hb 7 (injO hq).symm
 refine cpE hb 11 [2, 3, 4, 22, 23, 24] (s' := ⟨none, [pick (bodyOf Tryz.f105) [1, 1, 1, 0, 1, 0]], [(0, [pick (bodyOf Tryz.f105) [1, 1, 1, 1]])], sl 68 [(2, pt 0), (3, pt 1), (4, pt 2), (22, c1 (vL flS v_.keys)), (23, c1 (vi (v_.keys.length : Int))), (24, c1 (vi 0))], [bx [vS n_.name, vi n_.min, vi n_.max, vL flAttrG n_.attrs, vB n_.replace], bx (aV v_), bx zV]⟩) ?_
 refine loopE hb 0 (gQ4t n_ v_) (fun s1 => sl 68 [(2, pt 0), (3, pt 1), (4, pt 2), (22, c1 (vL flS v_.keys)), (23, c1 (vi (v_.keys.length : Int))), (24, c1 (vi s1))]) (fun s1 => [bx [vS n_.name, vi n_.min, vi n_.max, vL flAttrG n_.attrs, vB n_.replace], bx (aV v_), bx zV]) [2, 3, 4, 22, 23, 24] [] 3 (s0 := 0) ⟨(by kernel_rfl), (by kernel_rfl), (by kernel_rfl), trivial⟩ hq (fun s1 x1 hq hn1 he1 => ?_)
 refine ifE hb 5 [25] [] hq (fun hq _ => ?_) (fun hq _ => ?_)
 refine idxE hb flS 6 hq fun x4 hx4 hq => ?_
 refine callOE hb 9 hq (gQ4w hb he n_ v_ x4) fun y10 hy10 hq => ?_
 refine ifE hb 2 [32] [] hq (fun hq _ => ?_) (fun hq _ => ?_)
 exact retE hb 7 (he1 _ (injO hq))
 exact backE hb 7 [2, 3, 4, 22, 23, 24] [] 3 (hn1 _ (injO hq)) ⟨(by kernel_rfl), (by kernel_rfl), (by kernel_rfl), trivial⟩
 refine ownSE hb 17 3 3 5 (cs := [vi 5, vi 0, vS eS, vN, vN]) (by kernel_rfl) ?_
 refine ownSE hb 0 3 4 1 (cs := [vi 5, vi 0, vS eS, vO flV 4 [], vN]) (by kernel_rfl) ?_
 refine loopE hb 0 (gQ4u n_ v_) (fun s2 => sl 68 [(3, pt 1), (4, pt 2), (8, pt 3), (37, c1 (vL flAttrG n_.attrs)), (38, c1 (vi (n_.attrs.length : Int))), (39, c1 (vi s2.1))]) (fun s2 => [none, bx (aV v_), bx zV, bx [vi 5, vi 0, vS eS, vO flV 4 s2.2.1, vO flS 5 s2.2.2], some (arO true flV.sz 0 (flV.f s2.2.1)), some (arO true flS.sz 0 (flS.f s2.2.2))]) [3, 4, 8, 37, 38, 39] [0] 6 (s0 := (0, [], [])) ⟨rfl, (by kernel_rfl), (by kernel_rfl), (by kernel_rfl), (under_arO _ _ _ _ _), (under_arO _ _ _ _ _), trivial⟩ hq (fun s2 x2 hq hn2 he2 => ?_)
 refine ifE hb 5 [40] [] hq (fun hq _ => ?_) (fun hq _ => ?_)
 refine idxE hb flAttrG 6 hq fun x13 hx13 hq => ?_
 refine callE hb 8 hq (gQ4p hb he x13 v_) fun y14 hy14 hq => ?_
 refine ifE hb 13 [50] [] hq (fun hq _ => ?_) (fun hq _ => ?_)
 refine cpE hb 2 [4, 12] (s' := ⟨none, [pick (bodyOf Tryz.f105) [1, 1, 1, 1, 1, 0, 1, 0, 0, 1, 1, 0, 0, 1, 1, 0, 1, 0, 0], pick (bodyOf Tryz.f105) [1, 1, 1, 1, 1, 0, 1, 0, 0, 1, 1, 0, 0, 1, 1, 0, 1, 0, 1], pick (bodyOf Tryz.f105) [1, 1, 1, 1, 1, 0, 1, 0, 0, 1, 1, 0, 0, 1, 1, 1]], [(3, [pick (bodyOf Tryz.f105) [1, 1, 1, 1, 1, 0, 1, 0, 0, 1, 1, 1], pick (bodyOf Tryz.f105) [1, 1, 1, 1, 1, 0, 1, 0]]), (2, [pick (bodyOf Tryz.f105) [1, 1, 1, 1, 1, 1]])], sl 68 [(4, pt 2), (12, c1 (vi y14.2))], [none, bx (aV v_), bx zV, bx [vi 5, vi 0, vS eS, vO flV 4 s2.2.1, vO flS 5 s2.2.2], some (arO true flV.sz 0 (flV.f s2.2.1)), some (arO true flS.sz 0 (flS.f s2.2.2)), bx [vS x13.name, vi x13.type_.kind, vL flT x13.type_.elems, vL flS x13.type_.names, vi x13.mode, vB x13.replace, vB x13.sensitive, vB x13.volatile], bx (aV y14.1)]⟩) ?_
 exact retE hb 6 (he1 _ ((he2 _ (injO hq)).symm))
 refine cpE hb 3 [3, 4, 8, 10, 11, 37, 38, 39] (s' := ⟨none, [pick (bodyOf Tryz.f105) [1, 1, 1, 1, 1, 0, 1, 0, 0, 1, 1, 0, 0, 1, 1, 1, 0], pick (bodyOf Tryz.f105) [1, 1, 1, 1, 1, 0, 1, 0, 0, 1, 1, 0, 0, 1, 1, 1, 1]], [(3, [pick (bodyOf Tryz.f105) [1, 1, 1, 1, 1, 0, 1, 0, 0, 1, 1, 1], pick (bodyOf Tryz.f105) [1, 1, 1, 1, 1, 0, 1, 0]]), (2, [pick (bodyOf Tryz.f105) [1, 1, 1, 1, 1, 1]])], sl 68 [(3, pt 1), (4, pt 2), (8, pt 3), (10, pt 6), (11, pt 7), (37, c1 (vL flAttrG n_.attrs)), (38, c1 (vi (n_.attrs.length : Int))), (39, c1 (vi s2.1))], [none, bx (aV v_), bx zV, bx [vi 5, vi 0, vS eS, vO flV 4 s2.2.1, vO flS 5 s2.2.2], some (arO true flV.sz 0 (flV.f s2.2.1)), some (arO true flS.sz 0 (flS.f s2.2.2)), bx [vS x13.name, vi x13.type_.kind, vL flT x13.type_.elems, vL flS x13.type_.names, vi x13.mode, vB x13.replace, vB x13.sensitive, vB x13.volatile], bx (aV y14.1)]⟩) ?_
 refine appOwnE flS hb 6 5 true 0 (flS.one x13.name) hq fun l16 hl16 hq => ?_
 refine appOwnE flV hb 8 4 true 0 (flV.one y14.1) hq fun l17 hl17 hq => ?_
 exact backE hb 8 [3, 4, 8, 37, 38, 39] [] 6 (hn2 _ (injO hq)) ⟨rfl, (by kernel_rfl), (by kernel_rfl), (by kernel_rfl), (under_arO _ _ _ _ _), (under_arO _ _ _ _ _), trivial⟩
 refine markE hb 8 4 true (sz := flV.sz) (fr := 0) (cs := flV.f s2.2.1) (by kernel_rfl) (Nat.zero_le _) ?_
 refine cellSE hb 0 2 3 (cs := [vi 5, vi 0, vS eS, vO flV 4 s2.2.1, vO flS 5 s2.2.2]) (c := vO flV 4 s2.2.1) (conv_own flV (nb := true) (id := 4) (xs := s2.2.1) (by kernel_rfl)) (by kernel_rfl) ?_
 refine markE hb 0 5 true (sz := flS.sz) (fr := 0) (cs := flS.f s2.2.2) (by kernel_rfl) (Nat.zero_le _) ?_
 refine cellSE hb 0 2 4 (cs := [vi 5, vi 0, vS eS, vL flV s2.2.1, vO flS 5 s2.2.2]) (c := vO flS 5 s2.2.2) (conv_own flS (nb := true) (id := 5) (xs := s2.2.2) (by kernel_rfl)) (by kernel_rfl) ?_
 exact retE hb 0 (he1 _ ((he2 _ (injO hq)).symm))
noncomputable def gQ58  (n_ : NestedG) (v_ : Val) : Option (Unit) :=
 some ()
theorem gQ59 (hb : Base E E0 G) (he : ∀ w, E w → EnvV w)   (n_ : NestedG) (v_ : Val) : ∀ r_ : Unit, gQ58 n_ v_ = some r_ →
 Ok E E0 Tryz.prog 138 [.cell (vN)] [bx [vS n_.name, vi n_.min, vi n_.max, vL flAttrG n_.attrs, vB n_.replace], bx (aV v_), bx zV, bx zV] (c1 (vN)) [bx [vS n_.name, vi n_.min, vi n_.max, vL flAttrG n_.attrs, vB n_.replace], bx (aV v_), bx zV, bx zV] := by
 refine fnO2 hb Tryz.func138 rfl fun r_ hq => ?_
 exact retOE2 hb 16 [2] [] 4 (σ1 := fun r_ : Unit => [bx [vS n_.name, vi n_.min, vi n_.max, vL flAttrG n_.attrs, vB n_.replace], bx (aV v_), bx zV, bx zV]) (injO hq).symm ⟨(by kernel_rfl), (by kernel_rfl), (by kernel_rfl), (by kernel_rfl), trivial⟩
noncomputable def gQ56  (n_ : NestedG) (v_ : Val) : Option (Unit) :=
 (gQ58 n_ v_).bind fun y5 => some ()
theorem gQ57 (hb : Base E E0 G) (he : ∀ w, E w → EnvV w)   (n_ : NestedG) (v_ : Val) : ∀ r_ : Unit, gQ56 n_ v_ = some r_ →
 Ok E E0 Tryz.prog 104 [.cell (vN)] [bx [vS n_.name, vi n_.min, vi n_.max, vL flAttrG n_.attrs, vB n_.replace], bx (aV v_), bx zV] (.one (.agg [vi 4, vi 0, vS eS, vN, vN])) [bx [vS n_.name, vi n_.min, vi n_.max, vL flAttrG n_.attrs, vB n_.replace], bx (aV v_), bx zV, bx [vi 4, vi 0, vS eS, vN, vN]] := by
 refine fnO2 hb Tryz.func104 rfl fun r_ hq => ?_
 refine callKE hb 7 hq (gQ59 hb he n_ v_) fun y5 hy5 hq => ?_
 exact retOE2 hb 3 [2] [] 4 (σ1 := fun r_ : Unit => [bx [vS n_.name, vi n_.min, vi n_.max, vL flAttrG n_.attrs, vB n_.replace], bx (aV v_), bx zV, bx [vi 4, vi 0, vS eS, vN, vN]]) (injO hq).symm ⟨(by kernel_rfl), (by kernel_rfl), (by kernel_rfl), (by kernel_rfl), trivial⟩
noncomputable def gQ5c  (n_ : NestedG) (v_ : Val) : Option (Unit) :=
 some ()
theorem gQ5d (hb : Base E E0 G) (he : ∀ w, E w → EnvV w)   (n_ : NestedG) (v_ : Val) : ∀ r_ : Unit, gQ5c n_ v_ = some r_ →
 Ok E E0 Tryz.prog 138 [.cell (vN)] [bx [vS n_.name, vi n_.min, vi n_.max, vL flAttrG n_.attrs, vB n_.replace], bx (aV v_), bx zV, bx zV] (c1 (vN)) [bx [vS n_.name, vi n_.min, vi n_.max, vL flAttrG n_.attrs, vB n_.replace], bx (aV v_), bx zV, bx zV] := by
 refine fnO2 hb Tryz.func138 rfl fun r_ hq => ?_
 exact retOE2 hb 16 [2] [] 4 (σ1 := fun r_ : Unit => [bx [vS n_.name, vi n_.min, vi n_.max, vL flAttrG n_.attrs, vB n_.replace], bx (aV v_), bx zV, bx zV]) (injO hq).symm ⟨(by kernel_rfl), (by kernel_rfl), (by kernel_rfl), (by kernel_rfl), trivial⟩
noncomputable def gQ5a  (n_ : NestedG) (v_ : Val) : Option (Unit) :=
 (gQ5c n_ v_).bind fun y15 => some ()
theorem gQ5b (hb : Base E E0 G) (he : ∀ w, E w → EnvV w)   (n_ : NestedG) (v_ : Val) : ∀ r_ : Unit, gQ5a n_ v_ = some r_ →
 Ok E E0 Tryz.prog 104 [.cell (vN)] [bx [vS n_.name, vi n_.min, vi n_.max, vL flAttrG n_.attrs, vB n_.replace], bx (aV v_), bx zV] (.one (.agg [vi 4, vi 0, vS eS, vN, vN])) [bx [vS n_.name, vi n_.min, vi n_.max, vL flAttrG n_.attrs, vB n_.replace], bx (aV v_), bx zV, bx [vi 4, vi 0, vS eS, vN, vN]] := by
 refine fnO2 hb Tryz.func104 rfl fun r_ hq => ?_
 refine callKE hb 7 hq (gQ5d hb he n_ v_) fun y15 hy15 hq => ?_
 exact retOE2 hb 3 [2] [] 4 (σ1 := fun r_ : Unit => [bx [vS n_.name, vi n_.min, vi n_.max, vL flAttrG n_.attrs, vB n_.replace], bx (aV v_), bx zV, bx [vi 4, vi 0, vS eS, vN, vN]]) (injO hq).symm ⟨(by kernel_rfl), (by kernel_rfl), (by kernel_rfl), (by kernel_rfl), trivial⟩
noncomputable def gQ54 (n_ : NestedG) (v_ : Val) (s1 : Int × List Val) : Option ((Int × List Val) ⊕ (Val × Int)) :=
 bif (decide (s1.1 < (v_.items.length : Int))) then (idx v_.items s1.1).bind fun x8 => (gQ4s n_ x8).bind fun y9 => bif (!decide (y9.2 = 0)) then some (.inr ((Val.mk 0 0 eS [] []), y9.2)) else (app 80 s1.2 [y9.1]).bind fun l11 => some (.inl ((IntKind.i64.wrap (s1.1 + 1)), l11)) else some (.inr ((Val.mk 4 0 eS s1.2 []), 0))
noncomputable def gQ55 (n_ : NestedG) (v_ : Val) (s1 : Int × List Val) : Option ((Int × List Val) ⊕ (Val × Int)) :=
 bif (decide (s1.1 < (v_.items.length : Int))) then (idx v_.items s1.1).bind fun x18 => (gQ4s n_ x18).bind fun y19 => bif (!decide (y19.2 = 0)) then some (.inr ((Val.mk 0 0 eS [] []), y19.2)) else (app 80 s1.2 [y19.1]).bind fun l21 => some (.inl ((IntKind.i64.wrap (s1.1 + 1)), l21)) else some (.inr ((Val.mk 4 0 eS s1.2 []), 0))
noncomputable def gQ53  (n_ : NestedG) (v_ : Val) : Option (Val × Int) :=
 bif (decide (v_.kind = 6)) then some (v_, 0) else bif (decide (v_.kind = 0)) then bif (decide ((v_.items.length : Int) < n_.min)) then some ((Val.mk 0 0 eS [] []), 12) else bif (decide ((v_.items.length : Int) > n_.max)) then some ((Val.mk 0 0 eS [] []), 14) else (gQ56 n_ v_).bind fun y6 => loopO (gQ54 n_ v_) (0, []) else bif (decide (v_.kind = 4)) then bif (decide ((v_.items.length : Int) < n_.min)) then some ((Val.mk 0 0 eS [] []), 12) else bif (decide ((v_.items.length : Int) > n_.max)) then some ((Val.mk 0 0 eS [] []), 14) else (gQ5a n_ v_).bind fun y16 => loopO (gQ55 n_ v_) (0, []) else some ((Val.mk 0 0 eS [] []), 6)
theorem gQ5e (hb : Base E E0 G) (he : ∀ w, E w → EnvV w)   (n_ : NestedG) (v_ : Val) : ∀ r_ : Val × Int, gQ53 n_ v_ = some r_ →
 Pure E E0 Tryz.prog 59 [.agg [vS n_.name, vi n_.min, vi n_.max, vL flAttrG n_.attrs, vB n_.replace], .agg (aV v_)] (.tup [.agg (aV r_.1), .cell (vi r_.2)]) := by
 refine fnE hb Tryz.func59 rfl fun r_ hq => ?_
 refine ifE hb 19 [14, 15] [] hq (fun hq _ => ?_) (fun hq _ => ?_)
 exact retE hb 7 (injO hq).symm
 refine ifE hb 7 [17, 18] [] hq (fun hq _ => ?_) (fun hq _ => ?_)
 refine ifE hb 15 [25] [] hq (fun hq _ => ?_) (fun hq _ => ?_)
 exact retE hb 7 (injO hq).symm
 refine ifE hb 12 [32] [] hq (fun hq _ => ?_) (fun hq _ => ?_)
 exact retE hb 7 (injO hq).symm
 refine callKE hb 4 hq (gQ57 hb he n_ v_) fun y6 hy6 hq => ?_
 refine cpE hb 12 [2, 4, 6, 36, 37, 38] (s' := ⟨none, [pick (bodyOf Tryz.f59) [1, 1, 1, 1, 1, 0, 1, 0]], [(1, [pick (bodyOf Tryz.f59) [1, 1, 1, 1, 1, 1]])], sl 60 [(2, pt 0), (4, pt 2), (6, pt 4), (36, c1 (vL flV v_.items)), (37, c1 (vi (v_.items.length : Int))), (38, c1 (vi 0))], [bx [vS n_.name, vi n_.min, vi n_.max, vL flAttrG n_.attrs, vB n_.replace], bx (aV v_), bx zV, bx [vi 4, vi 0, vS eS, vN, vN], bx [vi 4, vi 0, vS eS, vN, vN]]⟩) ?_
 refine ownSE hb 0 4 3 5 (cs := [vi 4, vi 0, vS eS, vN, vN]) (by kernel_rfl) ?_
 refine loopE hb 0 (gQ54 n_ v_) (fun s1 => sl 60 [(2, pt 0), (4, pt 2), (6, pt 4), (36, c1 (vL flV v_.items)), (37, c1 (vi (v_.items.length : Int))), (38, c1 (vi s1.1))]) (fun s1 => [bx [vS n_.name, vi n_.min, vi n_.max, vL flAttrG n_.attrs, vB n_.replace], none, bx zV, none, bx [vi 4, vi 0, vS eS, vO flV 5 s1.2, vN], some (arO true flV.sz 0 (flV.f s1.2))]) [2, 4, 6, 36, 37, 38] [1, 3] 6 (s0 := (0, [])) ⟨(by kernel_rfl), rfl, (by kernel_rfl), rfl, (by kernel_rfl), (under_arO _ _ _ _ _), trivial⟩ hq (fun s1 x1 hq hn1 he1 => ?_)
 refine ifE hb 5 [39] [] hq (fun hq _ => ?_) (fun hq _ => ?_)
 refine idxE hb flV 6 hq fun x8 hx8 hq => ?_
 refine callE hb 8 hq (gQ52 hb he n_ x8) fun y9 hy9 hq => ?_
 refine ifE hb 13 [49] [] hq (fun hq _ => ?_) (fun hq _ => ?_)
 exact retE hb 8 (he1 _ (injO hq))
 refine appOwnE flV hb 7 5 true 0 (flV.one y9.1) hq fun l11 hl11 hq => ?_
 exact backE hb 8 [2, 4, 6, 36, 37, 38] [] 6 (hn1 _ (injO hq)) ⟨(by kernel_rfl), rfl, (by kernel_rfl), rfl, (by kernel_rfl), (under_arO _ _ _ _ _), trivial⟩
 refine markE hb 8 5 true (sz := flV.sz) (fr := 0) (cs := flV.f s1.2) (by kernel_rfl) (Nat.zero_le _) ?_
 refine cellSE hb 0 2 3 (cs := [vi 4, vi 0, vS eS, vO flV 5 s1.2, vN]) (c := vO flV 5 s1.2) (conv_own flV (nb := true) (id := 5) (xs := s1.2) (by kernel_rfl)) (by kernel_rfl) ?_
 exact retE hb 0 (he1 _ (injO hq))
 refine ifE hb 5 [17, 19] [] hq (fun hq _ => ?_) (fun hq _ => ?_)
 refine ifE hb 13 [25] [] hq (fun hq _ => ?_) (fun hq _ => ?_)
 exact retE hb 7 (injO hq).symm
 refine ifE hb 12 [32] [] hq (fun hq _ => ?_) (fun hq _ => ?_)
 exact retE hb 7 (injO hq).symm
 refine callKE hb 4 hq (gQ5b hb he n_ v_) fun y16 hy16 hq => ?_
 refine cpE hb 12 [2, 4, 6, 36, 37, 38] (s' := ⟨none, [pick (bodyOf Tryz.f59) [1, 1, 1, 1, 1, 0, 1, 0]], [(1, [pick (bodyOf Tryz.f59) [1, 1, 1, 1, 1, 1]])], sl 60 [(2, pt 0), (4, pt 2), (6, pt 4), (36, c1 (vL flV v_.items)), (37, c1 (vi (v_.items.length : Int))), (38, c1 (vi 0))], [bx [vS n_.name, vi n_.min, vi n_.max, vL flAttrG n_.attrs, vB n_.replace], bx (aV v_), bx zV, bx [vi 4, vi 0, vS eS, vN, vN], bx [vi 4, vi 0, vS eS, vN, vN]]⟩) ?_
 refine ownSE hb 0 4 3 5 (cs := [vi 4, vi 0, vS eS, vN, vN]) (by kernel_rfl) ?_
 refine loopE hb 0 (gQ55 n_ v_) (fun s1 => sl 60 [(2, pt 0), (4, pt 2), (6, pt 4), (36, c1 (vL flV v_.items)), (37, c1 (vi (v_.items.length : Int))), (38, c1 (vi s1.1))]) (fun s1 => [bx [vS n_.name, vi n_.min, vi n_.max, vL flAttrG n_.attrs, vB n_.replace], none, bx zV, none, bx [vi 4, vi 0, vS eS, vO flV 5 s1.2, vN], some (arO true flV.sz 0 (flV.f s1.2))]) [2, 4, 6, 36, 37, 38] [1, 3] 6 (s0 := (0, [])) ⟨(by kernel_rfl), rfl, (by kernel_rfl), rfl, (by kernel_rfl), (under_arO _ _ _ _ _), trivial⟩ hq (fun s1 x1 hq hn1 he1 => ?_)
 refine ifE hb 5 [39] [] hq (fun hq _ => ?_) (fun hq _ => ?_)
 refine idxE hb flV 6 hq fun x18 hx18 hq => ?_
 refine callE hb 8 hq (gQ52 hb he n_ x18) fun y19 hy19 hq => ?_
 refine ifE hb 13 [49] [] hq (fun hq _ => ?_) (fun hq _ => ?_)
 exact retE hb 8 (he1 _ (injO hq))
 refine appOwnE flV hb 7 5 true 0 (flV.one y19.1) hq fun l21 hl21 hq => ?_
 exact backE hb 8 [2, 4, 6, 36, 37, 38] [] 6 (hn1 _ (injO hq)) ⟨(by kernel_rfl), rfl, (by kernel_rfl), rfl, (by kernel_rfl), (under_arO _ _ _ _ _), trivial⟩
 refine markE hb 8 5 true (sz := flV.sz) (fr := 0) (cs := flV.f s1.2) (by kernel_rfl) (Nat.zero_le _) ?_
 refine cellSE hb 0 2 3 (cs := [vi 4, vi 0, vS eS, vO flV 5 s1.2, vN]) (c := vO flV 5 s1.2) (conv_own flV (nb := true) (id := 5) (xs := s1.2) (by kernel_rfl)) (by kernel_rfl) ?_
 exact retE hb 0 (he1 _ (injO hq))
 exact retE hb 7 (injO hq).symm
noncomputable def gQ7k (keys_ : List ByteArray) (items_ : List Val) (l5 : List Int) (s2 : Int × List Val × List ByteArray) : Option ((Int × List Val × List ByteArray) ⊕ ((Int × List Int) ⊕ (Val × Int))) :=
 bif (decide (s2.1 < (l5.length : Int))) then (idx l5 s2.1).bind fun x7 => bif (decide (s2.1 > 0)) then (idx keys_ x7).bind fun x9 => (idx s2.2.2 (IntKind.i64.wrap (s2.1 - 1))).bind fun x10 => bif (decide (x9 = x10)) then some (.inr (.inr ((Val.mk 0 0 eS [] []), 8))) else (idx keys_ x7).bind fun x12 => (app 16 s2.2.2 [x12]).bind fun l13 => (idx items_ x7).bind fun x14 => (tQ95 x14).bind fun y15 => (app 80 s2.2.1 [y15]).bind fun l16 => some (.inl ((IntKind.i64.wrap (s2.1 + 1)), l16, l13)) else (idx keys_ x7).bind fun x17 => (app 16 s2.2.2 [x17]).bind fun l18 => (idx items_ x7).bind fun x19 => (tQ95 x19).bind fun y20 => (app 80 s2.2.1 [y20]).bind fun l21 => some (.inl ((IntKind.i64.wrap (s2.1 + 1)), l21, l18)) else some (.inr (.inr ((Val.mk 5 0 eS s2.2.1 s2.2.2), 0)))
noncomputable def gQ7j (keys_ : List ByteArray) (items_ : List Val) (l2 : List Int) (s1 : Int × List Int) : Option ((Int × List Int) ⊕ (Val × Int)) :=
 bif (decide (s1.1 < (l2.length : Int))) then (idx s1.2 s1.1).bind fun x4 => some (.inl ((IntKind.i64.wrap (s1.1 + 1)), (upd s1.2 s1.1 s1.1))) else (m_sortI keys_ s1.2).bind fun l5 => loopO (gQ7k keys_ items_ l5) (0, [], [])
noncomputable def gQ7i  (keys_ : List ByteArray) (items_ : List Val) : Option (Val × Int) :=
 bif (!decide ((keys_.length : Int) = (items_.length : Int))) then some ((Val.mk 0 0 eS [] []), 1) else (mkl 8 (keys_.length : Int) 0).bind fun l2 => loopO (gQ7j keys_ items_ l2) (0, l2)
theorem gQ7l (hb : Base E E0 G) (he : ∀ w, E w → EnvV w)   (keys_ : List ByteArray) (items_ : List Val) : ∀ r_ : Val × Int, gQ7i keys_ items_ = some r_ →
 Pure E E0 Tryz.prog 61 [.cell (vL flS keys_), .cell (vL flV items_)] (.tup [.agg (aV r_.1), .cell (vi r_.2)]) := by
 refine fnE hb Tryz.func61 rfl fun r_ hq => ?_
 refine ifE hb 15 [15] [] hq (fun hq _ => ?_) (fun hq _ => ?_)
 exact retE hb 7 (injO hq).symm
 refine mkE (flI .i64) hb 6 hq fun l2 hl2 hq => ?_
 refine lenOwnE (flI .i64) hb 6 2 false 0 l2 ?_
 refine cpE hb 3 [1, 2, 4, 6, 21, 22] (s' := ⟨none, [pick (bodyOf Tryz.f61) [1, 1, 1, 0, 1, 0]], [(0, [pick (bodyOf Tryz.f61) [1, 1, 1, 1]])], sl 78 [(1, c1 (vL flV items_)), (2, pt 0), (4, pt 1), (6, c1 (vO (flI .i64) 2 l2)), (21, c1 (vi (l2.length : Int))), (22, c1 (vi 0))], [bx [vL flS keys_], bx zV, some (arO false (flI .i64).sz 0 ((flI .i64).f l2))]⟩) ?_
 refine loopE hb 0 (gQ7j keys_ items_ l2) (fun s1 => sl 78 [(1, c1 (vL flV items_)), (2, pt 0), (4, pt 1), (6, c1 (vO (flI .i64) 2 s1.2)), (21, c1 (vi (l2.length : Int))), (22, c1 (vi s1.1))]) (fun s1 => [bx [vL flS keys_], bx zV, some (arO false (flI .i64).sz 0 ((flI .i64).f s1.2))]) [1, 2, 4, 6, 21, 22] [] 3 (s0 := (0, l2)) ⟨(by kernel_rfl), (by kernel_rfl), (under_arO _ _ _ _ _), trivial⟩ hq (fun s1 x1 hq hn1 he1 => ?_)
 refine ifE hb 5 [23] [] hq (fun hq _ => ?_) (fun hq _ => ?_)
 refine idxOwnE (flI .i64) hb 13 2 false 0 hq fun x4 hx4 hq => ?_
 refine storeOwnE (flI .i64) hb 0 2 hx4 s1.1 ?_
 refine cellTE hb 2 6 (c := vO (flI .i64) 2 s1.2) (conv_eq (vO_eq (flI .i64) (upd_len s1.2 s1.1 s1.1))) ?_
 exact backE hb 4 [1, 2, 4, 6, 21, 22] [] 3 (hn1 _ (injO hq)) ⟨(by kernel_rfl), (by kernel_rfl), (under_arO _ _ _ _ _), trivial⟩
 refine callSE hb 6 hq (sortI_g hb he 2 false 0 keys_ s1.2 (by kernel_rfl) (by kernel_rfl)) fun l5 hl5 hq => ?_
 refine cellTE hb 1 6 (c := vO (flI .i64) 2 s1.2) (conv_eq (vO_eq (flI .i64) (m_sortI_len hl5))) ?_
 refine lenOwnE (flI .i64) hb 10 2 false 0 l5 ?_
 refine cpE hb 3 [1, 2, 4, 8, 34, 35, 36] (s' := ⟨none, [pick (bodyOf Tryz.f61) [1, 1, 1, 1, 1, 1, 0, 1, 0]], [(2, [pick (bodyOf Tryz.f61) [1, 1, 1, 1, 1, 1, 1]])], sl 78 [(1, c1 (vL flV items_)), (2, pt 0), (4, pt 1), (8, pt 3), (34, c1 (vO (flI .i64) 2 l5)), (35, c1 (vi (l5.length : Int))), (36, c1 (vi 0))], [bx [vL flS keys_], bx zV, some (arO false (flI .i64).sz 0 ((flI .i64).f l5)), bx [vi 5, vi 0, vS eS, vN, vN]]⟩) ?_
 refine ownSE hb 0 3 3 5 (cs := [vi 5, vi 0, vS eS, vN, vN]) (by kernel_rfl) ?_
 refine ownSE hb 0 3 4 1 (cs := [vi 5, vi 0, vS eS, vO flV 4 [], vN]) (by kernel_rfl) ?_
 refine loopE hb 0 (gQ7k keys_ items_ l5) (fun s2 => sl 78 [(1, c1 (vL flV items_)), (2, pt 0), (4, pt 1), (8, pt 3), (34, c1 (vO (flI .i64) 2 l5)), (35, c1 (vi (l5.length : Int))), (36, c1 (vi s2.1))]) (fun s2 => [bx [vL flS keys_], bx zV, some (arO false (flI .i64).sz 0 ((flI .i64).f l5)), bx [vi 5, vi 0, vS eS, vO flV 4 s2.2.1, vO flS 5 s2.2.2], some (arO true flV.sz 0 (flV.f s2.2.1)), some (arO true flS.sz 0 (flS.f s2.2.2))]) [1, 2, 4, 8, 34, 35, 36] [] 6 (s0 := (0, [], [])) ⟨(by kernel_rfl), (by kernel_rfl), (under_arO _ _ _ _ _), (by kernel_rfl), (under_arO _ _ _ _ _), (under_arO _ _ _ _ _), trivial⟩ hq (fun s2 x2 hq hn2 he2 => ?_)
 refine ifE hb 5 [37] [] hq (fun hq _ => ?_) (fun hq _ => ?_)
 refine idxOwnE (flI .i64) hb 7 2 false 0 hq fun x7 hx7 hq => ?_
 refine loadOwn1E (flI .i64) hb 0 2 false 0 hx7 rfl ?_
 refine drawE hb mixed 5 13 [] ?_
 refine ifE hb 3 [42, 43] [] hq (fun hq _ => ?_) (fun hq _ => ?_)
 refine idxE hb flS 2 hq fun x9 hx9 hq => ?_
 refine idxOwnE flS hb 5 5 true 0 hq fun x10 hx10 hq => ?_
 refine loadOwn1E flS hb 0 5 true 0 hx10 rfl ?_
 refine cpE hb 4 [1, 2, 4, 8, 10, 34, 35, 36, 55] (s' := ⟨none, [pick (bodyOf Tryz.f61) [1, 1, 1, 1, 1, 1, 0, 1, 0, 0, 1, 1, 0, 0, 1, 0, 1], pick (bodyOf Tryz.f61) [1, 1, 1, 1, 1, 1, 0, 1, 0, 0, 1, 1, 0, 0, 1, 1]], [(3, [pick (bodyOf Tryz.f61) [1, 1, 1, 1, 1, 1, 0, 1, 0, 0, 1, 1, 1], pick (bodyOf Tryz.f61) [1, 1, 1, 1, 1, 1, 0, 1, 0]]), (2, [pick (bodyOf Tryz.f61) [1, 1, 1, 1, 1, 1, 1]])], sl 78 [(1, c1 (vL flV items_)), (2, pt 0), (4, pt 1), (8, pt 3), (10, c1 (vi x7)), (34, c1 (vO (flI .i64) 2 l5)), (35, c1 (vi (l5.length : Int))), (36, c1 (vi s2.1)), (55, c1 (vB (decide (x9 = x10))))], [bx [vL flS keys_], bx zV, some (arO false (flI .i64).sz 0 ((flI .i64).f l5)), bx [vi 5, vi 0, vS eS, vO flV 4 s2.2.1, vO flS 5 s2.2.2], some (arO true flV.sz 0 (flV.f s2.2.1)), some (arO true flS.sz 0 (flS.f s2.2.2))]⟩) ?_
 refine ifE hb 0 [55] [] hq (fun hq _ => ?_) (fun hq _ => ?_)
 exact retE hb 7 (he1 _ ((he2 _ (injO hq)).symm))
 refine drawE hb mixed 3 7 [] ?_
 refine idxE hb flS 4 hq fun x12 hx12 hq => ?_
 refine appOwnE flS hb 3 5 true 0 (flS.one x12) hq fun l13 hl13 hq => ?_
 refine drawE hb mixed 3 8 [] ?_
 refine idxE hb flV 4 hq fun x14 hx14 hq => ?_
 refine callE hb 1 hq (tQ96 hb he x14) fun y15 hy15 hq => ?_
 refine appOwnE flV hb 2 4 true 0 (flV.one y15) hq fun l16 hl16 hq => ?_
 refine cpE hb 4 [1, 2, 4, 8, 34, 35, 36] (s' := ⟨none, [pick (bodyOf Tryz.f61) [1, 1, 1, 1, 1, 1, 0, 1, 0, 0, 1, 1, 1], pick (bodyOf Tryz.f61) [1, 1, 1, 1, 1, 1, 0, 1, 0]], [(2, [pick (bodyOf Tryz.f61) [1, 1, 1, 1, 1, 1, 1]])], sl 78 [(1, c1 (vL flV items_)), (2, pt 0), (4, pt 1), (8, pt 3), (34, c1 (vO (flI .i64) 2 l5)), (35, c1 (vi (l5.length : Int))), (36, c1 (vi s2.1))], [bx [vL flS keys_], bx zV, some (arO false (flI .i64).sz 0 ((flI .i64).f l5)), bx [vi 5, vi 0, vS eS, vO flV 4 l16, vO flS 5 l13], some (arO true flV.sz 0 (flV.f l16)), some (arO true flS.sz 0 (flS.f l13))]⟩) ?_
 exact backE hb 4 [1, 2, 4, 8, 34, 35, 36] [] 6 (hn2 _ (injO hq)) ⟨(by kernel_rfl), (by kernel_rfl), (under_arO _ _ _ _ _), (by kernel_rfl), (under_arO _ _ _ _ _), (under_arO _ _ _ _ _), trivial⟩
 refine cpE hb 14 [1, 2, 4, 8, 10, 34, 35, 36, 55] (s' := ⟨none, [pick (bodyOf Tryz.f61) [1, 1, 1, 1, 1, 1, 0, 1, 0, 0, 1, 1, 0, 0, 1, 0, 1], pick (bodyOf Tryz.f61) [1, 1, 1, 1, 1, 1, 0, 1, 0, 0, 1, 1, 0, 0, 1, 1]], [(3, [pick (bodyOf Tryz.f61) [1, 1, 1, 1, 1, 1, 0, 1, 0, 0, 1, 1, 1], pick (bodyOf Tryz.f61) [1, 1, 1, 1, 1, 1, 0, 1, 0]]), (2, [pick (bodyOf Tryz.f61) [1, 1, 1, 1, 1, 1, 1]])], sl 78 [(1, c1 (vL flV items_)), (2, pt 0), (4, pt 1), (8, pt 3), (10, c1 (vi x7)), (34, c1 (vO (flI .i64) 2 l5)), (35, c1 (vi (l5.length : Int))), (36, c1 (vi s2.1)), (55, c1 (vB false))], [bx [vL flS keys_], bx zV, some (arO false (flI .i64).sz 0 ((flI .i64).f l5)), bx [vi 5, vi 0, vS eS, vO flV 4 s2.2.1, vO flS 5 s2.2.2], some (arO true flV.sz 0 (flV.f s2.2.1)), some (arO true flS.sz 0 (flS.f s2.2.2))]⟩) ?_
 refine drawE hb mixed 3 7 [] ?_
 refine idxE hb flS 4 hq fun x17 hx17 hq => ?_
 refine appOwnE flS hb 3 5 true 0 (flS.one x17) hq fun l18 hl18 hq => ?_
 refine drawE hb mixed 3 8 [] ?_
 refine idxE hb flV 4 hq fun x19 hx19 hq => ?_
 refine callE hb 1 hq (tQ96 hb he x19) fun y20 hy20 hq => ?_
 refine appOwnE flV hb 2 4 true 0 (flV.one y20) hq fun l21 hl21 hq => ?_
 refine cpE hb 4 [1, 2, 4, 8, 34, 35, 36] (s' := ⟨none, [pick (bodyOf Tryz.f61) [1, 1, 1, 1, 1, 1, 0, 1, 0, 0, 1, 1, 1], pick (bodyOf Tryz.f61) [1, 1, 1, 1, 1, 1, 0, 1, 0]], [(2, [pick (bodyOf Tryz.f61) [1, 1, 1, 1, 1, 1, 1]])], sl 78 [(1, c1 (vL flV items_)), (2, pt 0), (4, pt 1), (8, pt 3), (34, c1 (vO (flI .i64) 2 l5)), (35, c1 (vi (l5.length : Int))), (36, c1 (vi s2.1))], [bx [vL flS keys_], bx zV, some (arO false (flI .i64).sz 0 ((flI .i64).f l5)), bx [vi 5, vi 0, vS eS, vO flV 4 l21, vO flS 5 l18], some (arO true flV.sz 0 (flV.f l21)), some (arO true flS.sz 0 (flS.f l18))]⟩) ?_
 exact backE hb 4 [1, 2, 4, 8, 34, 35, 36] [] 6 (hn2 _ (injO hq)) ⟨(by kernel_rfl), (by kernel_rfl), (under_arO _ _ _ _ _), (by kernel_rfl), (under_arO _ _ _ _ _), (under_arO _ _ _ _ _), trivial⟩
 refine markE hb 8 4 true (sz := flV.sz) (fr := 0) (cs := flV.f s2.2.1) (by kernel_rfl) (Nat.zero_le _) ?_
 refine cellSE hb 0 1 3 (cs := [vi 5, vi 0, vS eS, vO flV 4 s2.2.1, vO flS 5 s2.2.2]) (c := vO flV 4 s2.2.1) (conv_own flV (nb := true) (id := 4) (xs := s2.2.1) (by kernel_rfl)) (by kernel_rfl) ?_
 refine markE hb 0 5 true (sz := flS.sz) (fr := 0) (cs := flS.f s2.2.2) (by kernel_rfl) (Nat.zero_le _) ?_
 refine cellSE hb 0 1 4 (cs := [vi 5, vi 0, vS eS, vL flV s2.2.1, vO flS 5 s2.2.2]) (c := vO flS 5 s2.2.2) (conv_own flS (nb := true) (id := 5) (xs := s2.2.2) (by kernel_rfl)) (by kernel_rfl) ?_
 exact retE hb 0 (he1 _ ((he2 _ (injO hq)).symm))
noncomputable def gQ41 (s_ : SchemaG) (v_ : Val) (s2 : Int × List ByteArray × List Val) : Option ((Int × List ByteArray × List Val) ⊕ ((Int × List ByteArray × List Val) ⊕ (Val × DiagG))) :=
 bif (decide (s2.1 < (s_.nested.length : Int))) then (idx s_.nested s2.1).bind fun x10 => (gQ5i v_ x10.name).bind fun y11 => (gQ53 x10 y11).bind fun y12 => bif (!decide (y12.2 = 0)) then some (.inr (.inr ((Val.mk 0 0 eS [] []), (DiagG.mk y12.2 0 x10.name)))) else (app 16 s2.2.1 [x10.name]).bind fun l14 => (app 80 s2.2.2 [y12.1]).bind fun l15 => some (.inl ((IntKind.i64.wrap (s2.1 + 1)), l14, l15)) else (gQ7i s2.2.1 s2.2.2).bind fun y16 => (m_checkE y16.1).bind fun y17 => bif (!decide (y17 = 0)) then some (.inr (.inr ((Val.mk 0 0 eS [] []), (DiagG.mk y17 0 eS)))) else some (.inr (.inr (y16.1, (DiagG.mk 0 0 eS))))
noncomputable def gQ40 (s_ : SchemaG) (v_ : Val) (s1 : Int × List ByteArray × List Val) : Option ((Int × List ByteArray × List Val) ⊕ (Val × DiagG)) :=
 bif (decide (s1.1 < (s_.attrs.length : Int))) then (idx s_.attrs s1.1).bind fun x4 => (gQ4o x4 v_).bind fun y5 => bif (!decide (y5.2 = 0)) then some (.inr ((Val.mk 0 0 eS [] []), (DiagG.mk y5.2 0 x4.name))) else (app 16 s1.2.1 [x4.name]).bind fun l7 => (app 80 s1.2.2 [y5.1]).bind fun l8 => some (.inl ((IntKind.i64.wrap (s1.1 + 1)), l7, l8)) else loopO (gQ41 s_ v_) (0, s1.2.1, s1.2.2)
noncomputable def gQ3z  (s_ : SchemaG) (v_ : Val) : Option (Val × DiagG) :=
 (gQ5f s_ v_).bind fun y1 => bif (!decide (y1.kind = 0)) then some ((Val.mk 0 0 eS [] []), y1) else loopO (gQ40 s_ v_) (0, [], [])
theorem gQ42 (hb : Base E E0 G) (he : ∀ w, E w → EnvV w)   (s_ : SchemaG) (v_ : Val) : ∀ r_ : Val × DiagG, gQ3z s_ v_ = some r_ →
 Pure E E0 Tryz.prog 17 [.agg [vL flAttrG s_.attrs, vL flNestedG s_.nested], .agg (aV v_)] (.tup [.agg (aV r_.1), .agg [vi r_.2.kind, vi r_.2.at_, vS r_.2.name]]) := by
 refine fnE hb Tryz.func17 rfl fun r_ hq => ?_
 refine callE hb 12 hq (gQ5h hb he s_ v_) fun y1 hy1 hq => ?_
 refine ifE hb 9 [25] [] hq (fun hq _ => ?_) (fun hq _ => ?_)
 refine frzE hb 2 6 4 (ps := [pI .i64 y1.kind, pI .i64 y1.at_, pS y1.name]) (by kernel_rfl) ?_
 refine drawE hb mixed 0 2 [1] ?_
 exact retE hb 6 (injO hq).symm
 refine cpE hb 19 [2, 3, 4, 5, 7, 8, 29, 30, 31] (s' := ⟨none, [pick (bodyOf Tryz.f17) [1, 1, 1, 1, 0, 1, 0]], [(0, [pick (bodyOf Tryz.f17) [1, 1, 1, 1, 1]])], sl 106 [(2, pt 0), (3, pt 1), (4, pt 2), (5, pt 3), (7, c1 (vN)), (8, c1 (vN)), (29, c1 (vL flAttrG s_.attrs)), (30, c1 (vi (s_.attrs.length : Int))), (31, c1 (vi 0))], [bx [vL flAttrG s_.attrs, vL flNestedG s_.nested], bx (aV v_), bx zV, bx [vi 0, vi 0, vS eS], bx [vi y1.kind, vi y1.at_, vS y1.name]]⟩) ?_
 refine ownTE hb 0 7 1 ?_
 refine ownTE hb 0 8 5 ?_
 refine loopE hb 0 (gQ40 s_ v_) (fun s1 => sl 106 [(2, pt 0), (3, pt 1), (4, pt 2), (5, pt 3), (7, c1 (vO flS 5 s1.2.1)), (8, c1 (vO flV 6 s1.2.2)), (29, c1 (vL flAttrG s_.attrs)), (30, c1 (vi (s_.attrs.length : Int))), (31, c1 (vi s1.1))]) (fun s1 => [bx [vL flAttrG s_.attrs, vL flNestedG s_.nested], bx (aV v_), bx zV, bx [vi 0, vi 0, vS eS], none, some (arO true flS.sz 0 (flS.f s1.2.1)), some (arO true flV.sz 0 (flV.f s1.2.2))]) [2, 3, 4, 5, 7, 8, 29, 30, 31] [4] 7 (s0 := (0, [], [])) ⟨(by kernel_rfl), (by kernel_rfl), (by kernel_rfl), (by kernel_rfl), rfl, (under_arO _ _ _ _ _), (under_arO _ _ _ _ _), trivial⟩ hq (fun s1 x1 hq hn1 he1 => ?_)
 refine ifE hb 5 [32] [] hq (fun hq _ => ?_) (fun hq _ => ?_)
 refine idxE hb flAttrG 6 hq fun x4 hx4 hq => ?_
 refine callE hb 8 hq (gQ4p hb he x4 v_) fun y5 hy5 hq => ?_
 refine ifE hb 13 [42] [] hq (fun hq _ => ?_) (fun hq _ => ?_)
 refine frzE hb 2 10 7 (ps := [pS x4.name, pI .i64 x4.type_.kind, pL flT x4.type_.elems, pL flS x4.type_.names, pI .i64 x4.mode, pB x4.replace, pB x4.sensitive, pB x4.volatile]) (by kernel_rfl) ?_
 refine drawE hb mixed 0 5 [1, 2, 3, 4] ?_
 exact retE hb 9 (he1 _ (injO hq))
 refine frzE hb 2 11 8 (ps := [pI .i64 y5.1.kind, pI .i64 y5.1.num, pS y5.1.str, pL flV y5.1.items, pL flS y5.1.keys]) (by kernel_rfl) ?_
 refine drawPE hb mixed 0 [0, 1, 2, 3, 5, 6, 7, 4, 8, 9, 10] 7 [4, 5, 6] ?_
 refine appOwnE flS hb 8 5 true 0 (flS.one x4.name) hq fun l7 hl7 hq => ?_
 refine appOwnE flV hb 0 6 true 0 (flV.one y5.1) hq fun l8 hl8 hq => ?_
 refine cpE hb 4 [2, 3, 4, 5, 7, 8, 29, 30, 31] (s' := ⟨none, [pick (bodyOf Tryz.f17) [1, 1, 1, 1, 0, 1, 0, 0, 1, 1, 1], pick (bodyOf Tryz.f17) [1, 1, 1, 1, 0, 1, 0]], [(0, [pick (bodyOf Tryz.f17) [1, 1, 1, 1, 1]])], sl 106 [(2, pt 0), (3, pt 1), (4, pt 2), (5, pt 3), (7, c1 (vO flS 5 l7)), (8, c1 (vO flV 6 l8)), (29, c1 (vL flAttrG s_.attrs)), (30, c1 (vi (s_.attrs.length : Int))), (31, c1 (vi s1.1))], [bx [vL flAttrG s_.attrs, vL flNestedG s_.nested], bx (aV v_), bx zV, bx [vi 0, vi 0, vS eS], none, some (arO true flS.sz 0 (flS.f l7)), some (arO true flV.sz 0 (flV.f l8)), bx [vS x4.name, vi x4.type_.kind, vL flT x4.type_.elems, vL flS x4.type_.names, vi x4.mode, vB x4.replace, vB x4.sensitive, vB x4.volatile], none]⟩) ?_
 exact backE hb 4 [2, 3, 4, 5, 7, 8, 29, 30, 31] [] 7 (hn1 _ (injO hq)) ⟨(by kernel_rfl), (by kernel_rfl), (by kernel_rfl), (by kernel_rfl), rfl, (under_arO _ _ _ _ _), (under_arO _ _ _ _ _), trivial⟩
 refine cpE hb 11 [3, 4, 5, 7, 8, 59, 60, 61] (s' := ⟨none, [pick (bodyOf Tryz.f17) [1, 1, 1, 1, 1, 0, 1, 0]], [(2, [pick (bodyOf Tryz.f17) [1, 1, 1, 1, 1, 1]])], sl 106 [(3, pt 1), (4, pt 2), (5, pt 3), (7, c1 (vO flS 5 s1.2.1)), (8, c1 (vO flV 6 s1.2.2)), (59, c1 (vL flNestedG s_.nested)), (60, c1 (vi (s_.nested.length : Int))), (61, c1 (vi 0))], [bx [vL flAttrG s_.attrs, vL flNestedG s_.nested], bx (aV v_), bx zV, bx [vi 0, vi 0, vS eS], none, some (arO true flS.sz 0 (flS.f s1.2.1)), some (arO true flV.sz 0 (flV.f s1.2.2))]⟩) ?_
 refine loopE hb 0 (gQ41 s_ v_) (fun s2 => sl 106 [(3, pt 1), (4, pt 2), (5, pt 3), (7, c1 (vO flS 5 s2.2.1)), (8, c1 (vO flV 6 s2.2.2)), (59, c1 (vL flNestedG s_.nested)), (60, c1 (vi (s_.nested.length : Int))), (61, c1 (vi s2.1))]) (fun s2 => [none, bx (aV v_), bx zV, bx [vi 0, vi 0, vS eS], none, some (arO true flS.sz 0 (flS.f s2.2.1)), some (arO true flV.sz 0 (flV.f s2.2.2))]) [3, 4, 5, 7, 8, 59, 60, 61] [0] 7 (s0 := (0, s1.2.1, s1.2.2)) ⟨rfl, (by kernel_rfl), (by kernel_rfl), (by kernel_rfl), rfl, (under_arO _ _ _ _ _), (under_arO _ _ _ _ _), trivial⟩ hq (fun s2 x2 hq hn2 he2 => ?_)
 refine ifE hb 5 [62] [] hq (fun hq _ => ?_) (fun hq _ => ?_)
 refine idxE hb flNestedG 6 hq fun x10 hx10 hq => ?_
 refine drawE hb mixed 5 10 [8] ?_
 refine callE hb 4 hq (gQ5j hb he v_ x10.name) fun y11 hy11 hq => ?_
 refine callE hb 0 hq (gQ5e hb he x10 y11) fun y12 hy12 hq => ?_
 refine ifE hb 14 [75] [] hq (fun hq _ => ?_) (fun hq _ => ?_)
 refine frzE hb 2 14 7 (ps := [pS x10.name, pI .i64 x10.min, pI .i64 x10.max, pL flAttrG x10.attrs, pB x10.replace]) (by kernel_rfl) ?_
 refine drawE hb mixed 0 5 [1, 2, 3, 4] ?_
 exact retE hb 9 (he1 _ ((he2 _ (injO hq)).symm))
 refine frzE hb 2 15 8 (ps := [pI .i64 y12.1.kind, pI .i64 y12.1.num, pS y12.1.str, pL flV y12.1.items, pL flS y12.1.keys]) (by kernel_rfl) ?_
 refine drawPE hb mixed 0 [0, 1, 2, 3, 5, 6, 7, 4, 8, 9, 10] 7 [4, 5, 6] ?_
 refine appOwnE flS hb 8 5 true 0 (flS.one x10.name) hq fun l14 hl14 hq => ?_
 refine appOwnE flV hb 0 6 true 0 (flV.one y12.1) hq fun l15 hl15 hq => ?_
 refine cpE hb 4 [3, 4, 5, 7, 8, 59, 60, 61] (s' := ⟨none, [pick (bodyOf Tryz.f17) [1, 1, 1, 1, 1, 0, 1, 0, 0, 1, 1, 1], pick (bodyOf Tryz.f17) [1, 1, 1, 1, 1, 0, 1, 0]], [(2, [pick (bodyOf Tryz.f17) [1, 1, 1, 1, 1, 1]])], sl 106 [(3, pt 1), (4, pt 2), (5, pt 3), (7, c1 (vO flS 5 l14)), (8, c1 (vO flV 6 l15)), (59, c1 (vL flNestedG s_.nested)), (60, c1 (vi (s_.nested.length : Int))), (61, c1 (vi s2.1))], [none, bx (aV v_), bx zV, bx [vi 0, vi 0, vS eS], none, some (arO true flS.sz 0 (flS.f l14)), some (arO true flV.sz 0 (flV.f l15)), bx [vS x10.name, vi x10.min, vi x10.max, vL flAttrG x10.attrs, vB x10.replace], none]⟩) ?_
 exact backE hb 4 [3, 4, 5, 7, 8, 59, 60, 61] [] 7 (hn2 _ (injO hq)) ⟨rfl, (by kernel_rfl), (by kernel_rfl), (by kernel_rfl), rfl, (under_arO _ _ _ _ _), (under_arO _ _ _ _ _), trivial⟩
 refine markE hb 3 5 true (sz := flS.sz) (fr := 0) (cs := flS.f s2.2.1) (by kernel_rfl) (Nat.zero_le _) ?_
 refine markE hb 0 6 true (sz := flV.sz) (fr := 0) (cs := flV.f s2.2.2) (by kernel_rfl) (Nat.zero_le _) ?_
 refine callME hb 3 (vs := [.cell (vO flS 5 s2.2.1), .cell (vO flV 6 s2.2.2)]) hq (frz_cons (frz_cell (frz_own flS (b := true) (id := 5) (fr := (flS.f s2.2.1).length) (xs := s2.2.1) (by kernel_rfl))) (frz_cons (frz_cell (frz_own flV (b := true) (id := 6) (fr := (flV.f s2.2.2).length) (xs := s2.2.2) (by kernel_rfl))) rfl)) (mark_cons (mark_cell (mark_own flS (nb := true) (id := 5) (xs := s2.2.1) (by kernel_rfl))) (mark_cons (mark_cell (mark_own flV (nb := true) (id := 6) (xs := s2.2.2) (by kernel_rfl))) rfl)) (gQ7l hb he s2.2.1 s2.2.2) fun y16 hy16 hq => ?_
 refine callE hb 11 hq (pCheck_g hb he y16.1) fun y17 hy17 hq => ?_
 refine ifE hb 7 [100] [] hq (fun hq _ => ?_) (fun hq _ => ?_)
 exact retE hb 9 (he1 _ ((he2 _ (injO hq)).symm))
 exact retE hb 9 (he1 _ ((he2 _ (injO hq)).symm))
noncomputable def gQ2b (r_r07_Equal : Val → Val → Option (Bool)) (a_ : Val) (b_ : Val) (s2 : Int) : Option ((Int) ⊕ ((Int) ⊕ (Bool))) :=
 bif (decide (s2 < (a_.items.length : Int))) then (idx a_.items s2).bind fun x11 => (idx b_.items s2).bind fun x12 => (r_r07_Equal x11 x12).bind fun y13 => bif (!y13) then some (.inr (.inr (false))) else some (.inl (IntKind.i64.wrap (s2 + 1))) else some (.inr (.inr (true)))
noncomputable def gQ2a (r_r07_Equal : Val → Val → Option (Bool)) (a_ : Val) (b_ : Val) (s1 : Int) : Option ((Int) ⊕ (Bool)) :=
 bif (decide (s1 < (a_.keys.length : Int))) then (idx a_.keys s1).bind fun x7 => (idx b_.keys s1).bind fun x8 => bif (!decide (x7 = x8)) then some (.inr (false)) else some (.inl (IntKind.i64.wrap (s1 + 1))) else loopO (gQ2b r_r07_Equal a_ b_) 0
noncomputable def gQ29 (r_r07_Equal : Val → Val → Option (Bool)) (a_ : Val) (b_ : Val) : Option (Bool) :=
 bif (!decide (a_.kind = b_.kind)) then some (false) else bif (!decide (a_.num = b_.num)) then some (false) else bif (!decide (a_.str = b_.str)) then some (false) else bif (!decide ((a_.items.length : Int) = (b_.items.length : Int))) then some (false) else bif (!decide ((a_.keys.length : Int) = (b_.keys.length : Int))) then some (false) else loopO (gQ2a r_r07_Equal a_ b_) 0
theorem gQ2c (hb : Base E E0 G) (he : ∀ w, E w → EnvV w) (r_r07_Equal : Val → Val → Option (Bool)) (hr_r07_Equal : ∀ (a0 : Val) (a1 : Val) (r : Bool), r_r07_Equal a0 a1 = some r → Pure E E0 Tryz.prog 19 [.agg (aV a0), .agg (aV a1)] (c1 (vB r))) (a_ : Val) (b_ : Val) : ∀ r_ : Bool, gQ29 r_r07_Equal a_ b_ = some r_ →
 Pure E E0 Tryz.prog 19 [.agg (aV a_), .agg (aV b_)] (c1 (vB r_)) := by
 refine fnE hb Tryz.func19 rfl fun r_ hq => ?_
 refine ifE hb 15 [11, 12] [] hq (fun hq _ => ?_) (fun hq _ => ?_)
 exact retE hb 37 (injO hq).symm
 refine ifE hb 7 [17, 18, 19] [] hq (fun hq _ => ?_) (fun hq _ => ?_)
 exact retE hb 30 (injO hq).symm
 refine ifE hb 7 [24, 25, 26] [] hq (fun hq _ => ?_) (fun hq _ => ?_)
 exact retE hb 23 (injO hq).symm
 refine ifE hb 9 [33, 34, 35] [] hq (fun hq _ => ?_) (fun hq _ => ?_)
 exact retE hb 14 (injO hq).symm
 refine ifE hb 9 [42, 43] [] hq (fun hq _ => ?_) (fun hq _ => ?_)
 exact retE hb 5 (injO hq).symm
 refine cpE hb 8 [2, 3, 5] (s' := ⟨none, [pick (bodyOf Tryz.f19) [1, 1, 0, 1, 0]], [(0, [pick (bodyOf Tryz.f19) [1, 1, 1]])], sl 81 [(2, pt 0), (3, pt 1), (5, c1 (vi 0))], [bx (aV a_), bx (aV b_)]⟩) ?_
 refine loopE hb 0 (gQ2a r_r07_Equal a_ b_) (fun s1 => sl 81 [(2, pt 0), (3, pt 1), (5, c1 (vi s1))]) (fun s1 => [bx (aV a_), bx (aV b_)]) [2, 3, 5] [] 2 (s0 := 0) ⟨(by kernel_rfl), (by kernel_rfl), trivial⟩ hq (fun s1 x1 hq hn1 he1 => ?_)
 refine ifE hb 9 [48] [] hq (fun hq _ => ?_) (fun hq _ => ?_)
 refine drawE hb mixed 5 10 [] ?_
 refine idxE hb flS 3 hq fun x7 hx7 hq => ?_
 refine idxE hb flS 4 hq fun x8 hx8 hq => ?_
 refine ifE hb 4 [61] [] hq (fun hq _ => ?_) (fun hq _ => ?_)
 exact retE hb 5 (he1 _ (injO hq))
 exact backE hb 8 [2, 3, 5] [] 2 (hn1 _ (injO hq)) ⟨(by kernel_rfl), (by kernel_rfl), trivial⟩
 refine loopE hb 8 (gQ2b r_r07_Equal a_ b_) (fun s2 => sl 81 [(2, pt 0), (3, pt 1), (6, c1 (vi s2))]) (fun s2 => [bx (aV a_), bx (aV b_)]) [2, 3, 6] [] 2 (s0 := 0) ⟨(by kernel_rfl), (by kernel_rfl), trivial⟩ hq (fun s2 x2 hq hn2 he2 => ?_)
 refine ifE hb 9 [66] [] hq (fun hq _ => ?_) (fun hq _ => ?_)
 refine drawE hb mixed 5 10 [] ?_
 refine idxE hb flV 3 hq fun x11 hx11 hq => ?_
 refine idxE hb flV 4 hq fun x12 hx12 hq => ?_
 refine callE hb 2 hq (hr_r07_Equal x11 x12) fun y13 hy13 hq => ?_
 refine ifE hb 2 [80] [] hq (fun hq _ => ?_) (fun hq _ => ?_)
 refine cpE hb 2 [] (s' := ⟨none, [pick (bodyOf Tryz.f19) [1, 1, 1, 0, 1, 0, 0, 1, 0, 0, 1, 0, 0], pick (bodyOf Tryz.f19) [1, 1, 1, 0, 1, 0, 0, 1, 0, 0, 1, 0, 1]], [(3, [pick (bodyOf Tryz.f19) [1, 1, 1, 0, 1, 0, 0, 1, 1], pick (bodyOf Tryz.f19) [1, 1, 1, 0, 1, 0]]), (2, [pick (bodyOf Tryz.f19) [1, 1, 1, 1]])], sl 81 [], [bx (aV a_), bx (aV b_)]⟩) ?_
 exact retE hb 3 (he1 _ ((he2 _ (injO hq)).symm))
 refine cpE hb 3 [2, 3, 6] (s' := ⟨none, [pick (bodyOf Tryz.f19) [1, 1, 1, 0, 1, 0, 0, 1, 1], pick (bodyOf Tryz.f19) [1, 1, 1, 0, 1, 0]], [(2, [pick (bodyOf Tryz.f19) [1, 1, 1, 1]])], sl 81 [(2, pt 0), (3, pt 1), (6, c1 (vi s2))], [bx (aV a_), bx (aV b_)]⟩) ?_
 exact backE hb 5 [2, 3, 6] [] 2 (hn2 _ (injO hq)) ⟨(by kernel_rfl), (by kernel_rfl), trivial⟩
 exact retE hb 6 (he1 _ ((he2 _ (injO hq)).symm))
noncomputable def tQ87 (rec : Val → Val → Option (Bool)) (a : Val) (b : Val) : Option (Bool) :=
 gQ29 (fun a0 a1 => rec a0 a1) a b
noncomputable def tQ85 (a0 : Val) (a1 : Val) : Option (Bool) := tieF relV wfV tQ87 a0 a1
theorem tQ86 (hb : Base E E0 G) (he : ∀ w, E w → EnvV w) (a0 : Val) (a1 : Val) (r : Bool) (hq : tQ85 a0 a1 = some r) : Pure E E0 Tryz.prog 19 [.agg (aV a0), .agg (aV a1)] (c1 (vB r)) :=
 tieF_ok (C := fun a b r => Pure E E0 Tryz.prog 19 [.agg (aV a), .agg (aV b)] (c1 (vB r))) (fun rec hr a b r hq => gQ2c hb he (fun a0 a1 => rec a0 a1) (fun a0 a1 r e => hr a0 a1 r e) a b r hq) a0 a1 r hq
noncomputable def gQ7v   : Option (Val) :=
 some (Val.mk 6 0 eS [] [])
theorem gQ7w (hb : Base E E0 G) (he : ∀ w, E w → EnvV w)    : ∀ r_ : Val, gQ7v = some r_ →
 Pure E E0 Tryz.prog 75 [] (.one (.agg (aV r_))) := by
 refine fnE hb Tryz.func75 rfl fun r_ hq => ?_
 exact retE hb 9 (injO hq).symm
noncomputable def gQ64 (s1_ : List ByteArray) (s2_ : List ByteArray) (s1 : Int) : Option ((Int) ⊕ (Bool)) :=
 bif (decide (s1 < (s1_.length : Int))) then (idx s1_ s1).bind fun x3 => (idx s2_ s1).bind fun x4 => bif (!decide (x3 = x4)) then some (.inr (false)) else some (.inl (IntKind.i64.wrap (s1 + 1))) else some (.inr (true))
noncomputable def gQ63  (s1_ : List ByteArray) (s2_ : List ByteArray) : Option (Bool) :=
 bif (!decide ((s1_.length : Int) = (s2_.length : Int))) then some (false) else loopO (gQ64 s1_ s2_) 0
theorem gQ65 (hb : Base E E0 G) (he : ∀ w, E w → EnvV w)   (s1_ : List ByteArray) (s2_ : List ByteArray) : ∀ r_ : Bool, gQ63 s1_ s2_ = some r_ →
 Pure E E0 Tryz.prog 66 [.cell (vL flS s1_), .cell (vL flS s2_)] (c1 (vB r_)) := by
 refine fnE hb Tryz.func66 rfl fun r_ hq => ?_
 refine ifE hb 13 [10] [] hq (fun hq _ => ?_) (fun hq _ => ?_)
 exact retE hb 5 (injO hq).symm
 refine loopE hb 10 (gQ64 s1_ s2_) (fun s1 => sl 26 [(0, c1 (vL flS s1_)), (1, c1 (vL flS s2_)), (12, c1 (vi (s1_.length : Int))), (13, c1 (vi s1))]) (fun s1 => []) [0, 1, 12, 13] [] 0 (s0 := 0) trivial hq (fun s1 x1 hq hn1 he1 => ?_)
 refine ifE hb 5 [14] [] hq (fun hq _ => ?_) (fun hq _ => ?_)
 refine drawE hb mixed 10 8 [] ?_
 refine idxE hb flS 2 hq fun x3 hx3 hq => ?_
 refine idxE hb flS 3 hq fun x4 hx4 hq => ?_
 refine ifE hb 4 [24] [] hq (fun hq _ => ?_) (fun hq _ => ?_)
 exact retE hb 5 (he1 _ (injO hq))
 exact backE hb 7 [0, 1, 12, 13] [] 0 (hn1 _ (injO hq)) trivial
 exact retE hb 6 (he1 _ (injO hq))
end Abs
end Go.Proofs.YtkffpfapfljinaaGreatDoor
