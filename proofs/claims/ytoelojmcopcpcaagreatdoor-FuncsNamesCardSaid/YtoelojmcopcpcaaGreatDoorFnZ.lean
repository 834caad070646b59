/-
  FuncsNames: Go functions as functions over plain values, with the proof that the code computes them; printed by gen.py.
-/
import Derived.Test.YtoelojmcopcpcaaGreatDoorCtA
import Derived.Test.YtoelojmcopcpcaaGreatDoorACb
import Derived.Test.YtoelojmcopcpcaaGreatDoorAbsP
import Derived.Test.YtoelojmcopcpcaaGreatDoorAbsN
namespace Go.Proofs.YtoelojmcopcpcaaGreatDoor
namespace Abs
open Go.RowKit
variable {E : World → Prop} {E0 : Nat} {G : Nat → Option (List PV)}
set_option maxRecDepth 100000
set_option linter.unusedVariables false
set_option linter.unusedSimpArgs false
attribute [local irreducible] adv J KE KO mPut mSto mBool mFrm mDraw hedS unl Pure Ok sl loopO awpL awp asq asqD asqX asqF
structure SpecG where
  kinds : ByteArray
  least : Int
  most : Int
  strict : Bool

noncomputable def g_funcs_Names   : Option (List ByteArray) :=
  some ([(⟨#[97, 98, 115]⟩ : ByteArray), (⟨#[99, 111, 97, 108, 101, 115, 99, 101]⟩ : ByteArray), (⟨#[99, 111, 110, 99, 97, 116]⟩ : ByteArray), (⟨#[99, 111, 110, 116, 97, 105, 110, 115]⟩ : ByteArray), (⟨#[100, 105, 115, 116, 105, 110, 99, 116]⟩ : ByteArray), (⟨#[101, 108, 101, 109, 101, 110, 116]⟩ : ByteArray), (⟨#[101, 110, 100, 115, 119, 105, 116, 104]⟩ : ByteArray), (⟨#[102, 108, 97, 116, 116, 101, 110]⟩ : ByteArray), (⟨#[105, 110, 100, 101, 120]⟩ : ByteArray), (⟨#[106, 111, 105, 110]⟩ : ByteArray), (⟨#[107, 101, 121, 115]⟩ : ByteArray), (⟨#[108, 101, 110, 103, 116, 104]⟩ : ByteArray), (⟨#[108, 111, 111, 107, 117, 112]⟩ : ByteArray), (⟨#[108, 111, 119, 101, 114]⟩ : ByteArray), (⟨#[109, 97, 120]⟩ : ByteArray), (⟨#[109, 101, 114, 103, 101]⟩ : ByteArray), (⟨#[109, 105, 110]⟩ : ByteArray), (⟨#[114, 97, 110, 103, 101]⟩ : ByteArray), (⟨#[114, 101, 112, 108, 97, 99, 101]⟩ : ByteArray), (⟨#[114, 101, 118, 101, 114, 115, 101]⟩ : ByteArray), (⟨#[115, 108, 105, 99, 101]⟩ : ByteArray), (⟨#[115, 111, 114, 116]⟩ : ByteArray), (⟨#[115, 112, 108, 105, 116]⟩ : ByteArray), (⟨#[115, 116, 97, 114, 116, 115, 119, 105, 116, 104]⟩ : ByteArray), (⟨#[115, 117, 109]⟩ : ByteArray), (⟨#[116, 111, 98, 111, 111, 108]⟩ : ByteArray), (⟨#[116, 111, 110, 117, 109, 98, 101, 114]⟩ : ByteArray), (⟨#[116, 111, 115, 116, 114, 105, 110, 103]⟩ : ByteArray), (⟨#[116, 114, 105, 109]⟩ : ByteArray), (⟨#[117, 112, 112, 101, 114]⟩ : ByteArray), (⟨#[118, 97, 108, 117, 101, 115]⟩ : ByteArray), (⟨#[122, 105, 112, 109, 97, 112]⟩ : ByteArray)])
theorem g_funcs_Names_ok (hb : Base E E0 G) (he : ∀ w, E w → EnvV w)    : ∀ r_ : List ByteArray, g_funcs_Names = some r_ →
 Pure E E0 Tryz.prog 4 [] (c1 (vL flS r_)) := by
 refine fnE hb Tryz.func4 rfl fun r_ hq => ?_
 refine cellTE hb 9 0 (c := .pv (.sl true 32 [pS (⟨#[97, 98, 115]⟩ : ByteArray), pS (⟨#[99, 111, 97, 108, 101, 115, 99, 101]⟩ : ByteArray), pS (⟨#[99, 111, 110, 99, 97, 116]⟩ : ByteArray), pS (⟨#[99, 111, 110, 116, 97, 105, 110, 115]⟩ : ByteArray), pS (⟨#[100, 105, 115, 116, 105, 110, 99, 116]⟩ : ByteArray), pS (⟨#[101, 108, 101, 109, 101, 110, 116]⟩ : ByteArray), pS (⟨#[101, 110, 100, 115, 119, 105, 116, 104]⟩ : ByteArray), pS (⟨#[102, 108, 97, 116, 116, 101, 110]⟩ : ByteArray), pS (⟨#[105, 110, 100, 101, 120]⟩ : ByteArray), pS (⟨#[106, 111, 105, 110]⟩ : ByteArray), pS (⟨#[107, 101, 121, 115]⟩ : ByteArray), pS (⟨#[108, 101, 110, 103, 116, 104]⟩ : ByteArray), pS (⟨#[108, 111, 111, 107, 117, 112]⟩ : ByteArray), pS (⟨#[108, 111, 119, 101, 114]⟩ : ByteArray), pS (⟨#[109, 97, 120]⟩ : ByteArray), pS (⟨#[109, 101, 114, 103, 101]⟩ : ByteArray), pS (⟨#[109, 105, 110]⟩ : ByteArray), pS (⟨#[114, 97, 110, 103, 101]⟩ : ByteArray), pS (⟨#[114, 101, 112, 108, 97, 99, 101]⟩ : ByteArray), pS (⟨#[114, 101, 118, 101, 114, 115, 101]⟩ : ByteArray), pS (⟨#[115, 108, 105, 99, 101]⟩ : ByteArray), pS (⟨#[115, 111, 114, 116]⟩ : ByteArray), pS (⟨#[115, 112, 108, 105, 116]⟩ : ByteArray), pS (⟨#[115, 116, 97, 114, 116, 115, 119, 105, 116, 104]⟩ : ByteArray), pS (⟨#[115, 117, 109]⟩ : ByteArray), pS (⟨#[116, 111, 98, 111, 111, 108]⟩ : ByteArray), pS (⟨#[116, 111, 110, 117, 109, 98, 101, 114]⟩ : ByteArray), pS (⟨#[116, 111, 115, 116, 114, 105, 110, 103]⟩ : ByteArray), pS (⟨#[116, 114, 105, 109]⟩ : ByteArray), pS (⟨#[117, 112, 112, 101, 114]⟩ : ByteArray), pS (⟨#[118, 97, 108, 117, 101, 115]⟩ : ByteArray), pS (⟨#[122, 105, 112, 109, 97, 112]⟩ : ByteArray)])) (conv_lit flS (ys := [(⟨#[97, 98, 115]⟩ : ByteArray), (⟨#[99, 111, 97, 108, 101, 115, 99, 101]⟩ : ByteArray), (⟨#[99, 111, 110, 99, 97, 116]⟩ : ByteArray), (⟨#[99, 111, 110, 116, 97, 105, 110, 115]⟩ : ByteArray), (⟨#[100, 105, 115, 116, 105, 110, 99, 116]⟩ : ByteArray), (⟨#[101, 108, 101, 109, 101, 110, 116]⟩ : ByteArray), (⟨#[101, 110, 100, 115, 119, 105, 116, 104]⟩ : ByteArray), (⟨#[102, 108, 97, 116, 116, 101, 110]⟩ : ByteArray), (⟨#[105, 110, 100, 101, 120]⟩ : ByteArray), (⟨#[106, 111, 105, 110]⟩ : ByteArray), (⟨#[107, 101, 121, 115]⟩ : ByteArray), (⟨#[108, 101, 110, 103, 116, 104]⟩ : ByteArray), (⟨#[108, 111, 111, 107, 117, 112]⟩ : ByteArray), (⟨#[108, 111, 119, 101, 114]⟩ : ByteArray), (⟨#[109, 97, 120]⟩ : ByteArray), (⟨#[109, 101, 114, 103, 101]⟩ : ByteArray), (⟨#[109, 105, 110]⟩ : ByteArray), (⟨#[114, 97, 110, 103, 101]⟩ : ByteArray), (⟨#[114, 101, 112, 108, 97, 99, 101]⟩ : ByteArray), (⟨#[114, 101, 118, 101, 114, 115, 101]⟩ : ByteArray), (⟨#[115, 108, 105, 99, 101]⟩ : ByteArray), (⟨#[115, 111, 114, 116]⟩ : ByteArray), (⟨#[115, 112, 108, 105, 116]⟩ : ByteArray), (⟨#[115, 116, 97, 114, 116, 115, 119, 105, 116, 104]⟩ : ByteArray), (⟨#[115, 117, 109]⟩ : ByteArray), (⟨#[116, 111, 98, 111, 111, 108]⟩ : ByteArray), (⟨#[116, 111, 110, 117, 109, 98, 101, 114]⟩ : ByteArray), (⟨#[116, 111, 115, 116, 114, 105, 110, 103]⟩ : ByteArray), (⟨#[116, 114, 105, 109]⟩ : ByteArray), (⟨#[117, 112, 112, 101, 114]⟩ : ByteArray), (⟨#[118, 97, 108, 117, 101, 115]⟩ : ByteArray), (⟨#[122, 105, 112, 109, 97, 112]⟩ : ByteArray)]) (by kernel_rfl)) ?_
 exact retE hb 0 (injO hq).symm
noncomputable def g_r18_Names   : Option (List ByteArray) :=
  some ([(⟨#[97, 98, 115]⟩ : ByteArray), (⟨#[99, 111, 97, 108, 101, 115, 99, 101]⟩ : ByteArray), (⟨#[99, 111, 110, 99, 97, 116]⟩ : ByteArray), (⟨#[99, 111, 110, 116, 97, 105, 110, 115]⟩ : ByteArray), (⟨#[100, 105, 115, 116, 105, 110, 99, 116]⟩ : ByteArray), (⟨#[101, 108, 101, 109, 101, 110, 116]⟩ : ByteArray), (⟨#[101, 110, 100, 115, 119, 105, 116, 104]⟩ : ByteArray), (⟨#[102, 108, 97, 116, 116, 101, 110]⟩ : ByteArray), (⟨#[105, 110, 100, 101, 120]⟩ : ByteArray), (⟨#[106, 111, 105, 110]⟩ : ByteArray), (⟨#[107, 101, 121, 115]⟩ : ByteArray), (⟨#[108, 101, 110, 103, 116, 104]⟩ : ByteArray), (⟨#[108, 111, 111, 107, 117, 112]⟩ : ByteArray), (⟨#[108, 111, 119, 101, 114]⟩ : ByteArray), (⟨#[109, 97, 120]⟩ : ByteArray), (⟨#[109, 101, 114, 103, 101]⟩ : ByteArray), (⟨#[109, 105, 110]⟩ : ByteArray), (⟨#[114, 97, 110, 103, 101]⟩ : ByteArray), (⟨#[114, 101, 112, 108, 97, 99, 101]⟩ : ByteArray), (⟨#[114, 101, 118, 101, 114, 115, 101]⟩ : ByteArray), (⟨#[115, 108, 105, 99, 101]⟩ : ByteArray), (⟨#[115, 111, 114, 116]⟩ : ByteArray), (⟨#[115, 112, 108, 105, 116]⟩ : ByteArray), (⟨#[115, 116, 97, 114, 116, 115, 119, 105, 116, 104]⟩ : ByteArray), (⟨#[115, 117, 109]⟩ : ByteArray), (⟨#[116, 111, 98, 111, 111, 108]⟩ : ByteArray), (⟨#[116, 111, 110, 117, 109, 98, 101, 114]⟩ : ByteArray), (⟨#[116, 111, 115, 116, 114, 105, 110, 103]⟩ : ByteArray), (⟨#[116, 114, 105, 109]⟩ : ByteArray), (⟨#[117, 112, 112, 101, 114]⟩ : ByteArray), (⟨#[118, 97, 108, 117, 101, 115]⟩ : ByteArray), (⟨#[122, 105, 112, 109, 97, 112]⟩ : ByteArray)])
theorem g_r18_Names_ok (hb : Base E E0 G) (he : ∀ w, E w → EnvV w)    : ∀ r_ : List ByteArray, g_r18_Names = some r_ →
 Pure E E0 Tryz.prog 5 [] (c1 (vL flS r_)) := by
 refine fnE hb Tryz.func5 rfl fun r_ hq => ?_
 refine cellTE hb 9 0 (c := .pv (.sl true 32 [pS (⟨#[97, 98, 115]⟩ : ByteArray), pS (⟨#[99, 111, 97, 108, 101, 115, 99, 101]⟩ : ByteArray), pS (⟨#[99, 111, 110, 99, 97, 116]⟩ : ByteArray), pS (⟨#[99, 111, 110, 116, 97, 105, 110, 115]⟩ : ByteArray), pS (⟨#[100, 105, 115, 116, 105, 110, 99, 116]⟩ : ByteArray), pS (⟨#[101, 108, 101, 109, 101, 110, 116]⟩ : ByteArray), pS (⟨#[101, 110, 100, 115, 119, 105, 116, 104]⟩ : ByteArray), pS (⟨#[102, 108, 97, 116, 116, 101, 110]⟩ : ByteArray), pS (⟨#[105, 110, 100, 101, 120]⟩ : ByteArray), pS (⟨#[106, 111, 105, 110]⟩ : ByteArray), pS (⟨#[107, 101, 121, 115]⟩ : ByteArray), pS (⟨#[108, 101, 110, 103, 116, 104]⟩ : ByteArray), pS (⟨#[108, 111, 111, 107, 117, 112]⟩ : ByteArray), pS (⟨#[108, 111, 119, 101, 114]⟩ : ByteArray), pS (⟨#[109, 97, 120]⟩ : ByteArray), pS (⟨#[109, 101, 114, 103, 101]⟩ : ByteArray), pS (⟨#[109, 105, 110]⟩ : ByteArray), pS (⟨#[114, 97, 110, 103, 101]⟩ : ByteArray), pS (⟨#[114, 101, 112, 108, 97, 99, 101]⟩ : ByteArray), pS (⟨#[114, 101, 118, 101, 114, 115, 101]⟩ : ByteArray), pS (⟨#[115, 108, 105, 99, 101]⟩ : ByteArray), pS (⟨#[115, 111, 114, 116]⟩ : ByteArray), pS (⟨#[115, 112, 108, 105, 116]⟩ : ByteArray), pS (⟨#[115, 116, 97, 114, 116, 115, 119, 105, 116, 104]⟩ : ByteArray), pS (⟨#[115, 117, 109]⟩ : ByteArray), pS (⟨#[116, 111, 98, 111, 111, 108]⟩ : ByteArray), pS (⟨#[116, 111, 110, 117, 109, 98, 101, 114]⟩ : ByteArray), pS (⟨#[116, 111, 115, 116, 114, 105, 110, 103]⟩ : ByteArray), pS (⟨#[116, 114, 105, 109]⟩ : ByteArray), pS (⟨#[117, 112, 112, 101, 114]⟩ : ByteArray), pS (⟨#[118, 97, 108, 117, 101, 115]⟩ : ByteArray), pS (⟨#[122, 105, 112, 109, 97, 112]⟩ : ByteArray)])) (conv_lit flS (ys := [(⟨#[97, 98, 115]⟩ : ByteArray), (⟨#[99, 111, 97, 108, 101, 115, 99, 101]⟩ : ByteArray), (⟨#[99, 111, 110, 99, 97, 116]⟩ : ByteArray), (⟨#[99, 111, 110, 116, 97, 105, 110, 115]⟩ : ByteArray), (⟨#[100, 105, 115, 116, 105, 110, 99, 116]⟩ : ByteArray), (⟨#[101, 108, 101, 109, 101, 110, 116]⟩ : ByteArray), (⟨#[101, 110, 100, 115, 119, 105, 116, 104]⟩ : ByteArray), (⟨#[102, 108, 97, 116, 116, 101, 110]⟩ : ByteArray), (⟨#[105, 110, 100, 101, 120]⟩ : ByteArray), (⟨#[106, 111, 105, 110]⟩ : ByteArray), (⟨#[107, 101, 121, 115]⟩ : ByteArray), (⟨#[108, 101, 110, 103, 116, 104]⟩ : ByteArray), (⟨#[108, 111, 111, 107, 117, 112]⟩ : ByteArray), (⟨#[108, 111, 119, 101, 114]⟩ : ByteArray), (⟨#[109, 97, 120]⟩ : ByteArray), (⟨#[109, 101, 114, 103, 101]⟩ : ByteArray), (⟨#[109, 105, 110]⟩ : ByteArray), (⟨#[114, 97, 110, 103, 101]⟩ : ByteArray), (⟨#[114, 101, 112, 108, 97, 99, 101]⟩ : ByteArray), (⟨#[114, 101, 118, 101, 114, 115, 101]⟩ : ByteArray), (⟨#[115, 108, 105, 99, 101]⟩ : ByteArray), (⟨#[115, 111, 114, 116]⟩ : ByteArray), (⟨#[115, 112, 108, 105, 116]⟩ : ByteArray), (⟨#[115, 116, 97, 114, 116, 115, 119, 105, 116, 104]⟩ : ByteArray), (⟨#[115, 117, 109]⟩ : ByteArray), (⟨#[116, 111, 98, 111, 111, 108]⟩ : ByteArray), (⟨#[116, 111, 110, 117, 109, 98, 101, 114]⟩ : ByteArray), (⟨#[116, 111, 115, 116, 114, 105, 110, 103]⟩ : ByteArray), (⟨#[116, 114, 105, 109]⟩ : ByteArray), (⟨#[117, 112, 112, 101, 114]⟩ : ByteArray), (⟨#[118, 97, 108, 117, 101, 115]⟩ : ByteArray), (⟨#[122, 105, 112, 109, 97, 112]⟩ : ByteArray)]) (by kernel_rfl)) ?_
 exact retE hb 0 (injO hq).symm
noncomputable def g_funcs_fixed  (kinds_ : ByteArray) (strict_ : Bool) : Option (SpecG × Bool) :=
  some ((SpecG.mk kinds_ (kinds_.size : Int) (kinds_.size : Int) strict_), true)
theorem g_funcs_fixed_ok (hb : Base E E0 G) (he : ∀ w, E w → EnvV w)   (kinds_ : ByteArray) (strict_ : Bool) : ∀ r_ : SpecG × Bool, g_funcs_fixed kinds_ strict_ = some r_ →
 Pure E E0 Tryz.prog 15 [.cell (vS kinds_), .cell (vB strict_)] (.tup [.agg [vS r_.1.kinds, vi r_.1.least, vi r_.1.most, vB r_.1.strict], .cell (vB r_.2)]) := by
 refine fnE hb Tryz.func15 rfl fun r_ hq => ?_
 exact retE hb 17 (injO hq).symm
noncomputable def g_funcs_find  (name_ : ByteArray) : Option (SpecG × Bool) :=
  bif (decide (name_ = (⟨#[97, 98, 115]⟩ : ByteArray))) then (g_funcs_fixed (⟨#[110]⟩ : ByteArray) true).bind fun y2 => some (y2.1, y2.2) else bif (decide (name_ = (⟨#[99, 111, 97, 108, 101, 115, 99, 101]⟩ : ByteArray))) then some ((SpecG.mk (⟨#[97]⟩ : ByteArray) 1 64 false), true) else bif (decide (name_ = (⟨#[99, 111, 110, 99, 97, 116]⟩ : ByteArray))) then some ((SpecG.mk (⟨#[108]⟩ : ByteArray) 1 64 true), true) else bif (decide (name_ = (⟨#[99, 111, 110, 116, 97, 105, 110, 115]⟩ : ByteArray))) then (g_funcs_fixed (⟨#[108, 97]⟩ : ByteArray) false).bind fun y6 => some (y6.1, y6.2) else bif (decide (name_ = (⟨#[105, 110, 100, 101, 120]⟩ : ByteArray))) then (g_funcs_fixed (⟨#[108, 97]⟩ : ByteArray) false).bind fun y8 => some (y8.1, y8.2) else bif (decide (name_ = (⟨#[100, 105, 115, 116, 105, 110, 99, 116]⟩ : ByteArray))) then (g_funcs_fixed (⟨#[108]⟩ : ByteArray) false).bind fun y10 => some (y10.1, y10.2) else bif (decide (name_ = (⟨#[102, 108, 97, 116, 116, 101, 110]⟩ : ByteArray))) then (g_funcs_fixed (⟨#[108]⟩ : ByteArray) false).bind fun y12 => some (y12.1, y12.2) else bif (decide (name_ = (⟨#[101, 108, 101, 109, 101, 110, 116]⟩ : ByteArray))) then (g_funcs_fixed (⟨#[108, 110]⟩ : ByteArray) false).bind fun y14 => some (y14.1, y14.2) else bif (decide (name_ = (⟨#[101, 110, 100, 115, 119, 105, 116, 104]⟩ : ByteArray))) then (g_funcs_fixed (⟨#[115, 115]⟩ : ByteArray) true).bind fun y16 => some (y16.1, y16.2) else bif (decide (name_ = (⟨#[115, 112, 108, 105, 116]⟩ : ByteArray))) then (g_funcs_fixed (⟨#[115, 115]⟩ : ByteArray) true).bind fun y18 => some (y18.1, y18.2) else bif (decide (name_ = (⟨#[115, 116, 97, 114, 116, 115, 119, 105, 116, 104]⟩ : ByteArray))) then (g_funcs_fixed (⟨#[115, 115]⟩ : ByteArray) true).bind fun y20 => some (y20.1, y20.2) else bif (decide (name_ = (⟨#[106, 111, 105, 110]⟩ : ByteArray))) then (g_funcs_fixed (⟨#[115, 83]⟩ : ByteArray) true).bind fun y22 => some (y22.1, y22.2) else bif (decide (name_ = (⟨#[107, 101, 121, 115]⟩ : ByteArray))) then (g_funcs_fixed (⟨#[109]⟩ : ByteArray) true).bind fun y24 => some (y24.1, y24.2) else bif (decide (name_ = (⟨#[118, 97, 108, 117, 101, 115]⟩ : ByteArray))) then (g_funcs_fixed (⟨#[109]⟩ : ByteArray) true).bind fun y26 => some (y26.1, y26.2) else bif (decide (name_ = (⟨#[108, 101, 110, 103, 116, 104]⟩ : ByteArray))) then (g_funcs_fixed (⟨#[99]⟩ : ByteArray) true).bind fun y28 => some (y28.1, y28.2) else bif (decide (name_ = (⟨#[108, 111, 111, 107, 117, 112]⟩ : ByteArray))) then some ((SpecG.mk (⟨#[109, 115, 97]⟩ : ByteArray) 2 3 false), true) else bif (decide (name_ = (⟨#[108, 111, 119, 101, 114]⟩ : ByteArray))) then (g_funcs_fixed (⟨#[115]⟩ : ByteArray) true).bind fun y31 => some (y31.1, y31.2) else bif (decide (name_ = (⟨#[116, 114, 105, 109]⟩ : ByteArray))) then (g_funcs_fixed (⟨#[115]⟩ : ByteArray) true).bind fun y33 => some (y33.1, y33.2) else bif (decide (name_ = (⟨#[117, 112, 112, 101, 114]⟩ : ByteArray))) then (g_funcs_fixed (⟨#[115]⟩ : ByteArray) true).bind fun y35 => some (y35.1, y35.2) else bif (decide (name_ = (⟨#[109, 97, 120]⟩ : ByteArray))) then some ((SpecG.mk (⟨#[110]⟩ : ByteArray) 1 64 true), true) else bif (decide (name_ = (⟨#[109, 105, 110]⟩ : ByteArray))) then some ((SpecG.mk (⟨#[110]⟩ : ByteArray) 1 64 true), true) else bif (decide (name_ = (⟨#[109, 101, 114, 103, 101]⟩ : ByteArray))) then some ((SpecG.mk (⟨#[109]⟩ : ByteArray) 1 64 true), true) else bif (decide (name_ = (⟨#[114, 97, 110, 103, 101]⟩ : ByteArray))) then some ((SpecG.mk (⟨#[110]⟩ : ByteArray) 1 2 true), true) else bif (decide (name_ = (⟨#[114, 101, 112, 108, 97, 99, 101]⟩ : ByteArray))) then (g_funcs_fixed (⟨#[115, 115, 115]⟩ : ByteArray) true).bind fun y41 => some (y41.1, y41.2) else bif (decide (name_ = (⟨#[114, 101, 118, 101, 114, 115, 101]⟩ : ByteArray))) then (g_funcs_fixed (⟨#[108]⟩ : ByteArray) true).bind fun y43 => some (y43.1, y43.2) else bif (decide (name_ = (⟨#[115, 108, 105, 99, 101]⟩ : ByteArray))) then (g_funcs_fixed (⟨#[108, 110, 110]⟩ : ByteArray) true).bind fun y45 => some (y45.1, y45.2) else bif (decide (name_ = (⟨#[115, 111, 114, 116]⟩ : ByteArray))) then (g_funcs_fixed (⟨#[83]⟩ : ByteArray) true).bind fun y47 => some (y47.1, y47.2) else bif (decide (name_ = (⟨#[115, 117, 109]⟩ : ByteArray))) then (g_funcs_fixed (⟨#[78]⟩ : ByteArray) true).bind fun y49 => some (y49.1, y49.2) else bif (decide (name_ = (⟨#[116, 111, 98, 111, 111, 108]⟩ : ByteArray))) then (g_funcs_fixed (⟨#[97]⟩ : ByteArray) false).bind fun y51 => some (y51.1, y51.2) else bif (decide (name_ = (⟨#[116, 111, 110, 117, 109, 98, 101, 114]⟩ : ByteArray))) then (g_funcs_fixed (⟨#[97]⟩ : ByteArray) false).bind fun y53 => some (y53.1, y53.2) else bif (decide (name_ = (⟨#[116, 111, 115, 116, 114, 105, 110, 103]⟩ : ByteArray))) then (g_funcs_fixed (⟨#[97]⟩ : ByteArray) false).bind fun y55 => some (y55.1, y55.2) else bif (decide (name_ = (⟨#[122, 105, 112, 109, 97, 112]⟩ : ByteArray))) then (g_funcs_fixed (⟨#[83, 108]⟩ : ByteArray) false).bind fun y57 => some (y57.1, y57.2) else some ((SpecG.mk eS 0 0 false), false)
theorem g_funcs_find_ok (hb : Base E E0 G) (he : ∀ w, E w → EnvV w)   (name_ : ByteArray) : ∀ r_ : SpecG × Bool, g_funcs_find name_ = some r_ →
 Pure E E0 Tryz.prog 9 [.cell (vS name_)] (.tup [.agg [vS r_.1.kinds, vi r_.1.least, vi r_.1.most, vB r_.1.strict], .cell (vB r_.2)]) := by
 refine fnE hb Tryz.func9 rfl fun r_ hq => ?_
 refine ifE hb 16 [5, 6] [] hq (fun hq _ => ?_) (fun hq _ => ?_)
 refine callE hb 3 hq (g_funcs_fixed_ok hb he (⟨#[110]⟩ : ByteArray) true) fun y2 hy2 hq => ?_
 exact retE hb 5 (injO hq).symm
 refine ifE hb 6 [10, 11] [] hq (fun hq _ => ?_) (fun hq _ => ?_)
 exact retE hb 7 (injO hq).symm
 refine ifE hb 6 [13, 14] [] hq (fun hq _ => ?_) (fun hq _ => ?_)
 exact retE hb 7 (injO hq).symm
 refine ifE hb 7 [16, 17] [] hq (fun hq _ => ?_) (fun hq _ => ?_)
 refine callE hb 5 hq (g_funcs_fixed_ok hb he (⟨#[108, 97]⟩ : ByteArray) false) fun y6 hy6 hq => ?_
 exact retE hb 5 (injO hq).symm
 refine ifE hb 5 [16, 18] [] hq (fun hq _ => ?_) (fun hq _ => ?_)
 refine callE hb 3 hq (g_funcs_fixed_ok hb he (⟨#[108, 97]⟩ : ByteArray) false) fun y8 hy8 hq => ?_
 exact retE hb 5 (injO hq).symm
 refine ifE hb 7 [22, 23] [] hq (fun hq _ => ?_) (fun hq _ => ?_)
 refine callE hb 5 hq (g_funcs_fixed_ok hb he (⟨#[108]⟩ : ByteArray) false) fun y10 hy10 hq => ?_
 exact retE hb 5 (injO hq).symm
 refine ifE hb 5 [22, 24] [] hq (fun hq _ => ?_) (fun hq _ => ?_)
 refine callE hb 3 hq (g_funcs_fixed_ok hb he (⟨#[108]⟩ : ByteArray) false) fun y12 hy12 hq => ?_
 exact retE hb 5 (injO hq).symm
 refine ifE hb 6 [28, 29] [] hq (fun hq _ => ?_) (fun hq _ => ?_)
 refine callE hb 3 hq (g_funcs_fixed_ok hb he (⟨#[108, 110]⟩ : ByteArray) false) fun y14 hy14 hq => ?_
 exact retE hb 5 (injO hq).symm
 refine ifE hb 7 [33, 34] [] hq (fun hq _ => ?_) (fun hq _ => ?_)
 refine callE hb 5 hq (g_funcs_fixed_ok hb he (⟨#[115, 115]⟩ : ByteArray) true) fun y16 hy16 hq => ?_
 exact retE hb 5 (injO hq).symm
 refine ifE hb 6 [33, 35] [] hq (fun hq _ => ?_) (fun hq _ => ?_)
 refine callE hb 5 hq (g_funcs_fixed_ok hb he (⟨#[115, 115]⟩ : ByteArray) true) fun y18 hy18 hq => ?_
 exact retE hb 5 (injO hq).symm
 refine ifE hb 5 [33, 36] [] hq (fun hq _ => ?_) (fun hq _ => ?_)
 refine callE hb 3 hq (g_funcs_fixed_ok hb he (⟨#[115, 115]⟩ : ByteArray) true) fun y20 hy20 hq => ?_
 exact retE hb 5 (injO hq).symm
 refine ifE hb 6 [40, 41] [] hq (fun hq _ => ?_) (fun hq _ => ?_)
 refine callE hb 3 hq (g_funcs_fixed_ok hb he (⟨#[115, 83]⟩ : ByteArray) true) fun y22 hy22 hq => ?_
 exact retE hb 5 (injO hq).symm
 refine ifE hb 7 [45, 46] [] hq (fun hq _ => ?_) (fun hq _ => ?_)
 refine callE hb 5 hq (g_funcs_fixed_ok hb he (⟨#[109]⟩ : ByteArray) true) fun y24 hy24 hq => ?_
 exact retE hb 5 (injO hq).symm
 refine ifE hb 5 [45, 47] [] hq (fun hq _ => ?_) (fun hq _ => ?_)
 refine callE hb 3 hq (g_funcs_fixed_ok hb he (⟨#[109]⟩ : ByteArray) true) fun y26 hy26 hq => ?_
 exact retE hb 5 (injO hq).symm
 refine ifE hb 6 [51, 52] [] hq (fun hq _ => ?_) (fun hq _ => ?_)
 refine callE hb 3 hq (g_funcs_fixed_ok hb he (⟨#[99]⟩ : ByteArray) true) fun y28 hy28 hq => ?_
 exact retE hb 5 (injO hq).symm
 refine ifE hb 6 [56, 57] [] hq (fun hq _ => ?_) (fun hq _ => ?_)
 exact retE hb 7 (injO hq).symm
 refine ifE hb 7 [59, 60] [] hq (fun hq _ => ?_) (fun hq _ => ?_)
 refine callE hb 5 hq (g_funcs_fixed_ok hb he (⟨#[115]⟩ : ByteArray) true) fun y31 hy31 hq => ?_
 exact retE hb 5 (injO hq).symm
 refine ifE hb 6 [59, 61] [] hq (fun hq _ => ?_) (fun hq _ => ?_)
 refine callE hb 5 hq (g_funcs_fixed_ok hb he (⟨#[115]⟩ : ByteArray) true) fun y33 hy33 hq => ?_
 exact retE hb 5 (injO hq).symm
 refine ifE hb 5 [59, 62] [] hq (fun hq _ => ?_) (fun hq _ => ?_)
 refine callE hb 3 hq (g_funcs_fixed_ok hb he (⟨#[115]⟩ : ByteArray) true) fun y35 hy35 hq => ?_
 exact retE hb 5 (injO hq).symm
 refine ifE hb 7 [66, 67] [] hq (fun hq _ => ?_) (fun hq _ => ?_)
 exact retE hb 9 (injO hq).symm
 refine ifE hb 5 [66, 68] [] hq (fun hq _ => ?_) (fun hq _ => ?_)
 exact retE hb 7 (injO hq).symm
 refine ifE hb 6 [70, 71] [] hq (fun hq _ => ?_) (fun hq _ => ?_)
 exact retE hb 7 (injO hq).symm
 refine ifE hb 6 [73, 74] [] hq (fun hq _ => ?_) (fun hq _ => ?_)
 exact retE hb 7 (injO hq).symm
 refine ifE hb 6 [76, 77] [] hq (fun hq _ => ?_) (fun hq _ => ?_)
 refine callE hb 3 hq (g_funcs_fixed_ok hb he (⟨#[115, 115, 115]⟩ : ByteArray) true) fun y41 hy41 hq => ?_
 exact retE hb 5 (injO hq).symm
 refine ifE hb 6 [81, 82] [] hq (fun hq _ => ?_) (fun hq _ => ?_)
 refine cpE hb 2 [2] (s' := ⟨none, [pk Tryz.f9 927712935932, pk Tryz.f9 927712935933], [(0, [pk Tryz.f9 7])], sl 114 [(2, pt 0)], [bx [vS eS, vi 0, vi 0, vB false]]⟩) ?_
 refine callE hb 1 hq (g_funcs_fixed_ok hb he (⟨#[108]⟩ : ByteArray) true) fun y43 hy43 hq => ?_
 exact retE hb 5 (injO hq).symm
 refine cpE hb 2 [2, 4] (s' := ⟨none, [pk Tryz.f9 927712935934, pk Tryz.f9 927712935935], [(0, [pk Tryz.f9 7])], sl 114 [(2, pt 0), (4, c1 (vS name_))], [bx [vS eS, vi 0, vi 0, vB false]]⟩) ?_
 refine ifE hb 4 [86, 87] [] hq (fun hq _ => ?_) (fun hq _ => ?_)
 refine callE hb 3 hq (g_funcs_fixed_ok hb he (⟨#[108, 110, 110]⟩ : ByteArray) true) fun y45 hy45 hq => ?_
 exact retE hb 5 (injO hq).symm
 refine ifE hb 6 [91, 92] [] hq (fun hq _ => ?_) (fun hq _ => ?_)
 refine callE hb 3 hq (g_funcs_fixed_ok hb he (⟨#[83]⟩ : ByteArray) true) fun y47 hy47 hq => ?_
 exact retE hb 5 (injO hq).symm
 refine ifE hb 6 [96, 97] [] hq (fun hq _ => ?_) (fun hq _ => ?_)
 refine callE hb 3 hq (g_funcs_fixed_ok hb he (⟨#[78]⟩ : ByteArray) true) fun y49 hy49 hq => ?_
 exact retE hb 5 (injO hq).symm
 refine ifE hb 7 [101, 102] [] hq (fun hq _ => ?_) (fun hq _ => ?_)
 refine callE hb 5 hq (g_funcs_fixed_ok hb he (⟨#[97]⟩ : ByteArray) false) fun y51 hy51 hq => ?_
 exact retE hb 5 (injO hq).symm
 refine ifE hb 6 [101, 103] [] hq (fun hq _ => ?_) (fun hq _ => ?_)
 refine callE hb 5 hq (g_funcs_fixed_ok hb he (⟨#[97]⟩ : ByteArray) false) fun y53 hy53 hq => ?_
 exact retE hb 5 (injO hq).symm
 refine ifE hb 5 [101, 104] [] hq (fun hq _ => ?_) (fun hq _ => ?_)
 refine callE hb 3 hq (g_funcs_fixed_ok hb he (⟨#[97]⟩ : ByteArray) false) fun y55 hy55 hq => ?_
 exact retE hb 5 (injO hq).symm
 refine ifE hb 6 [108, 109] [] hq (fun hq _ => ?_) (fun hq _ => ?_)
 refine callE hb 3 hq (g_funcs_fixed_ok hb he (⟨#[83, 108]⟩ : ByteArray) false) fun y57 hy57 hq => ?_
 exact retE hb 5 (injO hq).symm
 exact retE hb 9 (injO hq).symm
noncomputable def g_funcs_Arity  (name_ : ByteArray) : Option (Int × Int × Bool) :=
  (g_funcs_find name_).bind fun y1 => bif (!y1.2) then some (0, 0, false) else some (y1.1.least, y1.1.most, true)
theorem g_funcs_Arity_ok (hb : Base E E0 G) (he : ∀ w, E w → EnvV w)   (name_ : ByteArray) : ∀ r_ : Int × Int × Bool, g_funcs_Arity name_ = some r_ →
 Pure E E0 Tryz.prog 6 [.cell (vS name_)] (.tup [.cell (vi r_.1), .cell (vi r_.2.1), .cell (vB r_.2.2)]) := by
 refine fnE hb Tryz.func6 rfl fun r_ hq => ?_
 refine callE hb 9 hq (g_funcs_find_ok hb he name_) fun y1 hy1 hq => ?_
 refine ifE hb 13 [13] [] hq (fun hq _ => ?_) (fun hq _ => ?_)
 exact retE hb 7 (injO hq).symm
 refine drawE hb mixed 3 5 [] ?_
 exact retE hb 9 (injO hq).symm
noncomputable def g_r18_known_L1 (name_ : ByteArray) (y1 : List ByteArray) (s1 : Int) : Option ((Int) ⊕ (Bool)) :=
  bif (decide (s1 < (y1.length : Int))) then (idx y1 s1).bind fun x3 => bif (decide (x3 = name_)) then some (.inr (true)) else some (.inl (IntKind.i64.wrap (s1 + 1))) else some (.inr (false))
noncomputable def g_r18_known  (name_ : ByteArray) : Option (Bool) :=
  (g_r18_Names).bind fun y1 => loopO (g_r18_known_L1 name_ y1) 0
theorem g_r18_known_ok (hb : Base E E0 G) (he : ∀ w, E w → EnvV w)   (name_ : ByteArray) : ∀ r_ : Bool, g_r18_known name_ = some r_ →
 Pure E E0 Tryz.prog 10 [.cell (vS name_)] (c1 (vB r_)) := by
 refine fnE hb Tryz.func10 rfl fun r_ hq => ?_
 refine callE hb 6 hq (g_r18_Names_ok hb he ) fun y1 hy1 hq => ?_
 refine loopE hb 8 (g_r18_known_L1 name_ y1) (fun s1 => sl 18 [(0, c1 (vS name_)), (3, c1 (vL flS y1)), (4, c1 (vi s1))]) (fun s1 => []) [0, 3, 4] [] 0 (s0 := 0) trivial hq (fun s1 x1 hq hn1 he1 => ?_)
 refine ifE hb 8 [9] [] hq (fun hq _ => ?_) (fun hq _ => ?_)
 refine idxE hb flS 8 hq fun x3 hx3 hq => ?_
 refine ifE hb 4 [17] [] hq (fun hq _ => ?_) (fun hq _ => ?_)
 exact retE hb 5 (he1 _ (injO hq))
 exact backE hb 8 [0, 3, 4] [] 0 (hn1 _ (injO hq)) trivial
 exact retE hb 6 (he1 _ (injO hq))
noncomputable def g_r18_Arity  (name_ : ByteArray) : Option (Int × Int × Bool) :=
  (g_r18_known name_).bind fun y1 => bif (!y1) then some (0, 0, false) else bif (decide (name_ = (⟨#[99, 111, 97, 108, 101, 115, 99, 101]⟩ : ByteArray))) then some (1, 64, true) else bif (decide (name_ = (⟨#[99, 111, 110, 99, 97, 116]⟩ : ByteArray))) then some (1, 64, true) else bif (decide (name_ = (⟨#[109, 97, 120]⟩ : ByteArray))) then some (1, 64, true) else bif (decide (name_ = (⟨#[109, 101, 114, 103, 101]⟩ : ByteArray))) then some (1, 64, true) else bif (decide (name_ = (⟨#[109, 105, 110]⟩ : ByteArray))) then some (1, 64, true) else bif (decide (name_ = (⟨#[99, 111, 110, 116, 97, 105, 110, 115]⟩ : ByteArray))) then some (2, 2, true) else bif (decide (name_ = (⟨#[101, 108, 101, 109, 101, 110, 116]⟩ : ByteArray))) then some (2, 2, true) else bif (decide (name_ = (⟨#[101, 110, 100, 115, 119, 105, 116, 104]⟩ : ByteArray))) then some (2, 2, true) else bif (decide (name_ = (⟨#[105, 110, 100, 101, 120]⟩ : ByteArray))) then some (2, 2, true) else bif (decide (name_ = (⟨#[106, 111, 105, 110]⟩ : ByteArray))) then some (2, 2, true) else bif (decide (name_ = (⟨#[115, 112, 108, 105, 116]⟩ : ByteArray))) then some (2, 2, true) else bif (decide (name_ = (⟨#[115, 116, 97, 114, 116, 115, 119, 105, 116, 104]⟩ : ByteArray))) then some (2, 2, true) else bif (decide (name_ = (⟨#[122, 105, 112, 109, 97, 112]⟩ : ByteArray))) then some (2, 2, true) else bif (decide (name_ = (⟨#[108, 111, 111, 107, 117, 112]⟩ : ByteArray))) then some (2, 3, true) else bif (decide (name_ = (⟨#[114, 97, 110, 103, 101]⟩ : ByteArray))) then some (1, 2, true) else bif (decide (name_ = (⟨#[114, 101, 112, 108, 97, 99, 101]⟩ : ByteArray))) then some (3, 3, true) else bif (decide (name_ = (⟨#[115, 108, 105, 99, 101]⟩ : ByteArray))) then some (3, 3, true) else some (1, 1, true)
theorem g_r18_Arity_ok (hb : Base E E0 G) (he : ∀ w, E w → EnvV w)   (name_ : ByteArray) : ∀ r_ : Int × Int × Bool, g_r18_Arity name_ = some r_ →
 Pure E E0 Tryz.prog 7 [.cell (vS name_)] (.tup [.cell (vi r_.1), .cell (vi r_.2.1), .cell (vB r_.2.2)]) := by
 refine fnE hb Tryz.func7 rfl fun r_ hq => ?_
 refine callE hb 10 hq (g_r18_known_ok hb he name_) fun y1 hy1 hq => ?_
 refine ifE hb 2 [7] [] hq (fun hq _ => ?_) (fun hq _ => ?_)
 exact retE hb 7 (injO hq).symm
 refine ifE hb 14 [9, 10] [] hq (fun hq _ => ?_) (fun hq _ => ?_)
 exact retE hb 9 (injO hq).symm
 refine ifE hb 6 [9, 11] [] hq (fun hq _ => ?_) (fun hq _ => ?_)
 exact retE hb 9 (injO hq).symm
 refine ifE hb 6 [9, 12] [] hq (fun hq _ => ?_) (fun hq _ => ?_)
 exact retE hb 9 (injO hq).symm
 refine ifE hb 6 [9, 13] [] hq (fun hq _ => ?_) (fun hq _ => ?_)
 exact retE hb 9 (injO hq).symm
 refine ifE hb 5 [9, 14] [] hq (fun hq _ => ?_) (fun hq _ => ?_)
 exact retE hb 7 (injO hq).symm
 refine ifE hb 7 [15, 16] [] hq (fun hq _ => ?_) (fun hq _ => ?_)
 exact retE hb 9 (injO hq).symm
 refine ifE hb 6 [15, 17] [] hq (fun hq _ => ?_) (fun hq _ => ?_)
 exact retE hb 9 (injO hq).symm
 refine ifE hb 6 [15, 18] [] hq (fun hq _ => ?_) (fun hq _ => ?_)
 exact retE hb 9 (injO hq).symm
 refine ifE hb 6 [15, 19] [] hq (fun hq _ => ?_) (fun hq _ => ?_)
 exact retE hb 9 (injO hq).symm
 refine ifE hb 6 [15, 20] [] hq (fun hq _ => ?_) (fun hq _ => ?_)
 exact retE hb 9 (injO hq).symm
 refine ifE hb 6 [15, 21] [] hq (fun hq _ => ?_) (fun hq _ => ?_)
 exact retE hb 9 (injO hq).symm
 refine ifE hb 6 [15, 22] [] hq (fun hq _ => ?_) (fun hq _ => ?_)
 exact retE hb 9 (injO hq).symm
 refine ifE hb 5 [15, 23] [] hq (fun hq _ => ?_) (fun hq _ => ?_)
 exact retE hb 7 (injO hq).symm
 refine ifE hb 6 [24, 25] [] hq (fun hq _ => ?_) (fun hq _ => ?_)
 exact retE hb 7 (injO hq).symm
 refine ifE hb 6 [26, 27] [] hq (fun hq _ => ?_) (fun hq _ => ?_)
 exact retE hb 7 (injO hq).symm
 refine ifE hb 7 [28, 29] [] hq (fun hq _ => ?_) (fun hq _ => ?_)
 exact retE hb 9 (injO hq).symm
 refine ifE hb 5 [28, 30] [] hq (fun hq _ => ?_) (fun hq _ => ?_)
 exact retE hb 7 (injO hq).symm
 exact retE hb 9 (injO hq).symm
noncomputable def g_funcs_is_L1 (v_ : Val) (kinds_ : List Int) (s1 : Int) : Option ((Int) ⊕ (Bool)) :=
  bif (decide (s1 < (kinds_.length : Int))) then (idx kinds_ s1).bind fun x2 => bif (decide (v_.kind = x2)) then some (.inr (true)) else some (.inl (IntKind.i64.wrap (s1 + 1))) else some (.inr (decide (v_.kind = 6)))
noncomputable def g_funcs_is  (v_ : Val) (kinds_ : List Int) : Option (Bool) :=
  loopO (g_funcs_is_L1 v_ kinds_) 0
theorem g_funcs_is_ok (hb : Base E E0 G) (he : ∀ w, E w → EnvV w)   (v_ : Val) (kinds_ : List Int) : ∀ r_ : Bool, g_funcs_is v_ kinds_ = some r_ →
 Pure E E0 Tryz.prog 23 [.agg (aV v_), .cell (vL (flI .i64) kinds_)] (c1 (vB r_)) := by
 refine fnE hb Tryz.func23 rfl fun r_ hq => ?_
 refine loopE hb 13 (g_funcs_is_L1 v_ kinds_) (fun s1 => sl 21 [(2, pt 0), (7, c1 (vL (flI .i64) kinds_)), (8, c1 (vi (kinds_.length : Int))), (9, c1 (vi s1))]) (fun s1 => [bx (aV v_)]) [2, 7, 8, 9] [] 1 (s0 := 0) ⟨(by kernel_rfl), trivial⟩ hq (fun s1 x1 hq hn1 he1 => ?_)
 refine ifE hb 5 [10] [] hq (fun hq _ => ?_) (fun hq _ => ?_)
 refine idxE hb (flI .i64) 6 hq fun x2 hx2 hq => ?_
 refine ifE hb 10 [16] [] hq (fun hq _ => ?_) (fun hq _ => ?_)
 exact retE hb 5 (he1 _ (injO hq))
 exact backE hb 7 [2, 7, 8, 9] [] 1 (hn1 _ (injO hq)) ⟨(by kernel_rfl), trivial⟩
 exact retE hb 9 (he1 _ (injO hq))
noncomputable def g_funcs_all_L1 (v_ : Val) (k_ : Int) (s1 : Int) : Option ((Int) ⊕ (Bool)) :=
  bif (decide (s1 < (v_.items.length : Int))) then (idx v_.items s1).bind fun x4 => (g_funcs_is x4 [k_]).bind fun y5 => bif (!y5) then some (.inr (false)) else some (.inl (IntKind.i64.wrap (s1 + 1))) else some (.inr (true))
noncomputable def g_funcs_all  (v_ : Val) (k_ : Int) : Option (Bool) :=
  (g_funcs_is v_ [4]).bind fun y1 => bif (!y1) then some (false) else loopO (g_funcs_all_L1 v_ k_) 0
theorem g_funcs_all_ok (hb : Base E E0 G) (he : ∀ w, E w → EnvV w)   (v_ : Val) (k_ : Int) : ∀ r_ : Bool, g_funcs_all v_ k_ = some r_ →
 Pure E E0 Tryz.prog 24 [.agg (aV v_), .cell (vi k_)] (c1 (vB r_)) := by
 refine fnE hb Tryz.func24 rfl fun r_ hq => ?_
 have hp := (g_funcs_is_ok hb he v_ [4])
 simp only [aV, aT, kind_mk, num_mk, str_mk, items_mk, keys_mk, Ty.kind_mk, Ty.elems_mk, Ty.names_mk, vL_one, vL_two, vL_three, vL_four, vL_five, vL_six] at hp
 refine callE hb 10 hq hp fun y1 hy1 hq => ?_
 refine ifE hb 2 [10] [] hq (fun hq _ => ?_) (fun hq _ => ?_)
 exact retE hb 5 (injO hq).symm
 refine loopE hb 11 (g_funcs_all_L1 v_ k_) (fun s1 => sl 24 [(1, c1 (vi k_)), (12, c1 (vL flV v_.items)), (13, c1 (vi (v_.items.length : Int))), (14, c1 (vi s1))]) (fun s1 => [none]) [1, 12, 13, 14] [0] 1 (s0 := 0) ⟨rfl, trivial⟩ hq (fun s1 x1 hq hn1 he1 => ?_)
 refine ifE hb 5 [15] [] hq (fun hq _ => ?_) (fun hq _ => ?_)
 refine idxE hb flV 6 hq fun x4 hx4 hq => ?_
 have hp := (g_funcs_is_ok hb he x4 [k_])
 simp only [aV, aT, kind_mk, num_mk, str_mk, items_mk, keys_mk, Ty.kind_mk, Ty.elems_mk, Ty.names_mk, vL_one, vL_two, vL_three, vL_four, vL_five, vL_six] at hp
 refine callE hb 9 hq hp fun y5 hy5 hq => ?_
 refine ifE hb 2 [22] [] hq (fun hq _ => ?_) (fun hq _ => ?_)
 exact retE hb 5 (he1 _ (injO hq))
 exact backE hb 7 [1, 12, 13, 14] [] 1 (hn1 _ (injO hq)) ⟨rfl, trivial⟩
 exact retE hb 6 (he1 _ (injO hq))
noncomputable def g_funcs_fits  (v_ : Val) (letter_ : Int) : Option (Bool) :=
  bif (decide (letter_ = 110)) then (g_funcs_is v_ [2]).bind fun y2 => some (y2) else bif (decide (letter_ = 115)) then (g_funcs_is v_ [3]).bind fun y4 => some (y4) else bif (decide (letter_ = 108)) then (g_funcs_is v_ [4]).bind fun y6 => some (y6) else bif (decide (letter_ = 109)) then (g_funcs_is v_ [5]).bind fun y8 => some (y8) else bif (decide (letter_ = 78)) then (g_funcs_all v_ 2).bind fun y10 => some (y10) else bif (decide (letter_ = 83)) then (g_funcs_all v_ 3).bind fun y12 => some (y12) else bif (decide (letter_ = 99)) then (g_funcs_is v_ [3, 4, 5]).bind fun y14 => some (y14) else some (true)
theorem g_funcs_fits_ok (hb : Base E E0 G) (he : ∀ w, E w → EnvV w)   (v_ : Val) (letter_ : Int) : ∀ r_ : Bool, g_funcs_fits v_ letter_ = some r_ →
 Pure E E0 Tryz.prog 16 [.agg (aV v_), .cell (vI .u8 letter_)] (c1 (vB r_)) := by
 refine fnE hb Tryz.func16 rfl fun r_ hq => ?_
 refine ifE hb 16 [6, 7] [] hq (fun hq _ => ?_) (fun hq _ => ?_)
 have hp := (g_funcs_is_ok hb he v_ [2])
 simp only [aV, aT, kind_mk, num_mk, str_mk, items_mk, keys_mk, Ty.kind_mk, Ty.elems_mk, Ty.names_mk, vL_one, vL_two, vL_three, vL_four, vL_five, vL_six] at hp
 refine callE hb 5 hq hp fun y2 hy2 hq => ?_
 exact retE hb 2 (injO hq).symm
 refine ifE hb 6 [11, 12] [] hq (fun hq _ => ?_) (fun hq _ => ?_)
 have hp := (g_funcs_is_ok hb he v_ [3])
 simp only [aV, aT, kind_mk, num_mk, str_mk, items_mk, keys_mk, Ty.kind_mk, Ty.elems_mk, Ty.names_mk, vL_one, vL_two, vL_three, vL_four, vL_five, vL_six] at hp
 refine callE hb 5 hq hp fun y4 hy4 hq => ?_
 exact retE hb 2 (injO hq).symm
 refine ifE hb 6 [16, 17] [] hq (fun hq _ => ?_) (fun hq _ => ?_)
 have hp := (g_funcs_is_ok hb he v_ [4])
 simp only [aV, aT, kind_mk, num_mk, str_mk, items_mk, keys_mk, Ty.kind_mk, Ty.elems_mk, Ty.names_mk, vL_one, vL_two, vL_three, vL_four, vL_five, vL_six] at hp
 refine callE hb 5 hq hp fun y6 hy6 hq => ?_
 exact retE hb 2 (injO hq).symm
 refine ifE hb 6 [21, 22] [] hq (fun hq _ => ?_) (fun hq _ => ?_)
 have hp := (g_funcs_is_ok hb he v_ [5])
 simp only [aV, aT, kind_mk, num_mk, str_mk, items_mk, keys_mk, Ty.kind_mk, Ty.elems_mk, Ty.names_mk, vL_one, vL_two, vL_three, vL_four, vL_five, vL_six] at hp
 refine callE hb 5 hq hp fun y8 hy8 hq => ?_
 exact retE hb 2 (injO hq).symm
 refine ifE hb 6 [26, 27] [] hq (fun hq _ => ?_) (fun hq _ => ?_)
 refine callE hb 4 hq (g_funcs_all_ok hb he v_ 2) fun y10 hy10 hq => ?_
 exact retE hb 2 (injO hq).symm
 refine ifE hb 6 [30, 31] [] hq (fun hq _ => ?_) (fun hq _ => ?_)
 refine callE hb 4 hq (g_funcs_all_ok hb he v_ 3) fun y12 hy12 hq => ?_
 exact retE hb 2 (injO hq).symm
 refine ifE hb 6 [34, 35] [] hq (fun hq _ => ?_) (fun hq _ => ?_)
 have hp := (g_funcs_is_ok hb he v_ [3, 4, 5])
 simp only [aV, aT, kind_mk, num_mk, str_mk, items_mk, keys_mk, Ty.kind_mk, Ty.elems_mk, Ty.names_mk, vL_one, vL_two, vL_three, vL_four, vL_five, vL_six] at hp
 refine callE hb 5 hq hp fun y14 hy14 hq => ?_
 exact retE hb 2 (injO hq).symm
 exact retE hb 7 (injO hq).symm
noncomputable def g_funcs_spec__letter  (s_ : SpecG) (i_ : Int) : Option (Int) :=
  (sidx s_.kinds (if (IntKind.i64.wrap ((s_.kinds.size : Int) - 1)) < i_ then (IntKind.i64.wrap ((s_.kinds.size : Int) - 1)) else i_)).bind fun c1 => some (c1)
theorem g_funcs_spec__letter_ok (hb : Base E E0 G) (he : ∀ w, E w → EnvV w)   (s_ : SpecG) (i_ : Int) : ∀ r_ : Int, g_funcs_spec__letter s_ i_ = some r_ →
 Pure E E0 Tryz.prog 17 [.agg [vS s_.kinds, vi s_.least, vi s_.most, vB s_.strict], .cell (vi i_)] (c1 (vI .u8 r_)) := by
 refine fnE hb Tryz.func17 rfl fun r_ hq => ?_
 refine sidxE hb 15 hq fun c1 hc1 hq => ?_
 exact retE hb 2 (injO hq).symm
noncomputable def g_value_Known_1 (r_value_Known : Val → Option (Bool)) (x_ : Val) : Option (Bool) :=
  (r_value_Known x_).bind fun y1 => some (!y1)
theorem g_value_Known_1_ok (hb : Base E E0 G) (he : ∀ w, E w → EnvV w) (r_value_Known : Val → Option (Bool)) (hr_value_Known : ∀ (a0 : Val) (r : Bool), r_value_Known a0 = some r → Pure E E0 Tryz.prog 25 [.agg (aV a0)] (c1 (vB r))) (x_ : Val) : ∀ r_ : Bool, g_value_Known_1 r_value_Known x_ = some r_ →
 Pure E E0 Tryz.prog 37 [.agg (aV x_)] (c1 (vB r_)) := by
 refine fnE hb Tryz.func37 rfl fun r_ hq => ?_
 refine callE hb 8 hq (hr_value_Known x_) fun y1 hy1 hq => ?_
 exact retE hb 3 (injO hq).symm
noncomputable def g_value_Known_slices_ContainsFunc_value_Known_1_slices_IndexFunc_value_Known_1_L1 (r_value_Known_1 : Val → Option (Bool)) (s_ : List Val) (s1ii : Int) : Option ((Int) ⊕ (Int)) :=
  bif (decide (s1ii < (s_.length : Int))) then (idx s_ s1ii).bind fun x2 => (r_value_Known_1 x2).bind fun y3 => bif y3 then some (.inr (s1ii)) else some (.inl (IntKind.i64.wrap (s1ii + 1))) else some (.inr (-1))
noncomputable def g_value_Known_slices_ContainsFunc_value_Known_1_slices_IndexFunc_value_Known_1 (r_value_Known_1 : Val → Option (Bool)) (s_ : List Val) : Option (Int) :=
  loopO (g_value_Known_slices_ContainsFunc_value_Known_1_slices_IndexFunc_value_Known_1_L1 r_value_Known_1 s_) 0
theorem g_value_Known_slices_ContainsFunc_value_Known_1_slices_IndexFunc_value_Known_1_ok (hb : Base E E0 G) (he : ∀ w, E w → EnvV w) (r_value_Known_1 : Val → Option (Bool)) (hr_value_Known_1 : ∀ (a0 : Val) (r : Bool), r_value_Known_1 a0 = some r → Pure E E0 Tryz.prog 37 [.agg (aV a0)] (c1 (vB r))) (s_ : List Val) : ∀ r_ : Int, g_value_Known_slices_ContainsFunc_value_Known_1_slices_IndexFunc_value_Known_1 r_value_Known_1 s_ = some r_ →
 Pure E E0 Tryz.prog 69 [.cell (vL flV s_), .cell (.pv (.sc (.func (.func 37) #[] #[])))] (c1 (vi r_)) := by
 refine fnE hb Tryz.func69 rfl fun r_ hq => ?_
 refine loopE hb 12 (g_value_Known_slices_ContainsFunc_value_Known_1_slices_IndexFunc_value_Known_1_L1 r_value_Known_1 s_) (fun s1ii => sl 19 [(0, c1 (vL flV s_)), (1, c1 (.pv (.sc (.func (.func 37) #[] #[])))), (7, c1 (vi (s_.length : Int))), (8, c1 (vi s1ii))]) (fun s1ii => []) [0, 1, 7, 8] [] 0 (s0 := 0) trivial hq (fun s1ii x1 hq hn1 he1 => ?_)
 refine ifE hb 5 [9] [] hq (fun hq _ => ?_) (fun hq _ => ?_)
 refine idxE hb flV 14 hq fun x2 hx2 hq => ?_
 refine callE hb 1 hq (hr_value_Known_1 x2) fun y3 hy3 hq => ?_
 refine ifE hb 1 [16] [] hq (fun hq _ => ?_) (fun hq _ => ?_)
 exact retE hb 6 (he1 _ (injO hq))
 exact backE hb 7 [0, 1, 7, 8] [] 0 (hn1 _ (injO hq)) trivial
 exact retE hb 6 (he1 _ (injO hq))
noncomputable def g_value_Known_slices_ContainsFunc_value_Known_1 (r_value_Known_1 : Val → Option (Bool)) (s_ : List Val) : Option (Bool) :=
  (g_value_Known_slices_ContainsFunc_value_Known_1_slices_IndexFunc_value_Known_1 r_value_Known_1 s_).bind fun y1 => some (decide (y1 ≥ 0))
theorem g_value_Known_slices_ContainsFunc_value_Known_1_ok (hb : Base E E0 G) (he : ∀ w, E w → EnvV w) (r_value_Known_1 : Val → Option (Bool)) (hr_value_Known_1 : ∀ (a0 : Val) (r : Bool), r_value_Known_1 a0 = some r → Pure E E0 Tryz.prog 37 [.agg (aV a0)] (c1 (vB r))) (s_ : List Val) : ∀ r_ : Bool, g_value_Known_slices_ContainsFunc_value_Known_1 r_value_Known_1 s_ = some r_ →
 Pure E E0 Tryz.prog 36 [.cell (vL flV s_), .cell (.pv (.sc (.func (.func 37) #[] #[])))] (c1 (vB r_)) := by
 refine fnE hb Tryz.func36 rfl fun r_ hq => ?_
 refine callE hb 8 hq (g_value_Known_slices_ContainsFunc_value_Known_1_slices_IndexFunc_value_Known_1_ok hb he r_value_Known_1 hr_value_Known_1 s_) fun y1 hy1 hq => ?_
 exact retE hb 3 (injO hq).symm
noncomputable def g_value_Known (r_value_Known_1 : Val → Option (Bool)) (v_ : Val) : Option (Bool) :=
  bif (!decide (v_.kind = 6)) then (g_value_Known_slices_ContainsFunc_value_Known_1 r_value_Known_1 v_.items).bind fun y2 => some (!y2) else some (false)
theorem g_value_Known_ok (hb : Base E E0 G) (he : ∀ w, E w → EnvV w) (r_value_Known_1 : Val → Option (Bool)) (hr_value_Known_1 : ∀ (a0 : Val) (r : Bool), r_value_Known_1 a0 = some r → Pure E E0 Tryz.prog 37 [.agg (aV a0)] (c1 (vB r))) (v_ : Val) : ∀ r_ : Bool, g_value_Known r_value_Known_1 v_ = some r_ →
 Pure E E0 Tryz.prog 25 [.agg (aV v_)] (c1 (vB r_)) := by
 refine fnE hb Tryz.func25 rfl fun r_ hq => ?_
 refine ifE hb 11 [5, 6] [] hq (fun hq _ => ?_) (fun hq _ => ?_)
 refine callE hb 2 hq (g_value_Known_slices_ContainsFunc_value_Known_1_ok hb he r_value_Known_1 hr_value_Known_1 v_.items) fun y2 hy2 hq => ?_
 exact retE hb 4 (injO hq).symm
 exact retE hb 7 (injO hq).symm
noncomputable def t_value_Known_step (rec : Val → Unit → Option (Bool)) (a : Val) (b : Unit) : Option (Bool) :=
  g_value_Known (g_value_Known_1 (fun a0 => rec a0 ())) a
noncomputable def t_value_Known (a0 : Val) : Option (Bool) := tieF relV wfV t_value_Known_step a0 ()
theorem t_value_Known_ok (hb : Base E E0 G) (he : ∀ w, E w → EnvV w) (a0 : Val) (r : Bool) (hq : t_value_Known a0 = some r) : Pure E E0 Tryz.prog 25 [.agg (aV a0)] (c1 (vB r)) :=
  tieF_ok (C := fun a b r => Pure E E0 Tryz.prog 25 [.agg (aV a)] (c1 (vB r))) (fun rec hr a b r hq => g_value_Known_ok hb he (g_value_Known_1 (fun a0 => rec a0 ())) (g_value_Known_1_ok hb he (fun a0 => rec a0 ()) (fun a0 r e => hr a0 () r e)) a r hq) a0 () r hq
noncomputable def t_value_Known_1 (a0 : Val) : Option (Bool) := (g_value_Known_1 t_value_Known) a0
theorem t_value_Known_1_ok (hb : Base E E0 G) (he : ∀ w, E w → EnvV w) (a0 : Val) (r : Bool) (hq : t_value_Known_1 a0 = some r) : Pure E E0 Tryz.prog 37 [.agg (aV a0)] (c1 (vB r)) :=
  g_value_Known_1_ok hb he t_value_Known (t_value_Known_ok hb he) a0 r hq
noncomputable def g_funcs_spec__open_L1 (s_ : SpecG) (args_ : List Val) (s1 : Int) : Option ((Int) ⊕ (Bool)) :=
  bif (decide (s1 < (args_.length : Int))) then (idx args_ s1).bind fun x2 => bif (decide (x2.kind = 6)) then some (.inr (true)) else (g_funcs_spec__letter s_ s1).bind fun y4 => bif (decide (y4 = 78)) then (t_value_Known x2).bind fun y6 => bif (!y6) then some (.inr (true)) else some (.inl (IntKind.i64.wrap (s1 + 1))) else bif (decide (y4 = 83)) then (t_value_Known x2).bind fun y9 => bif (!y9) then some (.inr (true)) else some (.inl (IntKind.i64.wrap (s1 + 1))) else some (.inl (IntKind.i64.wrap (s1 + 1))) else some (.inr (false))
noncomputable def g_funcs_spec__open  (s_ : SpecG) (args_ : List Val) : Option (Bool) :=
  loopO (g_funcs_spec__open_L1 s_ args_) 0
theorem g_funcs_spec__open_ok (hb : Base E E0 G) (he : ∀ w, E w → EnvV w)   (s_ : SpecG) (args_ : List Val) : ∀ r_ : Bool, g_funcs_spec__open s_ args_ = some r_ →
 Pure E E0 Tryz.prog 18 [.agg [vS s_.kinds, vi s_.least, vi s_.most, vB s_.strict], .cell (vL flV args_)] (c1 (vB r_)) := by
 refine fnE hb Tryz.func18 rfl fun r_ hq => ?_
 refine loopE hb 13 (g_funcs_spec__open_L1 s_ args_) (fun s1 => sl 33 [(2, pt 0), (8, c1 (vL flV args_)), (9, c1 (vi (args_.length : Int))), (10, c1 (vi s1))]) (fun s1 => [bx [vS s_.kinds, vi s_.least, vi s_.most, vB s_.strict]]) [2, 8, 9, 10] [] 1 (s0 := 0) ⟨(by kernel_rfl), trivial⟩ hq (fun s1 x1 hq hn1 he1 => ?_)
 refine ifE hb 5 [11] [] hq (fun hq _ => ?_) (fun hq _ => ?_)
 refine idxE hb flV 7 hq fun x2 hx2 hq => ?_
 refine ifE hb 12 [17] [] hq (fun hq _ => ?_) (fun hq _ => ?_)
 exact retE hb 5 (he1 _ (injO hq))
 refine callE hb 6 hq (g_funcs_spec__letter_ok hb he s_ s1) fun y4 hy4 hq => ?_
 refine ifE hb 7 [22, 23] [] hq (fun hq _ => ?_) (fun hq _ => ?_)
 refine callE hb 5 hq (t_value_Known_ok hb he x2) fun y6 hy6 hq => ?_
 refine ifE hb 3 [30, 31] [] hq (fun hq _ => ?_) (fun hq _ => ?_)
 exact retE hb 5 (he1 _ (injO hq))
 exact backE hb 7 [2, 8, 9, 10] [] 1 (hn1 _ (injO hq)) ⟨(by kernel_rfl), trivial⟩
 refine ifE hb 4 [25, 26, 27] [] hq (fun hq _ => ?_) (fun hq _ => ?_)
 refine callE hb 1 hq (t_value_Known_ok hb he x2) fun y9 hy9 hq => ?_
 refine ifE hb 3 [30, 31] [] hq (fun hq _ => ?_) (fun hq _ => ?_)
 exact retE hb 5 (he1 _ (injO hq))
 exact backE hb 7 [2, 8, 9, 10] [] 1 (hn1 _ (injO hq)) ⟨(by kernel_rfl), trivial⟩
 exact backE hb 12 [2, 8, 9, 10] [] 1 (hn1 _ (injO hq)) ⟨(by kernel_rfl), trivial⟩
 exact retE hb 6 (he1 _ (injO hq))
noncomputable def g_value_Unknown   : Option (Val) :=
  some (Val.mk 6 0 eS [] [])
theorem g_value_Unknown_ok (hb : Base E E0 G) (he : ∀ w, E w → EnvV w)    : ∀ r_ : Val, g_value_Unknown = some r_ →
 Pure E E0 Tryz.prog 19 [] (.one (.agg (aV r_))) := by
 refine fnE hb Tryz.func19 rfl fun r_ hq => ?_
 exact retE hb 9 (injO hq).symm
noncomputable def g_funcs_numeric (a0 : ByteArray) (a1 : List Val) : Option (Val × Int) := none
theorem g_funcs_numeric_ok (hb : Base E E0 G) (he : ∀ w, E w → EnvV w) (a0 : ByteArray) (a1 : List Val) : ∀ r_ : Val × Int, g_funcs_numeric a0 a1 = some r_ → Pure E E0 Tryz.prog 26 [.cell (vS a0), .cell (vL flV a1)] (.tup [.agg (aV r_.1), .cell (vi r_.2)]) := fun _ h => by cases h
noncomputable def g_funcs_textual (a0 : ByteArray) (a1 : List Val) : Option (Val × Int) := none
theorem g_funcs_textual_ok (hb : Base E E0 G) (he : ∀ w, E w → EnvV w) (a0 : ByteArray) (a1 : List Val) : ∀ r_ : Val × Int, g_funcs_textual a0 a1 = some r_ → Pure E E0 Tryz.prog 27 [.cell (vS a0), .cell (vL flV a1)] (.tup [.agg (aV r_.1), .cell (vi r_.2)]) := fun _ h => by cases h
noncomputable def g_value_Number  (n_ : Int) : Option (Val) :=
  some (Val.mk 2 n_ eS [] [])
theorem g_value_Number_ok (hb : Base E E0 G) (he : ∀ w, E w → EnvV w)   (n_ : Int) : ∀ r_ : Val, g_value_Number n_ = some r_ →
 Pure E E0 Tryz.prog 38 [.cell (vi n_)] (.one (.agg (aV r_))) := by
 refine fnE hb Tryz.func38 rfl fun r_ hq => ?_
 exact retE hb 10 (injO hq).symm
noncomputable def g_value_Bool  (b_ : Bool) : Option (Val) :=
  bif b_ then some (Val.mk 1 1 eS [] []) else some (Val.mk 1 0 eS [] [])
theorem g_value_Bool_ok (hb : Base E E0 G) (he : ∀ w, E w → EnvV w)   (b_ : Bool) : ∀ r_ : Val, g_value_Bool b_ = some r_ →
 Pure E E0 Tryz.prog 42 [.cell (vB b_)] (.one (.agg (aV r_))) := by
 refine fnE hb Tryz.func42 rfl fun r_ hq => ?_
 refine ifE hb 15 [0, 5] [] hq (fun hq _ => ?_) (fun hq _ => ?_)
 exact retE hb 10 (injO hq).symm
 exact retE hb 7 (injO hq).symm
noncomputable def g_slices_Equal_L1 (s1_ : List ByteArray) (s2_ : List ByteArray) (s1 : Int) : Option ((Int) ⊕ (Bool)) :=
  bif (decide (s1 < (s1_.length : Int))) then (idx s1_ s1).bind fun x3 => (idx s2_ s1).bind fun x4 => bif (!decide (x3 = x4)) then some (.inr (false)) else some (.inl (IntKind.i64.wrap (s1 + 1))) else some (.inr (true))
noncomputable def g_slices_Equal  (s1_ : List ByteArray) (s2_ : List ByteArray) : Option (Bool) :=
  bif (!decide ((s1_.length : Int) = (s2_.length : Int))) then some (false) else loopO (g_slices_Equal_L1 s1_ s2_) 0
theorem g_slices_Equal_ok (hb : Base E E0 G) (he : ∀ w, E w → EnvV w)   (s1_ : List ByteArray) (s2_ : List ByteArray) : ∀ r_ : Bool, g_slices_Equal s1_ s2_ = some r_ →
 Pure E E0 Tryz.prog 110 [.cell (vL flS s1_), .cell (vL flS s2_)] (c1 (vB r_)) := by
 refine fnE hb Tryz.func110 rfl fun r_ hq => ?_
 refine ifE hb 13 [10] [] hq (fun hq _ => ?_) (fun hq _ => ?_)
 exact retE hb 5 (injO hq).symm
 refine loopE hb 10 (g_slices_Equal_L1 s1_ s2_) (fun s1 => sl 26 [(0, c1 (vL flS s1_)), (1, c1 (vL flS s2_)), (12, c1 (vi (s1_.length : Int))), (13, c1 (vi s1))]) (fun s1 => []) [0, 1, 12, 13] [] 0 (s0 := 0) trivial hq (fun s1 x1 hq hn1 he1 => ?_)
 refine ifE hb 5 [14] [] hq (fun hq _ => ?_) (fun hq _ => ?_)
 refine drawE hb mixed 10 8 [] ?_
 refine idxE hb flS 2 hq fun x3 hx3 hq => ?_
 refine idxE hb flS 3 hq fun x4 hx4 hq => ?_
 refine ifE hb 4 [24] [] hq (fun hq _ => ?_) (fun hq _ => ?_)
 exact retE hb 5 (he1 _ (injO hq))
 exact backE hb 7 [0, 1, 12, 13] [] 0 (hn1 _ (injO hq)) trivial
 exact retE hb 6 (he1 _ (injO hq))
noncomputable def g_value_Equal_slices_EqualFunc_value_Equal_L1 (r_value_Equal : Val → Val → Option (Bool)) (s1_ : List Val) (s2_ : List Val) (s1i : Int) : Option ((Int) ⊕ (Bool)) :=
  bif (decide (s1i < (s1_.length : Int))) then (idx s1_ s1i).bind fun x3 => (idx s2_ s1i).bind fun x4 => (r_value_Equal x3 x4).bind fun y5 => bif (!y5) then some (.inr (false)) else some (.inl (IntKind.i64.wrap (s1i + 1))) else some (.inr (true))
noncomputable def g_value_Equal_slices_EqualFunc_value_Equal (r_value_Equal : Val → Val → Option (Bool)) (s1_ : List Val) (s2_ : List Val) : Option (Bool) :=
  bif (!decide ((s1_.length : Int) = (s2_.length : Int))) then some (false) else loopO (g_value_Equal_slices_EqualFunc_value_Equal_L1 r_value_Equal s1_ s2_) 0
theorem g_value_Equal_slices_EqualFunc_value_Equal_ok (hb : Base E E0 G) (he : ∀ w, E w → EnvV w) (r_value_Equal : Val → Val → Option (Bool)) (hr_value_Equal : ∀ (a0 : Val) (a1 : Val) (r : Bool), r_value_Equal a0 a1 = some r → Pure E E0 Tryz.prog 109 [.agg (aV a0), .agg (aV a1)] (c1 (vB r))) (s1_ : List Val) (s2_ : List Val) : ∀ r_ : Bool, g_value_Equal_slices_EqualFunc_value_Equal r_value_Equal s1_ s2_ = some r_ →
 Pure E E0 Tryz.prog 145 [.cell (vL flV s1_), .cell (vL flV s2_), .cell (.pv (.sc (.func (.func 109) #[] #[])))] (c1 (vB r_)) := by
 refine fnE hb Tryz.func145 rfl fun r_ hq => ?_
 refine ifE hb 13 [14] [] hq (fun hq _ => ?_) (fun hq _ => ?_)
 exact retE hb 5 (injO hq).symm
 refine loopE hb 10 (g_value_Equal_slices_EqualFunc_value_Equal_L1 r_value_Equal s1_ s2_) (fun s1i => sl 32 [(1, c1 (vL flV s2_)), (2, c1 (.pv (.sc (.func (.func 109) #[] #[])))), (15, c1 (vL flV s1_)), (16, c1 (vi (s1_.length : Int))), (17, c1 (vi s1i))]) (fun s1i => []) [1, 2, 15, 16, 17] [] 0 (s0 := 0) trivial hq (fun s1i x1 hq hn1 he1 => ?_)
 refine ifE hb 5 [18] [] hq (fun hq _ => ?_) (fun hq _ => ?_)
 refine idxE hb flV 7 hq fun x3 hx3 hq => ?_
 refine idxE hb flV 9 hq fun x4 hx4 hq => ?_
 refine callE hb 9 hq (hr_value_Equal x3 x4) fun y5 hy5 hq => ?_
 refine ifE hb 2 [30] [] hq (fun hq _ => ?_) (fun hq _ => ?_)
 exact retE hb 5 (he1 _ (injO hq))
 exact backE hb 7 [1, 2, 15, 16, 17] [] 0 (hn1 _ (injO hq)) trivial
 exact retE hb 6 (he1 _ (injO hq))
noncomputable def g_value_Equal (r_value_Equal : Val → Val → Option (Bool)) (a_ : Val) (b_ : Val) : Option (Bool) :=
  bif (decide (a_.kind = b_.kind)) then bif (decide (a_.num = b_.num)) then bif (decide (a_.str = b_.str)) then (g_slices_Equal a_.keys b_.keys).bind fun y4 => bif y4 then (g_value_Equal_slices_EqualFunc_value_Equal r_value_Equal a_.items b_.items).bind fun y6 => some (y6) else some (false) else some (false) else some (false) else some (false)
theorem g_value_Equal_ok (hb : Base E E0 G) (he : ∀ w, E w → EnvV w) (r_value_Equal : Val → Val → Option (Bool)) (hr_value_Equal : ∀ (a0 : Val) (a1 : Val) (r : Bool), r_value_Equal a0 a1 = some r → Pure E E0 Tryz.prog 109 [.agg (aV a0), .agg (aV a1)] (c1 (vB r))) (a_ : Val) (b_ : Val) : ∀ r_ : Bool, g_value_Equal r_value_Equal a_ b_ = some r_ →
 Pure E E0 Tryz.prog 109 [.agg (aV a_), .agg (aV b_)] (c1 (vB r_)) := by
 refine fnE hb Tryz.func109 rfl fun r_ hq => ?_
 refine ifE hb 14 [9, 10] [] hq (fun hq _ => ?_) (fun hq _ => ?_)
 refine ifE hb 7 [15, 16, 17] [] hq (fun hq _ => ?_) (fun hq _ => ?_)
 refine ifE hb 7 [22, 23, 24] [] hq (fun hq _ => ?_) (fun hq _ => ?_)
 refine callE hb 4 hq (g_slices_Equal_ok hb he a_.keys b_.keys) fun y4 hy4 hq => ?_
 refine ifE hb 2 [29, 30, 31] [] hq (fun hq _ => ?_) (fun hq _ => ?_)
 refine callE hb 4 hq (g_value_Equal_slices_EqualFunc_value_Equal_ok hb he r_value_Equal hr_value_Equal a_.items b_.items) fun y6 hy6 hq => ?_
 exact retE hb 3 (injO hq).symm
 exact retE hb 8 (injO hq).symm
 exact retE hb 15 (injO hq).symm
 exact retE hb 22 (injO hq).symm
 exact retE hb 29 (injO hq).symm
noncomputable def t_value_Equal_step (rec : Val → Val → Option (Bool)) (a : Val) (b : Val) : Option (Bool) :=
  g_value_Equal (fun a0 a1 => rec a0 a1) a b
noncomputable def t_value_Equal (a0 : Val) (a1 : Val) : Option (Bool) := tieF relV wfV t_value_Equal_step a0 a1
theorem t_value_Equal_ok (hb : Base E E0 G) (he : ∀ w, E w → EnvV w) (a0 : Val) (a1 : Val) (r : Bool) (hq : t_value_Equal a0 a1 = some r) : Pure E E0 Tryz.prog 109 [.agg (aV a0), .agg (aV a1)] (c1 (vB r)) :=
  tieF_ok (C := fun a b r => Pure E E0 Tryz.prog 109 [.agg (aV a), .agg (aV b)] (c1 (vB r))) (fun rec hr a b r hq => g_value_Equal_ok hb he (fun a0 a1 => rec a0 a1) (fun a0 a1 r e => hr a0 a1 r e) a b r hq) a0 a1 r hq
noncomputable def g_funcs_alike  (a_ : Val) (b_ : Val) : Option (Bool) :=
  (t_value_Equal a_ b_).bind fun y1 => bif y1 then (t_value_Known a_).bind fun y3 => some (y3) else some (false)
theorem g_funcs_alike_ok (hb : Base E E0 G) (he : ∀ w, E w → EnvV w)   (a_ : Val) (b_ : Val) : ∀ r_ : Bool, g_funcs_alike a_ b_ = some r_ →
 Pure E E0 Tryz.prog 83 [.agg (aV a_), .agg (aV b_)] (c1 (vB r_)) := by
 refine fnE hb Tryz.func83 rfl fun r_ hq => ?_
 refine callE hb 10 hq (t_value_Equal_ok hb he a_ b_) fun y1 hy1 hq => ?_
 refine ifE hb 1 [7, 8] [] hq (fun hq _ => ?_) (fun hq _ => ?_)
 refine callE hb 1 hq (t_value_Known_ok hb he a_) fun y3 hy3 hq => ?_
 exact retE hb 3 (injO hq).symm
 exact retE hb 5 (injO hq).symm
noncomputable def g_funcs_unlike_L1 (r_funcs_unlike : Val → Val → Option (Bool)) (a_ : Val) (b_ : Val) (s1 : Int) : Option ((Int) ⊕ (Bool)) :=
  bif (decide (s1 < (a_.items.length : Int))) then (idx a_.items s1).bind fun x10 => (idx b_.items s1).bind fun x11 => (r_funcs_unlike x10 x11).bind fun y12 => bif y12 then some (.inr (true)) else some (.inl (IntKind.i64.wrap (s1 + 1))) else some (.inr (false))
noncomputable def g_funcs_unlike (r_funcs_unlike : Val → Val → Option (Bool)) (a_ : Val) (b_ : Val) : Option (Bool) :=
  bif (decide (a_.kind = 6)) then some (false) else bif (decide (b_.kind = 6)) then some (false) else bif (!decide (a_.kind = b_.kind)) then some (true) else bif (!decide (a_.num = b_.num)) then some (true) else bif (!decide (a_.str = b_.str)) then some (true) else bif (!decide ((a_.items.length : Int) = (b_.items.length : Int))) then some (true) else (g_slices_Equal a_.keys b_.keys).bind fun y7 => bif (!y7) then some (true) else loopO (g_funcs_unlike_L1 r_funcs_unlike a_ b_) 0
theorem g_funcs_unlike_ok (hb : Base E E0 G) (he : ∀ w, E w → EnvV w) (r_funcs_unlike : Val → Val → Option (Bool)) (hr_funcs_unlike : ∀ (a0 : Val) (a1 : Val) (r : Bool), r_funcs_unlike a0 a1 = some r → Pure E E0 Tryz.prog 84 [.agg (aV a0), .agg (aV a1)] (c1 (vB r))) (a_ : Val) (b_ : Val) : ∀ r_ : Bool, g_funcs_unlike r_funcs_unlike a_ b_ = some r_ →
 Pure E E0 Tryz.prog 84 [.agg (aV a_), .agg (aV b_)] (c1 (vB r_)) := by
 refine fnE hb Tryz.func84 rfl fun r_ hq => ?_
 refine ifE hb 13 [8, 9] [] hq (fun hq _ => ?_) (fun hq _ => ?_)
 exact retE hb 10 (injO hq).symm
 refine ifE hb 5 [12, 13] [] hq (fun hq _ => ?_) (fun hq _ => ?_)
 exact retE hb 5 (injO hq).symm
 refine ifE hb 11 [18, 19] [] hq (fun hq _ => ?_) (fun hq _ => ?_)
 exact retE hb 36 (injO hq).symm
 refine ifE hb 7 [24, 25, 26] [] hq (fun hq _ => ?_) (fun hq _ => ?_)
 exact retE hb 29 (injO hq).symm
 refine ifE hb 7 [31, 32, 33] [] hq (fun hq _ => ?_) (fun hq _ => ?_)
 exact retE hb 22 (injO hq).symm
 refine ifE hb 9 [40, 41, 42] [] hq (fun hq _ => ?_) (fun hq _ => ?_)
 exact retE hb 13 (injO hq).symm
 refine callE hb 4 hq (g_slices_Equal_ok hb he a_.keys b_.keys) fun y7 hy7 hq => ?_
 refine ifE hb 3 [48, 49] [] hq (fun hq _ => ?_) (fun hq _ => ?_)
 exact retE hb 5 (injO hq).symm
 refine cpE hb 11 [2, 3, 52, 53] (s' := ⟨none, [pk Tryz.f84 122], [(0, [pk Tryz.f84 31])], sl 68 [(2, pt 0), (3, pt 1), (52, c1 (vi (a_.items.length : Int))), (53, c1 (vi 0))], [bx (aV a_), bx (aV b_)]⟩) ?_
 refine loopE hb 0 (g_funcs_unlike_L1 r_funcs_unlike a_ b_) (fun s1 => sl 68 [(2, pt 0), (3, pt 1), (52, c1 (vi (a_.items.length : Int))), (53, c1 (vi s1))]) (fun s1 => [bx (aV a_), bx (aV b_)]) [2, 3, 52, 53] [] 2 (s0 := 0) ⟨(by kernel_rfl), (by kernel_rfl), trivial⟩ hq (fun s1 x1 hq hn1 he1 => ?_)
 refine ifE hb 5 [54] [] hq (fun hq _ => ?_) (fun hq _ => ?_)
 refine drawE hb mixed 10 10 [] ?_
 refine idxE hb flV 3 hq fun x10 hx10 hq => ?_
 refine idxE hb flV 4 hq fun x11 hx11 hq => ?_
 refine callE hb 2 hq (hr_funcs_unlike x10 x11) fun y12 hy12 hq => ?_
 refine ifE hb 1 [66] [] hq (fun hq _ => ?_) (fun hq _ => ?_)
 exact retE hb 5 (he1 _ (injO hq))
 exact backE hb 7 [2, 3, 52, 53] [] 2 (hn1 _ (injO hq)) ⟨(by kernel_rfl), (by kernel_rfl), trivial⟩
 exact retE hb 6 (he1 _ (injO hq))
noncomputable def t_funcs_unlike_step (rec : Val → Val → Option (Bool)) (a : Val) (b : Val) : Option (Bool) :=
  g_funcs_unlike (fun a0 a1 => rec a0 a1) a b
noncomputable def t_funcs_unlike (a0 : Val) (a1 : Val) : Option (Bool) := tieF relV wfV t_funcs_unlike_step a0 a1
theorem t_funcs_unlike_ok (hb : Base E E0 G) (he : ∀ w, E w → EnvV w) (a0 : Val) (a1 : Val) (r : Bool) (hq : t_funcs_unlike a0 a1 = some r) : Pure E E0 Tryz.prog 84 [.agg (aV a0), .agg (aV a1)] (c1 (vB r)) :=
  tieF_ok (C := fun a b r => Pure E E0 Tryz.prog 84 [.agg (aV a), .agg (aV b)] (c1 (vB r))) (fun rec hr a b r hq => g_funcs_unlike_ok hb he (fun a0 a1 => rec a0 a1) (fun a0 a1 r e => hr a0 a1 r e) a b r hq) a0 a1 r hq
noncomputable def g_funcs_contains_L1 (l_ : List Val) (v_ : Val) (s1 : Int × Bool) : Option ((Int × Bool) ⊕ (Val)) :=
  bif (decide (s1.1 < (l_.length : Int))) then (idx l_ s1.1).bind fun x2 => (g_funcs_alike x2 v_).bind fun y3 => bif y3 then (g_value_Bool true).bind fun y5 => some (.inr (y5)) else bif s1.2 then (t_funcs_unlike x2 v_).bind fun y7 => some (.inl ((IntKind.i64.wrap (s1.1 + 1)), y7)) else some (.inl ((IntKind.i64.wrap (s1.1 + 1)), false)) else bif (!s1.2) then (g_value_Unknown).bind fun y9 => some (.inr (y9)) else (g_value_Bool false).bind fun y10 => some (.inr (y10))
noncomputable def g_funcs_contains  (l_ : List Val) (v_ : Val) : Option (Val) :=
  loopO (g_funcs_contains_L1 l_ v_) (0, true)
theorem g_funcs_contains_ok (hb : Base E E0 G) (he : ∀ w, E w → EnvV w)   (l_ : List Val) (v_ : Val) : ∀ r_ : Val, g_funcs_contains l_ v_ = some r_ →
 Pure E E0 Tryz.prog 51 [.cell (vL flV l_), .agg (aV v_)] (.one (.agg (aV r_))) := by
 refine fnE hb Tryz.func51 rfl fun r_ hq => ?_
 refine loopE hb 17 (g_funcs_contains_L1 l_ v_) (fun s1 => sl 29 [(3, pt 0), (4, pt 1), (5, c1 (vB s1.2)), (8, c1 (vL flV l_)), (9, c1 (vi (l_.length : Int))), (10, c1 (vi s1.1))]) (fun s1 => [bx (aV v_), bx zV]) [3, 4, 5, 8, 9, 10] [] 2 (s0 := (0, true)) ⟨(by kernel_rfl), (by kernel_rfl), trivial⟩ hq (fun s1 x1 hq hn1 he1 => ?_)
 refine ifE hb 5 [11] [] hq (fun hq _ => ?_) (fun hq _ => ?_)
 refine idxE hb flV 6 hq fun x2 hx2 hq => ?_
 refine callE hb 9 hq (g_funcs_alike_ok hb he x2 v_) fun y3 hy3 hq => ?_
 refine ifE hb 1 [16] [] hq (fun hq _ => ?_) (fun hq _ => ?_)
 refine callE hb 3 hq (g_value_Bool_ok hb he true) fun y5 hy5 hq => ?_
 exact retE hb 2 (he1 _ (injO hq))
 refine ifE hb 5 [5, 18, 19] [] hq (fun hq _ => ?_) (fun hq _ => ?_)
 refine callE hb 2 hq (t_funcs_unlike_ok hb he x2 v_) fun y7 hy7 hq => ?_
 exact backE hb 8 [3, 4, 5, 8, 9, 10] [] 2 (hn1 _ (injO hq)) ⟨(by kernel_rfl), (by kernel_rfl), trivial⟩
 exact backE hb 11 [3, 4, 5, 8, 9, 10] [] 2 (hn1 _ (injO hq)) ⟨(by kernel_rfl), (by kernel_rfl), trivial⟩
 refine ifE hb 8 [26] [] hq (fun hq _ => ?_) (fun hq _ => ?_)
 refine callE hb 3 hq (g_value_Unknown_ok hb he ) fun y9 hy9 hq => ?_
 exact retE hb 2 (he1 _ (injO hq))
 refine callE hb 4 hq (g_value_Bool_ok hb he false) fun y10 hy10 hq => ?_
 exact retE hb 2 (he1 _ (injO hq))
noncomputable def g_funcs_distinct (a0 : List Val) : Option (Val) := none
theorem g_funcs_distinct_ok (hb : Base E E0 G) (he : ∀ w, E w → EnvV w) (a0 : List Val) : ∀ r_ : Val, g_funcs_distinct a0 = some r_ → Pure E E0 Tryz.prog 52 [.cell (vL flV a0)] (.one (.agg (aV r_))) := fun _ h => by cases h
noncomputable def g_funcs_flat (a0 : List Val) : Option (List Val × Bool) := none
theorem g_funcs_flat_ok (hb : Base E E0 G) (he : ∀ w, E w → EnvV w) (a0 : List Val) : ∀ r_ : List Val × Bool, g_funcs_flat a0 = some r_ → Pure E E0 Tryz.prog 53 [.cell (vL flV a0)] (.tup [.cell (vL flV r_.1), .cell (vB r_.2)]) := fun _ h => by cases h
noncomputable def g_funcs_list  (l_ : List Val) : Option (Val) :=
  some (Val.mk 4 0 eS l_ [])
theorem g_funcs_list_ok (hb : Base E E0 G) (he : ∀ w, E w → EnvV w)   (l_ : List Val) : ∀ r_ : Val, g_funcs_list l_ = some r_ →
 Pure E E0 Tryz.prog 54 [.cell (vL flV l_)] (.one (.agg (aV r_))) := by
 refine fnE hb Tryz.func54 rfl fun r_ hq => ?_
 exact retE hb 10 (injO hq).symm
noncomputable def g_funcs_found (a0 : List Val) (a1 : Val) : Option (Int × Bool) := none
theorem g_funcs_found_ok (hb : Base E E0 G) (he : ∀ w, E w → EnvV w) (a0 : List Val) (a1 : Val) : ∀ r_ : Int × Bool, g_funcs_found a0 a1 = some r_ → Pure E E0 Tryz.prog 55 [.cell (vL flV a0), .agg (aV a1)] (.tup [.cell (vi r_.1), .cell (vB r_.2)]) := fun _ h => by cases h
noncomputable def g_funcs_search  (name_ : ByteArray) (args_ : List Val) : Option (Val × Int) :=
  (idx args_ 0).bind fun x1 => bif (decide (x1.kind = 6)) then some (x1, 0) else bif (decide (name_ = (⟨#[99, 111, 110, 116, 97, 105, 110, 115]⟩ : ByteArray))) then (idx args_ 1).bind fun x4 => (g_funcs_contains x1.items x4).bind fun y5 => some (y5, 0) else bif (decide (name_ = (⟨#[100, 105, 115, 116, 105, 110, 99, 116]⟩ : ByteArray))) then (g_funcs_distinct x1.items).bind fun y7 => some (y7, 0) else bif (decide (name_ = (⟨#[102, 108, 97, 116, 116, 101, 110]⟩ : ByteArray))) then (g_funcs_flat x1.items).bind fun y9 => bif (!y9.2) then (g_value_Unknown).bind fun y11 => some (y11, 0) else (g_funcs_list y9.1).bind fun y12 => some (y12, 0) else (idx args_ 1).bind fun x13 => (g_funcs_found x1.items x13).bind fun y14 => bif (!y14.2) then (g_value_Unknown).bind fun y16 => some (y16, 0) else bif (decide (y14.1 < 0)) then some ((Val.mk 0 0 eS [] []), 16) else (g_value_Number y14.1).bind fun y18 => some (y18, 0)
theorem g_funcs_search_ok (hb : Base E E0 G) (he : ∀ w, E w → EnvV w)   (name_ : ByteArray) (args_ : List Val) : ∀ r_ : Val × Int, g_funcs_search name_ args_ = some r_ →
 Pure E E0 Tryz.prog 28 [.cell (vS name_), .cell (vL flV args_)] (.tup [.agg (aV r_.1), .cell (vi r_.2)]) := by
 refine fnE hb Tryz.func28 rfl fun r_ hq => ?_
 refine idxE hb flV 8 hq fun x1 hx1 hq => ?_
 refine ifE hb 11 [16] [] hq (fun hq _ => ?_) (fun hq _ => ?_)
 exact retE hb 7 (injO hq).symm
 refine ifE hb 13 [19, 20] [] hq (fun hq _ => ?_) (fun hq _ => ?_)
 refine drawE hb mixed 2 5 [] ?_
 refine idxE hb flV 3 hq fun x4 hx4 hq => ?_
 refine callE hb 2 hq (g_funcs_contains_ok hb he x1.items x4) fun y5 hy5 hq => ?_
 exact retE hb 3 (injO hq).symm
 refine ifE hb 6 [27, 28] [] hq (fun hq _ => ?_) (fun hq _ => ?_)
 refine callE hb 5 hq (g_funcs_distinct_ok hb he x1.items) fun y7 hy7 hq => ?_
 exact retE hb 3 (injO hq).symm
 refine ifE hb 6 [32, 33] [] hq (fun hq _ => ?_) (fun hq _ => ?_)
 refine callE hb 5 hq (g_funcs_flat_ok hb he x1.items) fun y9 hy9 hq => ?_
 refine ifE hb 12 [41] [] hq (fun hq _ => ?_) (fun hq _ => ?_)
 refine callE hb 3 hq (g_value_Unknown_ok hb he ) fun y11 hy11 hq => ?_
 exact retE hb 3 (injO hq).symm
 refine callE hb 5 hq (g_funcs_list_ok hb he y9.1) fun y12 hy12 hq => ?_
 exact retE hb 3 (injO hq).symm
 refine drawE hb mixed 4 9 [8] ?_
 refine idxE hb flV 3 hq fun x13 hx13 hq => ?_
 refine callE hb 1 hq (g_funcs_found_ok hb he x1.items x13) fun y14 hy14 hq => ?_
 refine ifE hb 15 [54, 56] [] hq (fun hq _ => ?_) (fun hq _ => ?_)
 refine callE hb 3 hq (g_value_Unknown_ok hb he ) fun y16 hy16 hq => ?_
 exact retE hb 3 (injO hq).symm
 refine ifE hb 7 [58, 60] [] hq (fun hq _ => ?_) (fun hq _ => ?_)
 exact retE hb 7 (injO hq).symm
 refine callE hb 6 hq (g_value_Number_ok hb he y14.1) fun y18 hy18 hq => ?_
 exact retE hb 3 (injO hq).symm
noncomputable def g_funcs_mapped (a0 : ByteArray) (a1 : List Val) : Option (Val × Int) := none
theorem g_funcs_mapped_ok (hb : Base E E0 G) (he : ∀ w, E w → EnvV w) (a0 : ByteArray) (a1 : List Val) : ∀ r_ : Val × Int, g_funcs_mapped a0 a1 = some r_ → Pure E E0 Tryz.prog 29 [.cell (vS a0), .cell (vL flV a1)] (.tup [.agg (aV r_.1), .cell (vi r_.2)]) := fun _ h => by cases h
noncomputable def g_funcs_general (a0 : ByteArray) (a1 : List Val) : Option (Val × Int) := none
theorem g_funcs_general_ok (hb : Base E E0 G) (he : ∀ w, E w → EnvV w) (a0 : ByteArray) (a1 : List Val) : ∀ r_ : Val × Int, g_funcs_general a0 a1 = some r_ → Pure E E0 Tryz.prog 30 [.cell (vS a0), .cell (vL flV a1)] (.tup [.agg (aV r_.1), .cell (vi r_.2)]) := fun _ h => by cases h
noncomputable def g_slices_Clone (a0 : List Val) : Option (List Val) := none
theorem g_slices_Clone_ok (hb : Base E E0 G) (he : ∀ w, E w → EnvV w) (a0 : List Val) : ∀ r_ : List Val, g_slices_Clone a0 = some r_ → Pure E E0 Tryz.prog 35 [.cell (vL flV a0)] (c1 (vL flV r_)) := fun _ h => by cases h
noncomputable def g_number_Valid  (n_ : Int) : Option (Bool) :=
  bif (decide (n_ ≥ (-9007199254740992))) then some (decide (n_ ≤ 9007199254740992)) else some (false)
theorem g_number_Valid_ok (hb : Base E E0 G) (he : ∀ w, E w → EnvV w)   (n_ : Int) : ∀ r_ : Bool, g_number_Valid n_ = some r_ →
 Pure E E0 Tryz.prog 67 [.cell (vi n_)] (c1 (vB r_)) := by
 refine fnE hb Tryz.func67 rfl fun r_ hq => ?_
 refine ifE hb 9 [4, 5] [] hq (fun hq _ => ?_) (fun hq _ => ?_)
 exact retE hb 5 (injO hq).symm
 exact retE hb 5 (injO hq).symm
noncomputable def g_number_Div  (a_ : Int) (b_ : Int) : Option (Int × Int) :=
  (g_number_Valid a_).bind fun y1 => bif (!y1) then some (0, 1) else (g_number_Valid b_).bind fun y3 => bif (!y3) then some (0, 1) else bif (decide (b_ = 0)) then some (0, 15) else (quo .i64 a_ b_).bind fun x6 => (rem b_ a_).bind fun x7 => bif (!decide (x7 = 0)) then bif (!((decide (a_ < 0)) == (decide (b_ < 0)))) then some ((IntKind.i64.wrap (x6 - 1)), 0) else some (x6, 0) else some (x6, 0)
theorem g_number_Div_ok (hb : Base E E0 G) (he : ∀ w, E w → EnvV w)   (a_ : Int) (b_ : Int) : ∀ r_ : Int × Int, g_number_Div a_ b_ = some r_ →
 Pure E E0 Tryz.prog 122 [.cell (vi a_), .cell (vi b_)] (.tup [.cell (vi r_.1), .cell (vi r_.2)]) := by
 refine fnE hb Tryz.func122 rfl fun r_ hq => ?_
 refine callE hb 9 hq (g_number_Valid_ok hb he a_) fun y1 hy1 hq => ?_
 refine ifE hb 2 [9, 10] [] hq (fun hq _ => ?_) (fun hq _ => ?_)
 exact retE hb 11 (injO hq).symm
 refine callE hb 1 hq (g_number_Valid_ok hb he b_) fun y3 hy3 hq => ?_
 refine ifE hb 3 [13, 14] [] hq (fun hq _ => ?_) (fun hq _ => ?_)
 exact retE hb 6 (injO hq).symm
 refine ifE hb 8 [16] [] hq (fun hq _ => ?_) (fun hq _ => ?_)
 exact retE hb 6 (injO hq).symm
 refine quoE hb 6 hq fun x6 hx6 hq => ?_
 refine remE (kd := .i64) hb 7 hq fun x7 hx7 hq => ?_
 refine ifE hb 2 [23, 24] [] hq (fun hq _ => ?_) (fun hq _ => ?_)
 refine ifE hb 7 [29, 30] [] hq (fun hq _ => ?_) (fun hq _ => ?_)
 exact retE hb 12 (injO hq).symm
 exact retE hb 8 (injO hq).symm
 exact retE hb 15 (injO hq).symm
noncomputable def g_number_Mod  (a_ : Int) (b_ : Int) : Option (Int × Int) :=
  (g_number_Div a_ b_).bind fun y1 => bif (!decide (y1.2 = 0)) then some (0, y1.2) else some ((IntKind.i64.wrap (a_ - (IntKind.i64.wrap (b_ * y1.1)))), 0)
theorem g_number_Mod_ok (hb : Base E E0 G) (he : ∀ w, E w → EnvV w)   (a_ : Int) (b_ : Int) : ∀ r_ : Int × Int, g_number_Mod a_ b_ = some r_ →
 Pure E E0 Tryz.prog 92 [.cell (vi a_), .cell (vi b_)] (.tup [.cell (vi r_.1), .cell (vi r_.2)]) := by
 refine fnE hb Tryz.func92 rfl fun r_ hq => ?_
 refine callE hb 9 hq (g_number_Div_ok hb he a_ b_) fun y1 hy1 hq => ?_
 refine ifE hb 12 [15] [] hq (fun hq _ => ?_) (fun hq _ => ?_)
 exact retE hb 7 (injO hq).symm
 exact retE hb 12 (injO hq).symm
noncomputable def g_funcs_element  (l_ : Val) (n_ : Val) : Option (Val × Int) :=
  bif (decide (l_.kind = 4)) then bif (decide ((l_.items.length : Int) = 0)) then some ((Val.mk 0 0 eS [] []), 16) else bif (decide (l_.kind = 6)) then (g_value_Unknown).bind fun y4 => some (y4, 0) else bif (decide (n_.kind = 6)) then (g_value_Unknown).bind fun y6 => some (y6, 0) else (g_number_Mod n_.num (l_.items.length : Int)).bind fun y7 => bif (!decide (y7.2 = 0)) then some ((Val.mk 0 0 eS [] []), y7.2) else (idx l_.items y7.1).bind fun x9 => some (x9, 0) else bif (decide (l_.kind = 6)) then (g_value_Unknown).bind fun y11 => some (y11, 0) else bif (decide (n_.kind = 6)) then (g_value_Unknown).bind fun y13 => some (y13, 0) else (g_number_Mod n_.num (l_.items.length : Int)).bind fun y14 => bif (!decide (y14.2 = 0)) then some ((Val.mk 0 0 eS [] []), y14.2) else (idx l_.items y14.1).bind fun x16 => some (x16, 0)
theorem g_funcs_element_ok (hb : Base E E0 G) (he : ∀ w, E w → EnvV w)   (l_ : Val) (n_ : Val) : ∀ r_ : Val × Int, g_funcs_element l_ n_ = some r_ →
 Pure E E0 Tryz.prog 61 [.agg (aV l_), .agg (aV n_)] (.tup [.agg (aV r_.1), .cell (vi r_.2)]) := by
 refine fnE hb Tryz.func61 rfl fun r_ hq => ?_
 refine ifE hb 14 [10, 11] [] hq (fun hq _ => ?_) (fun hq _ => ?_)
 refine ifE hb 6 [15, 16] [] hq (fun hq _ => ?_) (fun hq _ => ?_)
 exact retE hb 7 (injO hq).symm
 refine ifE hb 9 [20, 21] [] hq (fun hq _ => ?_) (fun hq _ => ?_)
 refine callE hb 8 hq (g_value_Unknown_ok hb he ) fun y4 hy4 hq => ?_
 exact retE hb 3 (injO hq).symm
 refine ifE hb 5 [24, 25] [] hq (fun hq _ => ?_) (fun hq _ => ?_)
 refine callE hb 3 hq (g_value_Unknown_ok hb he ) fun y6 hy6 hq => ?_
 exact retE hb 3 (injO hq).symm
 refine callE hb 9 hq (g_number_Mod_ok hb he n_.num (l_.items.length : Int)) fun y7 hy7 hq => ?_
 refine ifE hb 12 [37] [] hq (fun hq _ => ?_) (fun hq _ => ?_)
 exact retE hb 8 (injO hq).symm
 refine idxE hb flV 7 hq fun x9 hx9 hq => ?_
 exact retE hb 4 (injO hq).symm
 refine ifE hb 15 [20, 21] [] hq (fun hq _ => ?_) (fun hq _ => ?_)
 refine callE hb 8 hq (g_value_Unknown_ok hb he ) fun y11 hy11 hq => ?_
 exact retE hb 3 (injO hq).symm
 refine ifE hb 5 [24, 25] [] hq (fun hq _ => ?_) (fun hq _ => ?_)
 refine callE hb 3 hq (g_value_Unknown_ok hb he ) fun y13 hy13 hq => ?_
 exact retE hb 3 (injO hq).symm
 refine callE hb 9 hq (g_number_Mod_ok hb he n_.num (l_.items.length : Int)) fun y14 hy14 hq => ?_
 refine ifE hb 12 [37] [] hq (fun hq _ => ?_) (fun hq _ => ?_)
 exact retE hb 8 (injO hq).symm
 refine idxE hb flV 7 hq fun x16 hx16 hq => ?_
 exact retE hb 4 (injO hq).symm
noncomputable def g_funcs_length (a0 : Val) : Option (Val) := none
theorem g_funcs_length_ok (hb : Base E E0 G) (he : ∀ w, E w → EnvV w) (a0 : Val) : ∀ r_ : Val, g_funcs_length a0 = some r_ → Pure E E0 Tryz.prog 62 [.agg (aV a0)] (.one (.agg (aV r_))) := fun _ h => by cases h
noncomputable def g_slices_Reverse (a0 : List Val) : Option (Unit) := none
theorem g_slices_Reverse_ok (hb : Base E E0 G) (he : ∀ w, E w → EnvV w) (a0 : List Val) : ∀ r_ : Unit, g_slices_Reverse a0 = some r_ → Pure E E0 Tryz.prog 63 [.cell (vL flV a0)] (.tup []) := fun _ h => by cases h
noncomputable def g_value_Compare (a0 : Val) (a1 : Val) : Option (Int) := none
theorem g_value_Compare_ok (hb : Base E E0 G) (he : ∀ w, E w → EnvV w) (a0 : Val) (a1 : Val) : ∀ r_ : Int, g_value_Compare a0 a1 = some r_ → Pure E E0 Tryz.prog 65 [.agg (aV a0), .agg (aV a1)] (c1 (vi r_)) := fun _ h => by cases h
noncomputable def g_funcs_listed_L1 (args_ : List Val) (s1 : Int × List Val) : Option ((Int × List Val) ⊕ (Val × Int)) :=
  bif (decide (s1.1 < (args_.length : Int))) then (idx args_ s1.1).bind fun x4 => (app 80 s1.2 x4.items).bind fun l5 => some (.inl ((IntKind.i64.wrap (s1.1 + 1)), l5)) else (g_funcs_list s1.2).bind fun y6 => some (.inr (y6, 0))
noncomputable def g_funcs_listed  (name_ : ByteArray) (args_ : List Val) : Option (Val × Int) :=
  (idx args_ 0).bind fun x1 => bif (decide (name_ = (⟨#[99, 111, 110, 99, 97, 116]⟩ : ByteArray))) then loopO (g_funcs_listed_L1 args_) (0, []) else bif (decide (name_ = (⟨#[101, 108, 101, 109, 101, 110, 116]⟩ : ByteArray))) then (idx args_ 1).bind fun x8 => (g_funcs_element x1 x8).bind fun y9 => some (y9.1, y9.2) else bif (decide (name_ = (⟨#[108, 101, 110, 103, 116, 104]⟩ : ByteArray))) then (g_funcs_length x1).bind fun y11 => some (y11, 0) else bif (decide (name_ = (⟨#[114, 101, 118, 101, 114, 115, 101]⟩ : ByteArray))) then (g_slices_Clone x1.items).bind fun y13 => (g_slices_Reverse y13).bind fun y14 => (g_funcs_list y13).bind fun y15 => some (y15, 0) else bif (decide (name_ = (⟨#[115, 108, 105, 99, 101]⟩ : ByteArray))) then (idx args_ 1).bind fun x17 => (idx args_ 2).bind fun x18 => bif (decide (x17.num < 0)) then some ((Val.mk 0 0 eS [] []), 16) else bif (decide (x18.num < x17.num)) then some ((Val.mk 0 0 eS [] []), 16) else bif (decide (x18.num > (x1.items.length : Int))) then some ((Val.mk 0 0 eS [] []), 16) else (slc x1.items x17.num x18.num).bind fun x22 => (g_funcs_list x22).bind fun y24 => some (y24, 0) else bif (decide (name_ = (⟨#[115, 111, 114, 116]⟩ : ByteArray))) then (g_slices_Clone x1.items).bind fun y26 => none else some ((Val.mk 0 0 eS [] []), 17)
theorem g_funcs_listed_ok (hb : Base E E0 G) (he : ∀ w, E w → EnvV w)   (name_ : ByteArray) (args_ : List Val) : ∀ r_ : Val × Int, g_funcs_listed name_ args_ = some r_ →
 Pure E E0 Tryz.prog 31 [.cell (vS name_), .cell (vL flV args_)] (.tup [.agg (aV r_.1), .cell (vi r_.2)]) := by
 refine fnE hb Tryz.func31 rfl fun r_ hq => ?_
 refine idxE hb flV 8 hq fun x1 hx1 hq => ?_
 refine ifE hb 15 [18, 19] [] hq (fun hq _ => ?_) (fun hq _ => ?_)
 refine ownTE hb 13 7 5 ?_
 refine loopE hb 0 (g_funcs_listed_L1 args_) (fun s1 => sl 96 [(4, pt 0), (7, c1 (vO flV 2 s1.2)), (20, c1 (vL flV args_)), (21, c1 (vi (args_.length : Int))), (22, c1 (vi s1.1))]) (fun s1 => [bx zV, none, some (arO true flV.sz 0 (flV.f s1.2))]) [4, 7, 20, 21, 22] [1] 3 (s0 := (0, [])) ⟨(by kernel_rfl), rfl, (under_arO _ _ _ _ _), trivial⟩ hq (fun s1 x1 hq hn1 he1 => ?_)
 refine ifE hb 5 [23] [] hq (fun hq _ => ?_) (fun hq _ => ?_)
 refine idxE hb flV 6 hq fun x4 hx4 hq => ?_
 refine appOwnE flV hb 8 2 true 0 rfl hq fun l5 hl5 hq => ?_
 exact backE hb 7 [4, 7, 20, 21, 22] [] 3 (hn1 _ (injO hq)) ⟨(by kernel_rfl), rfl, (under_arO _ _ _ _ _), trivial⟩
 refine markE hb 3 2 true (sz := flV.sz) (fr := 0) (cs := flV.f s1.2) (by kernel_rfl) (Nat.zero_le _) ?_
 refine callME hb 2 (vs := [.cell (vO flV 2 s1.2)]) hq (frz_cons (frz_cell (frz_own flV (b := true) (id := 2) (fr := (flV.f s1.2).length) (xs := s1.2) (by kernel_rfl))) rfl) (mark_cons (mark_cell (mark_own flV (nb := true) (id := 2) (xs := s1.2) (by kernel_rfl))) rfl) (g_funcs_list_ok hb he s1.2) fun y6 hy6 hq => ?_
 exact retE hb 3 (he1 _ (injO hq))
 refine ifE hb 6 [33, 34] [] hq (fun hq _ => ?_) (fun hq _ => ?_)
 refine drawE hb mixed 2 6 [5] ?_
 refine idxE hb flV 2 hq fun x8 hx8 hq => ?_
 refine callE hb 1 hq (g_funcs_element_ok hb he x1 x8) fun y9 hy9 hq => ?_
 exact retE hb 6 (injO hq).symm
 refine ifE hb 6 [42, 43] [] hq (fun hq _ => ?_) (fun hq _ => ?_)
 refine callE hb 4 hq (g_funcs_length_ok hb he x1) fun y11 hy11 hq => ?_
 exact retE hb 3 (injO hq).symm
 refine ifE hb 6 [46, 47] [] hq (fun hq _ => ?_) (fun hq _ => ?_)
 refine callE hb 5 hq (g_slices_Clone_ok hb he x1.items) fun y13 hy13 hq => ?_
 refine callE hb 5 hq (g_slices_Reverse_ok hb he y13) fun y14 hy14 hq => ?_
 refine callE hb 4 hq (g_funcs_list_ok hb he y13) fun y15 hy15 hq => ?_
 exact retE hb 3 (injO hq).symm
 refine ifE hb 6 [55, 56] [] hq (fun hq _ => ?_) (fun hq _ => ?_)
 refine drawE hb mixed 2 9 [] ?_
 refine idxE hb flV 1 hq fun x17 hx17 hq => ?_
 refine idxE hb flV 3 hq fun x18 hx18 hq => ?_
 refine ifE hb 12 [66, 67] [] hq (fun hq _ => ?_) (fun hq _ => ?_)
 exact retE hb 19 (injO hq).symm
 refine ifE hb 5 [70, 71, 72] [] hq (fun hq _ => ?_) (fun hq _ => ?_)
 exact retE hb 14 (injO hq).symm
 refine ifE hb 7 [77, 78] [] hq (fun hq _ => ?_) (fun hq _ => ?_)
 exact retE hb 7 (injO hq).symm
 refine slcE hb flV 8 hq fun x22 hx22 hq fb23 => ?_
 refine callE hb 0 hq (g_funcs_list_ok hb he x22) fun y24 hy24 hq => ?_
 exact retE hb 3 (injO hq).symm
 refine ifE hb 6 [86, 87] [] hq (fun hq _ => ?_) (fun hq _ => ?_)
 refine callE hb 5 hq (g_slices_Clone_ok hb he x1.items) fun y26 hy26 hq => ?_
 cases hq
 exact retE hb 9 (injO hq).symm
noncomputable def g_funcs_apply  (name_ : ByteArray) (args_ : List Val) : Option (Val × Int) :=
  bif (decide (name_ = (⟨#[97, 98, 115]⟩ : ByteArray))) then (g_funcs_numeric name_ args_).bind fun y2 => some (y2.1, y2.2) else bif (decide (name_ = (⟨#[109, 97, 120]⟩ : ByteArray))) then (g_funcs_numeric name_ args_).bind fun y4 => some (y4.1, y4.2) else bif (decide (name_ = (⟨#[109, 105, 110]⟩ : ByteArray))) then (g_funcs_numeric name_ args_).bind fun y6 => some (y6.1, y6.2) else bif (decide (name_ = (⟨#[114, 97, 110, 103, 101]⟩ : ByteArray))) then (g_funcs_numeric name_ args_).bind fun y8 => some (y8.1, y8.2) else bif (decide (name_ = (⟨#[115, 117, 109]⟩ : ByteArray))) then (g_funcs_numeric name_ args_).bind fun y10 => some (y10.1, y10.2) else bif (decide (name_ = (⟨#[101, 110, 100, 115, 119, 105, 116, 104]⟩ : ByteArray))) then (g_funcs_textual name_ args_).bind fun y12 => some (y12.1, y12.2) else bif (decide (name_ = (⟨#[106, 111, 105, 110]⟩ : ByteArray))) then (g_funcs_textual name_ args_).bind fun y14 => some (y14.1, y14.2) else bif (decide (name_ = (⟨#[108, 111, 119, 101, 114]⟩ : ByteArray))) then (g_funcs_textual name_ args_).bind fun y16 => some (y16.1, y16.2) else bif (decide (name_ = (⟨#[114, 101, 112, 108, 97, 99, 101]⟩ : ByteArray))) then (g_funcs_textual name_ args_).bind fun y18 => some (y18.1, y18.2) else bif (decide (name_ = (⟨#[115, 112, 108, 105, 116]⟩ : ByteArray))) then (g_funcs_textual name_ args_).bind fun y20 => some (y20.1, y20.2) else bif (decide (name_ = (⟨#[115, 116, 97, 114, 116, 115, 119, 105, 116, 104]⟩ : ByteArray))) then (g_funcs_textual name_ args_).bind fun y22 => some (y22.1, y22.2) else bif (decide (name_ = (⟨#[116, 114, 105, 109]⟩ : ByteArray))) then (g_funcs_textual name_ args_).bind fun y24 => some (y24.1, y24.2) else bif (decide (name_ = (⟨#[117, 112, 112, 101, 114]⟩ : ByteArray))) then (g_funcs_textual name_ args_).bind fun y26 => some (y26.1, y26.2) else bif (decide (name_ = (⟨#[99, 111, 110, 116, 97, 105, 110, 115]⟩ : ByteArray))) then (g_funcs_search name_ args_).bind fun y28 => some (y28.1, y28.2) else bif (decide (name_ = (⟨#[100, 105, 115, 116, 105, 110, 99, 116]⟩ : ByteArray))) then (g_funcs_search name_ args_).bind fun y30 => some (y30.1, y30.2) else bif (decide (name_ = (⟨#[102, 108, 97, 116, 116, 101, 110]⟩ : ByteArray))) then (g_funcs_search name_ args_).bind fun y32 => some (y32.1, y32.2) else bif (decide (name_ = (⟨#[105, 110, 100, 101, 120]⟩ : ByteArray))) then (g_funcs_search name_ args_).bind fun y34 => some (y34.1, y34.2) else bif (decide (name_ = (⟨#[107, 101, 121, 115]⟩ : ByteArray))) then (g_funcs_mapped name_ args_).bind fun y36 => some (y36.1, y36.2) else bif (decide (name_ = (⟨#[108, 111, 111, 107, 117, 112]⟩ : ByteArray))) then (g_funcs_mapped name_ args_).bind fun y38 => some (y38.1, y38.2) else bif (decide (name_ = (⟨#[109, 101, 114, 103, 101]⟩ : ByteArray))) then (g_funcs_mapped name_ args_).bind fun y40 => some (y40.1, y40.2) else bif (decide (name_ = (⟨#[118, 97, 108, 117, 101, 115]⟩ : ByteArray))) then (g_funcs_mapped name_ args_).bind fun y42 => some (y42.1, y42.2) else bif (decide (name_ = (⟨#[122, 105, 112, 109, 97, 112]⟩ : ByteArray))) then (g_funcs_mapped name_ args_).bind fun y44 => some (y44.1, y44.2) else bif (decide (name_ = (⟨#[99, 111, 97, 108, 101, 115, 99, 101]⟩ : ByteArray))) then (g_funcs_general name_ args_).bind fun y46 => some (y46.1, y46.2) else bif (decide (name_ = (⟨#[116, 111, 98, 111, 111, 108]⟩ : ByteArray))) then (g_funcs_general name_ args_).bind fun y48 => some (y48.1, y48.2) else bif (decide (name_ = (⟨#[116, 111, 110, 117, 109, 98, 101, 114]⟩ : ByteArray))) then (g_funcs_general name_ args_).bind fun y50 => some (y50.1, y50.2) else bif (decide (name_ = (⟨#[116, 111, 115, 116, 114, 105, 110, 103]⟩ : ByteArray))) then (g_funcs_general name_ args_).bind fun y52 => some (y52.1, y52.2) else (g_funcs_listed name_ args_).bind fun y53 => some (y53.1, y53.2)
theorem g_funcs_apply_ok (hb : Base E E0 G) (he : ∀ w, E w → EnvV w)   (name_ : ByteArray) (args_ : List Val) : ∀ r_ : Val × Int, g_funcs_apply name_ args_ = some r_ →
 Pure E E0 Tryz.prog 20 [.cell (vS name_), .cell (vL flV args_)] (.tup [.agg (aV r_.1), .cell (vi r_.2)]) := by
 refine fnE hb Tryz.func20 rfl fun r_ hq => ?_
 refine ifE hb 17 [7, 8] [] hq (fun hq _ => ?_) (fun hq _ => ?_)
 refine callE hb 7 hq (g_funcs_numeric_ok hb he name_ args_) fun y2 hy2 hq => ?_
 exact retE hb 5 (injO hq).symm
 refine ifE hb 6 [7, 9] [] hq (fun hq _ => ?_) (fun hq _ => ?_)
 refine callE hb 7 hq (g_funcs_numeric_ok hb he name_ args_) fun y4 hy4 hq => ?_
 exact retE hb 5 (injO hq).symm
 refine ifE hb 6 [7, 10] [] hq (fun hq _ => ?_) (fun hq _ => ?_)
 refine callE hb 7 hq (g_funcs_numeric_ok hb he name_ args_) fun y6 hy6 hq => ?_
 exact retE hb 5 (injO hq).symm
 refine ifE hb 6 [7, 11] [] hq (fun hq _ => ?_) (fun hq _ => ?_)
 refine callE hb 7 hq (g_funcs_numeric_ok hb he name_ args_) fun y8 hy8 hq => ?_
 exact retE hb 5 (injO hq).symm
 refine ifE hb 5 [7, 12] [] hq (fun hq _ => ?_) (fun hq _ => ?_)
 refine callE hb 5 hq (g_funcs_numeric_ok hb he name_ args_) fun y10 hy10 hq => ?_
 exact retE hb 5 (injO hq).symm
 refine ifE hb 7 [18, 19] [] hq (fun hq _ => ?_) (fun hq _ => ?_)
 refine callE hb 7 hq (g_funcs_textual_ok hb he name_ args_) fun y12 hy12 hq => ?_
 exact retE hb 5 (injO hq).symm
 refine ifE hb 6 [18, 20] [] hq (fun hq _ => ?_) (fun hq _ => ?_)
 refine callE hb 7 hq (g_funcs_textual_ok hb he name_ args_) fun y14 hy14 hq => ?_
 exact retE hb 5 (injO hq).symm
 refine ifE hb 6 [18, 21] [] hq (fun hq _ => ?_) (fun hq _ => ?_)
 refine callE hb 7 hq (g_funcs_textual_ok hb he name_ args_) fun y16 hy16 hq => ?_
 exact retE hb 5 (injO hq).symm
 refine ifE hb 6 [18, 22] [] hq (fun hq _ => ?_) (fun hq _ => ?_)
 refine callE hb 7 hq (g_funcs_textual_ok hb he name_ args_) fun y18 hy18 hq => ?_
 exact retE hb 5 (injO hq).symm
 refine ifE hb 6 [18, 23] [] hq (fun hq _ => ?_) (fun hq _ => ?_)
 refine callE hb 7 hq (g_funcs_textual_ok hb he name_ args_) fun y20 hy20 hq => ?_
 exact retE hb 5 (injO hq).symm
 refine ifE hb 6 [18, 24] [] hq (fun hq _ => ?_) (fun hq _ => ?_)
 refine callE hb 7 hq (g_funcs_textual_ok hb he name_ args_) fun y22 hy22 hq => ?_
 exact retE hb 5 (injO hq).symm
 refine ifE hb 6 [18, 25] [] hq (fun hq _ => ?_) (fun hq _ => ?_)
 refine callE hb 7 hq (g_funcs_textual_ok hb he name_ args_) fun y24 hy24 hq => ?_
 exact retE hb 5 (injO hq).symm
 refine ifE hb 5 [18, 26] [] hq (fun hq _ => ?_) (fun hq _ => ?_)
 refine callE hb 5 hq (g_funcs_textual_ok hb he name_ args_) fun y26 hy26 hq => ?_
 exact retE hb 5 (injO hq).symm
 refine ifE hb 7 [32, 33] [] hq (fun hq _ => ?_) (fun hq _ => ?_)
 refine callE hb 7 hq (g_funcs_search_ok hb he name_ args_) fun y28 hy28 hq => ?_
 exact retE hb 5 (injO hq).symm
 refine ifE hb 6 [32, 34] [] hq (fun hq _ => ?_) (fun hq _ => ?_)
 refine callE hb 7 hq (g_funcs_search_ok hb he name_ args_) fun y30 hy30 hq => ?_
 exact retE hb 5 (injO hq).symm
 refine ifE hb 6 [32, 35] [] hq (fun hq _ => ?_) (fun hq _ => ?_)
 refine callE hb 7 hq (g_funcs_search_ok hb he name_ args_) fun y32 hy32 hq => ?_
 exact retE hb 5 (injO hq).symm
 refine ifE hb 5 [32, 36] [] hq (fun hq _ => ?_) (fun hq _ => ?_)
 refine callE hb 5 hq (g_funcs_search_ok hb he name_ args_) fun y34 hy34 hq => ?_
 exact retE hb 5 (injO hq).symm
 refine ifE hb 7 [42, 43] [] hq (fun hq _ => ?_) (fun hq _ => ?_)
 refine callE hb 7 hq (g_funcs_mapped_ok hb he name_ args_) fun y36 hy36 hq => ?_
 exact retE hb 5 (injO hq).symm
 refine ifE hb 6 [42, 44] [] hq (fun hq _ => ?_) (fun hq _ => ?_)
 refine callE hb 7 hq (g_funcs_mapped_ok hb he name_ args_) fun y38 hy38 hq => ?_
 exact retE hb 5 (injO hq).symm
 refine ifE hb 6 [42, 45] [] hq (fun hq _ => ?_) (fun hq _ => ?_)
 refine callE hb 7 hq (g_funcs_mapped_ok hb he name_ args_) fun y40 hy40 hq => ?_
 exact retE hb 5 (injO hq).symm
 refine ifE hb 6 [42, 46] [] hq (fun hq _ => ?_) (fun hq _ => ?_)
 refine callE hb 7 hq (g_funcs_mapped_ok hb he name_ args_) fun y42 hy42 hq => ?_
 exact retE hb 5 (injO hq).symm
 refine ifE hb 5 [42, 47] [] hq (fun hq _ => ?_) (fun hq _ => ?_)
 refine callE hb 5 hq (g_funcs_mapped_ok hb he name_ args_) fun y44 hy44 hq => ?_
 exact retE hb 5 (injO hq).symm
 refine ifE hb 7 [53, 54] [] hq (fun hq _ => ?_) (fun hq _ => ?_)
 refine callE hb 7 hq (g_funcs_general_ok hb he name_ args_) fun y46 hy46 hq => ?_
 exact retE hb 5 (injO hq).symm
 refine ifE hb 6 [53, 55] [] hq (fun hq _ => ?_) (fun hq _ => ?_)
 refine callE hb 7 hq (g_funcs_general_ok hb he name_ args_) fun y48 hy48 hq => ?_
 exact retE hb 5 (injO hq).symm
 refine ifE hb 6 [53, 56] [] hq (fun hq _ => ?_) (fun hq _ => ?_)
 refine cpE hb 2 [0, 1, 4, 53] (s' := ⟨none, [pk Tryz.f20 13823], [(0, [pk Tryz.f20 7])], sl 68 [(0, c1 (vS name_)), (1, c1 (vL flV args_)), (4, pt 0), (53, c1 (vB true))], [bx zV]⟩) ?_
 refine callE hb 5 hq (g_funcs_general_ok hb he name_ args_) fun y50 hy50 hq => ?_
 exact retE hb 5 (injO hq).symm
 refine cpE hb 1 [0, 1, 4, 6] (s' := ⟨none, [pk Tryz.f20 884671, pk Tryz.f20 13823], [(0, [pk Tryz.f20 7])], sl 68 [(0, c1 (vS name_)), (1, c1 (vL flV args_)), (4, pt 0), (6, c1 (vS name_))], [bx zV]⟩) ?_
 refine ifE hb 4 [53, 57] [] hq (fun hq _ => ?_) (fun hq _ => ?_)
 refine callE hb 5 hq (g_funcs_general_ok hb he name_ args_) fun y52 hy52 hq => ?_
 exact retE hb 5 (injO hq).symm
 refine callE hb 7 hq (g_funcs_listed_ok hb he name_ args_) fun y53 hy53 hq => ?_
 exact retE hb 5 (injO hq).symm
noncomputable def g_funcs_Call_L1 (name_ : ByteArray) (args_ : List Val) (y1 : SpecG × Bool) (s1 : Int) : Option ((Int) ⊕ (Val × Int)) :=
  bif (decide (s1 < (args_.length : Int))) then (idx args_ s1).bind fun x6 => (g_funcs_spec__letter y1.1 s1).bind fun y7 => (g_funcs_fits x6 y7).bind fun y8 => bif (!y8) then some (.inr ((Val.mk 0 0 eS [] []), 6)) else some (.inl (IntKind.i64.wrap (s1 + 1))) else bif y1.1.strict then (g_funcs_spec__open y1.1 args_).bind fun y11 => bif y11 then (g_value_Unknown).bind fun y13 => some (.inr (y13, 0)) else (g_funcs_apply name_ args_).bind fun y14 => bif (decide (y14.2 = 0)) then (m_checkE y14.1).bind fun y16 => bif (!decide (y16 = 0)) then some (.inr ((Val.mk 0 0 eS [] []), y16)) else (cpy y14.1).bind fun y18 => some (.inr (y18, 0)) else some (.inr ((Val.mk 0 0 eS [] []), y14.2)) else (g_funcs_apply name_ args_).bind fun y19 => bif (decide (y19.2 = 0)) then (m_checkE y19.1).bind fun y21 => bif (!decide (y21 = 0)) then some (.inr ((Val.mk 0 0 eS [] []), y21)) else (cpy y19.1).bind fun y23 => some (.inr (y23, 0)) else some (.inr ((Val.mk 0 0 eS [] []), y19.2))
noncomputable def g_funcs_Call  (name_ : ByteArray) (args_ : List Val) : Option (Val × Int) :=
  (g_funcs_find name_).bind fun y1 => bif (!y1.2) then some ((Val.mk 0 0 eS [] []), 17) else bif (decide ((args_.length : Int) < y1.1.least)) then some ((Val.mk 0 0 eS [] []), 18) else bif (decide ((args_.length : Int) > y1.1.most)) then some ((Val.mk 0 0 eS [] []), 18) else loopO (g_funcs_Call_L1 name_ args_ y1) 0
theorem g_funcs_Call_ok (hb : Base E E0 G) (he : ∀ w, E w → EnvV w)   (name_ : ByteArray) (args_ : List Val) : ∀ r_ : Val × Int, g_funcs_Call name_ args_ = some r_ →
 Pure E E0 Tryz.prog 11 [.cell (vS name_), .cell (vL flV args_)] (.tup [.agg (aV r_.1), .cell (vi r_.2)]) := by
 refine fnE hb Tryz.func11 rfl fun r_ hq => ?_
 refine callE hb 8 hq (g_funcs_find_ok hb he name_) fun y1 hy1 hq => ?_
 refine ifE hb 13 [18] [] hq (fun hq _ => ?_) (fun hq _ => ?_)
 exact retE hb 7 (injO hq).symm
 refine ifE hb 11 [24, 25] [] hq (fun hq _ => ?_) (fun hq _ => ?_)
 exact retE hb 14 (injO hq).symm
 refine ifE hb 7 [30, 31] [] hq (fun hq _ => ?_) (fun hq _ => ?_)
 exact retE hb 7 (injO hq).symm
 refine cpE hb 10 [0, 1, 4, 6, 33, 34, 35] (s' := ⟨none, [pk Tryz.f11 250], [(0, [pk Tryz.f11 63])], sl 72 [(0, c1 (vS name_)), (1, c1 (vL flV args_)), (4, pt 0), (6, pt 1), (33, c1 (vL flV args_)), (34, c1 (vi (args_.length : Int))), (35, c1 (vi 0))], [bx zV, bx [vS y1.1.kinds, vi y1.1.least, vi y1.1.most, vB y1.1.strict]]⟩) ?_
 refine loopE hb 0 (g_funcs_Call_L1 name_ args_ y1) (fun s1 => sl 72 [(0, c1 (vS name_)), (1, c1 (vL flV args_)), (4, pt 0), (6, pt 1), (33, c1 (vL flV args_)), (34, c1 (vi (args_.length : Int))), (35, c1 (vi s1))]) (fun s1 => [bx zV, bx [vS y1.1.kinds, vi y1.1.least, vi y1.1.most, vB y1.1.strict]]) [0, 1, 4, 6, 33, 34, 35] [] 2 (s0 := 0) ⟨(by kernel_rfl), (by kernel_rfl), trivial⟩ hq (fun s1 x1 hq hn1 he1 => ?_)
 refine ifE hb 5 [36] [] hq (fun hq _ => ?_) (fun hq _ => ?_)
 refine idxE hb flV 7 hq fun x6 hx6 hq => ?_
 refine drawE hb mixed 6 4 [] ?_
 refine callE hb 3 hq (g_funcs_spec__letter_ok hb he y1.1 s1) fun y7 hy7 hq => ?_
 refine callE hb 1 hq (g_funcs_fits_ok hb he x6 y7) fun y8 hy8 hq => ?_
 refine ifE hb 2 [45] [] hq (fun hq _ => ?_) (fun hq _ => ?_)
 exact retE hb 7 (he1 _ (injO hq))
 exact backE hb 7 [0, 1, 4, 6, 33, 34, 35] [] 2 (hn1 _ (injO hq)) ⟨(by kernel_rfl), (by kernel_rfl), trivial⟩
 refine ifE hb 8 [49, 50] [] hq (fun hq _ => ?_) (fun hq _ => ?_)
 refine callE hb 2 hq (g_funcs_spec__open_ok hb he y1.1 args_) fun y11 hy11 hq => ?_
 refine ifE hb 2 [53, 54] [] hq (fun hq _ => ?_) (fun hq _ => ?_)
 refine callE hb 3 hq (g_value_Unknown_ok hb he ) fun y13 hy13 hq => ?_
 exact retE hb 3 (he1 _ (injO hq))
 refine callE hb 6 hq (g_funcs_apply_ok hb he name_ args_) fun y14 hy14 hq => ?_
 refine ifE hb 13 [63] [] hq (fun hq _ => ?_) (fun hq hc15 => ?_)
 refine callE hb 3 hq (pCheck_g hb he y14.1) fun y16 hy16 hq => ?_
 refine ifE hb 8 [67] [] hq (fun hq _ => ?_) (fun hq _ => ?_)
 exact retE hb 8 (he1 _ (injO hq))
 refine callE hb 5 hq (copied_funcs_g hb he y14.1) fun y18 hy18 hq => ?_
 exact retE hb 3 (he1 _ (injO hq))
 refine knE hb 8 [67] [] (b := (!decide (y14.2 = 0))) (v := true) (congrArg (fun z => !z) hc15) ?_
 exact retE hb 8 (he1 _ (injO hq))
 refine callE hb 11 hq (g_funcs_apply_ok hb he name_ args_) fun y19 hy19 hq => ?_
 refine ifE hb 13 [63] [] hq (fun hq _ => ?_) (fun hq hc20 => ?_)
 refine callE hb 3 hq (pCheck_g hb he y19.1) fun y21 hy21 hq => ?_
 refine ifE hb 8 [67] [] hq (fun hq _ => ?_) (fun hq _ => ?_)
 exact retE hb 8 (he1 _ (injO hq))
 refine callE hb 5 hq (copied_funcs_g hb he y19.1) fun y23 hy23 hq => ?_
 exact retE hb 3 (he1 _ (injO hq))
 refine knE hb 8 [67] [] (b := (!decide (y19.2 = 0))) (v := true) (congrArg (fun z => !z) hc20) ?_
 exact retE hb 8 (he1 _ (injO hq))
noncomputable def g_l18_list  (l_ : List Val) : Option (Val) :=
  some (Val.mk 4 0 eS l_ [])
theorem g_l18_list_ok (hb : Base E E0 G) (he : ∀ w, E w → EnvV w)   (l_ : List Val) : ∀ r_ : Val, g_l18_list l_ = some r_ →
 Pure E E0 Tryz.prog 12 [.cell (vL flV l_)] (.one (.agg (aV r_))) := by
 refine fnE hb Tryz.func12 rfl fun r_ hq => ?_
 exact retE hb 10 (injO hq).symm
noncomputable def g_l18_unknown   : Option (Val) :=
  some (Val.mk 6 0 eS [] [])
theorem g_l18_unknown_ok (hb : Base E E0 G) (he : ∀ w, E w → EnvV w)    : ∀ r_ : Val, g_l18_unknown = some r_ →
 Pure E E0 Tryz.prog 13 [] (.one (.agg (aV r_))) := by
 refine fnE hb Tryz.func13 rfl fun r_ hq => ?_
 exact retE hb 9 (injO hq).symm
noncomputable def g_l18_number  (n_ : Int) : Option (Val) :=
  some (Val.mk 2 n_ eS [] [])
theorem g_l18_number_ok (hb : Base E E0 G) (he : ∀ w, E w → EnvV w)   (n_ : Int) : ∀ r_ : Val, g_l18_number n_ = some r_ →
 Pure E E0 Tryz.prog 14 [.cell (vi n_)] (.one (.agg (aV r_))) := by
 refine fnE hb Tryz.func14 rfl fun r_ hq => ?_
 exact retE hb 10 (injO hq).symm
noncomputable def g_l18_awake   : Option (Bool) :=
  (g_l18_unknown).bind fun y1 => (g_l18_number 1).bind fun y2 => (g_l18_list [y1, y2]).bind fun y3 => (g_l18_number 1).bind fun y4 => (g_funcs_Call (⟨#[99, 111, 110, 116, 97, 105, 110, 115]⟩ : ByteArray) [y3, y4]).bind fun y5 => (g_l18_unknown).bind fun y6 => (g_l18_number 1).bind fun y7 => (g_l18_list [y6, y7]).bind fun y8 => (g_l18_number 2).bind fun y9 => (g_funcs_Call (⟨#[99, 111, 110, 116, 97, 105, 110, 115]⟩ : ByteArray) [y8, y9]).bind fun y10 => (g_l18_number 1).bind fun y11 => (g_l18_number 2).bind fun y12 => (g_l18_number 3).bind fun y13 => (g_l18_list [y11, y12, y13]).bind fun y14 => (g_l18_number (-1)).bind fun y15 => (g_funcs_Call (⟨#[101, 108, 101, 109, 101, 110, 116]⟩ : ByteArray) [y14, y15]).bind fun y16 => (g_funcs_Call (⟨#[97, 98, 115]⟩ : ByteArray) [(Val.mk 0 0 eS [] [])]).bind fun y17 => (g_funcs_Call (⟨#[110, 111, 112, 101]⟩ : ByteArray) []).bind fun y18 => (g_funcs_Arity (⟨#[108, 111, 111, 107, 117, 112]⟩ : ByteArray)).bind fun y19 => (g_funcs_Names).bind fun y20 => bif (decide (y5.2 = 0)) then bif (decide (y5.1.kind = 1)) then bif (decide (y5.1.num = 1)) then bif (decide (y10.2 = 0)) then bif (decide (y10.1.kind = 6)) then bif (decide (y16.2 = 0)) then bif (decide (y16.1.num = 3)) then bif (decide (y17.2 = 6)) then bif (decide (y18.2 = 17)) then bif (decide (y19.1 = 2)) then bif (decide (y19.2.1 = 3)) then bif y19.2.2 then bif (decide ((y20.length : Int) = 32)) then (idx y20 0).bind fun x34 => some (decide (x34 = (⟨#[97, 98, 115]⟩ : ByteArray))) else some (false) else some (false) else some (false) else some (false) else some (false) else some (false) else some (false) else some (false) else some (false) else some (false) else some (false) else some (false) else some (false)
theorem g_l18_awake_ok (hb : Base E E0 G) (he : ∀ w, E w → EnvV w)    : ∀ r_ : Bool, g_l18_awake = some r_ →
 Pure E E0 Tryz.prog 8 [] (c1 (vB r_)) := by
 refine fnE hb Tryz.func8 rfl fun r_ hq => ?_
 refine callE hb 6 hq (g_l18_unknown_ok hb he ) fun y1 hy1 hq => ?_
 refine callE hb 0 hq (g_l18_number_ok hb he 1) fun y2 hy2 hq => ?_
 have hp := (g_l18_list_ok hb he [y1, y2])
 simp only [aV, aT, kind_mk, num_mk, str_mk, items_mk, keys_mk, Ty.kind_mk, Ty.elems_mk, Ty.names_mk, vL_one, vL_two, vL_three, vL_four, vL_five, vL_six] at hp
 refine callE hb 1 hq hp fun y3 hy3 hq => ?_
 refine callE hb 0 hq (g_l18_number_ok hb he 1) fun y4 hy4 hq => ?_
 have hp := (g_funcs_Call_ok hb he (⟨#[99, 111, 110, 116, 97, 105, 110, 115]⟩ : ByteArray) [y3, y4])
 simp only [aV, aT, kind_mk, num_mk, str_mk, items_mk, keys_mk, Ty.kind_mk, Ty.elems_mk, Ty.names_mk, vL_one, vL_two, vL_three, vL_four, vL_five, vL_six] at hp
 refine callE hb 1 hq hp fun y5 hy5 hq => ?_
 refine callE hb 9 hq (g_l18_unknown_ok hb he ) fun y6 hy6 hq => ?_
 refine callE hb 0 hq (g_l18_number_ok hb he 1) fun y7 hy7 hq => ?_
 have hp := (g_l18_list_ok hb he [y6, y7])
 simp only [aV, aT, kind_mk, num_mk, str_mk, items_mk, keys_mk, Ty.kind_mk, Ty.elems_mk, Ty.names_mk, vL_one, vL_two, vL_three, vL_four, vL_five, vL_six] at hp
 refine callE hb 1 hq hp fun y8 hy8 hq => ?_
 refine callE hb 0 hq (g_l18_number_ok hb he 2) fun y9 hy9 hq => ?_
 have hp := (g_funcs_Call_ok hb he (⟨#[99, 111, 110, 116, 97, 105, 110, 115]⟩ : ByteArray) [y8, y9])
 simp only [aV, aT, kind_mk, num_mk, str_mk, items_mk, keys_mk, Ty.kind_mk, Ty.elems_mk, Ty.names_mk, vL_one, vL_two, vL_three, vL_four, vL_five, vL_six] at hp
 refine callE hb 1 hq hp fun y10 hy10 hq => ?_
 refine callE hb 9 hq (g_l18_number_ok hb he 1) fun y11 hy11 hq => ?_
 refine callE hb 0 hq (g_l18_number_ok hb he 2) fun y12 hy12 hq => ?_
 refine callE hb 0 hq (g_l18_number_ok hb he 3) fun y13 hy13 hq => ?_
 have hp := (g_l18_list_ok hb he [y11, y12, y13])
 simp only [aV, aT, kind_mk, num_mk, str_mk, items_mk, keys_mk, Ty.kind_mk, Ty.elems_mk, Ty.names_mk, vL_one, vL_two, vL_three, vL_four, vL_five, vL_six] at hp
 refine callE hb 1 hq hp fun y14 hy14 hq => ?_
 refine callE hb 0 hq (g_l18_number_ok hb he (-1)) fun y15 hy15 hq => ?_
 have hp := (g_funcs_Call_ok hb he (⟨#[101, 108, 101, 109, 101, 110, 116]⟩ : ByteArray) [y14, y15])
 simp only [aV, aT, kind_mk, num_mk, str_mk, items_mk, keys_mk, Ty.kind_mk, Ty.elems_mk, Ty.names_mk, vL_one, vL_two, vL_three, vL_four, vL_five, vL_six] at hp
 refine callE hb 1 hq hp fun y16 hy16 hq => ?_
 have hp := (g_funcs_Call_ok hb he (⟨#[97, 98, 115]⟩ : ByteArray) [(Val.mk 0 0 eS [] [])])
 simp only [aV, aT, kind_mk, num_mk, str_mk, items_mk, keys_mk, Ty.kind_mk, Ty.elems_mk, Ty.names_mk, vL_one, vL_two, vL_three, vL_four, vL_five, vL_six] at hp
 refine callE hb 11 hq hp fun y17 hy17 hq => ?_
 refine callE hb 9 hq (g_funcs_Call_ok hb he (⟨#[110, 111, 112, 101]⟩ : ByteArray) []) fun y18 hy18 hq => ?_
 refine callE hb 9 hq (g_funcs_Arity_ok hb he (⟨#[108, 111, 111, 107, 117, 112]⟩ : ByteArray)) fun y19 hy19 hq => ?_
 refine callE hb 10 hq (g_funcs_Names_ok hb he ) fun y20 hy20 hq => ?_
 refine ifE hb 7 [63, 64] [] hq (fun hq _ => ?_) (fun hq _ => ?_)
 refine ifE hb 5 [67, 68, 69] [] hq (fun hq _ => ?_) (fun hq _ => ?_)
 refine ifE hb 5 [72, 73, 74] [] hq (fun hq _ => ?_) (fun hq _ => ?_)
 refine ifE hb 4 [76, 77, 78] [] hq (fun hq _ => ?_) (fun hq _ => ?_)
 refine ifE hb 5 [81, 82, 83] [] hq (fun hq _ => ?_) (fun hq _ => ?_)
 refine ifE hb 4 [85, 86, 87] [] hq (fun hq _ => ?_) (fun hq _ => ?_)
 refine ifE hb 5 [90, 91, 92] [] hq (fun hq _ => ?_) (fun hq _ => ?_)
 refine ifE hb 4 [94, 95, 96] [] hq (fun hq _ => ?_) (fun hq _ => ?_)
 refine ifE hb 4 [98, 99, 100] [] hq (fun hq _ => ?_) (fun hq _ => ?_)
 refine ifE hb 4 [102, 103, 104] [] hq (fun hq _ => ?_) (fun hq _ => ?_)
 refine ifE hb 4 [106, 107, 108] [] hq (fun hq _ => ?_) (fun hq _ => ?_)
 refine ifE hb 3 [13, 60, 109, 110, 111] [] hq (fun hq _ => ?_) (fun hq _ => ?_)
 refine ifE hb 5 [114, 115, 116] [] hq (fun hq _ => ?_) (fun hq _ => ?_)
 refine idxE hb flS 1 hq fun x34 hx34 hq => ?_
 exact retE hb 5 (injO hq).symm
 exact retE hb 7 (injO hq).symm
 exact retE hb 12 (injO hq).symm
 exact retE hb 15 (injO hq).symm
 exact retE hb 19 (injO hq).symm
 exact retE hb 23 (injO hq).symm
 exact retE hb 27 (injO hq).symm
 exact retE hb 31 (injO hq).symm
 exact retE hb 36 (injO hq).symm
 exact retE hb 40 (injO hq).symm
 exact retE hb 45 (injO hq).symm
 exact retE hb 49 (injO hq).symm
 exact retE hb 54 (injO hq).symm
 exact retE hb 59 (injO hq).symm
noncomputable def g_l18_FuncsNames_L1 (name_ : ByteArray) (y1 : List ByteArray) (y2 : List ByteArray) (s1 : Int) : Option ((Int) ⊕ (Bool)) :=
  bif (decide (s1 < (y1.length : Int))) then (idx y1 s1).bind fun x5 => (idx y2 s1).bind fun x6 => bif (!decide (x5 = x6)) then some (.inr (false)) else some (.inl (IntKind.i64.wrap (s1 + 1))) else (g_funcs_Arity name_).bind fun y8 => (g_r18_Arity name_).bind fun y9 => bif (decide (y8.1 = y9.1)) then bif (decide (y8.2.1 = y9.2.1)) then bif (y8.2.2 == y9.2.2) then (g_l18_awake).bind fun y13 => some (.inr (y13)) else some (.inr (false)) else some (.inr (false)) else some (.inr (false))
noncomputable def g_l18_FuncsNames  (name_ : ByteArray) : Option (Bool) :=
  (g_funcs_Names).bind fun y1 => (g_r18_Names).bind fun y2 => bif (!decide ((y1.length : Int) = (y2.length : Int))) then some (false) else loopO (g_l18_FuncsNames_L1 name_ y1 y2) 0
theorem g_l18_FuncsNames_ok (hb : Base E E0 G) (he : ∀ w, E w → EnvV w)   (name_ : ByteArray) : ∀ r_ : Bool, g_l18_FuncsNames name_ = some r_ →
 Pure E E0 Tryz.prog 3 [.cell (vS name_)] (c1 (vB r_)) := by
 refine fnE hb Tryz.func3 rfl fun r_ hq => ?_
 refine callE hb 6 hq (g_funcs_Names_ok hb he ) fun y1 hy1 hq => ?_
 refine callE hb 0 hq (g_r18_Names_ok hb he ) fun y2 hy2 hq => ?_
 refine ifE hb 12 [18] [] hq (fun hq _ => ?_) (fun hq _ => ?_)
 exact retE hb 5 (injO hq).symm
 refine loopE hb 8 (g_l18_FuncsNames_L1 name_ y1 y2) (fun s1 => sl 62 [(0, c1 (vS name_)), (3, c1 (vL flS y1)), (4, c1 (vL flS y2)), (5, c1 (vi s1))]) (fun s1 => []) [0, 3, 4, 5] [] 0 (s0 := 0) trivial hq (fun s1 x1 hq hn1 he1 => ?_)
 refine ifE hb 8 [22] [] hq (fun hq _ => ?_) (fun hq _ => ?_)
 refine drawE hb mixed 5 8 [] ?_
 refine idxE hb flS 2 hq fun x5 hx5 hq => ?_
 refine idxE hb flS 3 hq fun x6 hx6 hq => ?_
 refine ifE hb 4 [33] [] hq (fun hq _ => ?_) (fun hq _ => ?_)
 exact retE hb 5 (he1 _ (injO hq))
 exact backE hb 8 [0, 3, 4, 5] [] 0 (hn1 _ (injO hq)) trivial
 refine callE hb 5 hq (g_funcs_Arity_ok hb he name_) fun y8 hy8 hq => ?_
 refine callE hb 11 hq (g_r18_Arity_ok hb he name_) fun y9 hy9 hq => ?_
 refine ifE hb 14 [48, 49] [] hq (fun hq _ => ?_) (fun hq _ => ?_)
 refine ifE hb 5 [52, 53, 54] [] hq (fun hq _ => ?_) (fun hq _ => ?_)
 refine ifE hb 5 [57, 58, 59] [] hq (fun hq _ => ?_) (fun hq _ => ?_)
 refine callE hb 0 hq (g_l18_awake_ok hb he ) fun y13 hy13 hq => ?_
 exact retE hb 3 (he1 _ (injO hq))
 exact retE hb 4 (he1 _ (injO hq))
 exact retE hb 9 (he1 _ (injO hq))
 exact retE hb 14 (he1 _ (injO hq))
end Abs
end Go.Proofs.YtoelojmcopcpcaaGreatDoor
