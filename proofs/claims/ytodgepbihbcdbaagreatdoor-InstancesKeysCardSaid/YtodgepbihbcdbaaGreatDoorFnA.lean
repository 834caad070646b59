/-
  Instances: Go functions as functions over plain values, with the proof that the code computes them; printed by gen.py.
-/
import Derived.Test.YtodgepbihbcdbaaGreatDoorCtM
import Derived.Test.YtodgepbihbcdbaaGreatDoorAbsN
namespace Go.Proofs.YtodgepbihbcdbaaGreatDoor
namespace Abs
open Go.RowKit
variable {E : World → Prop} {E0 : Nat} {G : Nat → Option (List PV)}
set_option maxRecDepth 100000
set_option linter.unusedVariables false
set_option linter.unusedSimpArgs false
attribute [local irreducible] adv J KE KO mPut mSto mBool mFrm mDraw hedS unl Pure Ok sl loopO awpL awp asq asqD asqX asqF
structure KeyG where
  kind : Int
  num : Int
  str : ByteArray

structure ModuleStepG where
  name : ByteArray
  key : KeyG

structure AddressG where
  module : List ModuleStepG
  data : Bool
  type_ : ByteArray
  name : ByteArray
  key : KeyG

def flKeyG : Fl KeyG := Fl.of (fun x => [pI .i64 x.kind, pI .i64 x.num, pS x.str]) 3 (by decide) (fun _ => rfl)

def flModuleStepG : Fl ModuleStepG := Fl.of (fun x => [pS x.name, pI .i64 x.key.kind, pI .i64 x.key.num, pS x.key.str]) 4 (by decide) (fun _ => rfl)

noncomputable def g_l21_right  (v_ : Val) : Option (Bool) :=
  (m_small v_ 600).bind fun y1 => bif y1 then (m_checkE v_).bind fun y3 => some (decide (y3 = 0)) else some (false)
theorem g_l21_right_ok (hb : Base E E0 G) (he : ∀ w, E w → EnvV w)   (v_ : Val) : ∀ r_ : Bool, g_l21_right v_ = some r_ →
 Pure E E0 Tryz.prog 9 [.agg (aV v_)] (c1 (vB r_)) := by
 refine fnE hb Tryz.func9 rfl fun r_ hq => ?_
 refine callE hb 8 hq (rSmall_g hb he v_ 600) fun y1 hy1 hq => ?_
 refine ifE hb 1 [4, 5] [] hq (fun hq _ => ?_) (fun hq _ => ?_)
 refine callE hb 1 hq (rCheck_g hb he v_) fun y3 hy3 hq => ?_
 exact retE hb 4 (injO hq).symm
 exact retE hb 6 (injO hq).symm
noncomputable def g_value_Bool  (b_ : Bool) : Option (Val) :=
  bif b_ then some (Val.mk 1 1 eS [] []) else some (Val.mk 1 0 eS [] [])
theorem g_value_Bool_ok (hb : Base E E0 G) (he : ∀ w, E w → EnvV w)   (b_ : Bool) : ∀ r_ : Val, g_value_Bool b_ = some r_ →
 Pure E E0 Tryz.prog 123 [.cell (vB b_)] (.one (.agg (aV r_))) := by
 refine fnE hb Tryz.func123 rfl fun r_ hq => ?_
 refine ifE hb 15 [0, 5] [] hq (fun hq _ => ?_) (fun hq _ => ?_)
 exact retE hb 10 (injO hq).symm
 exact retE hb 7 (injO hq).symm
noncomputable def g_convert_toBool  (v_ : Val) : Option (Val × Int) :=
  bif (decide (v_.kind = 1)) then some (v_, 0) else bif (decide (v_.kind = 3)) then bif (decide (v_.str = (⟨#[116, 114, 117, 101]⟩ : ByteArray))) then (g_value_Bool true).bind fun y4 => some (y4, 0) else bif (decide (v_.str = (⟨#[102, 97, 108, 115, 101]⟩ : ByteArray))) then (g_value_Bool false).bind fun y6 => some (y6, 0) else some ((Val.mk 0 0 eS [] []), 6) else some ((Val.mk 0 0 eS [] []), 6)
theorem g_convert_toBool_ok (hb : Base E E0 G) (he : ∀ w, E w → EnvV w)   (v_ : Val) : ∀ r_ : Val × Int, g_convert_toBool v_ = some r_ →
 Pure E E0 Tryz.prog 102 [.agg (aV v_)] (.tup [.agg (aV r_.1), .cell (vi r_.2)]) := by
 refine fnE hb Tryz.func102 rfl fun r_ hq => ?_
 refine ifE hb 15 [4, 7] [] hq (fun hq _ => ?_) (fun hq _ => ?_)
 exact retE hb 7 (injO hq).symm
 refine ifE hb 7 [12, 13] [] hq (fun hq hc2 => ?_) (fun hq hc2 => ?_)
 refine ifE hb 6 [9, 16, 17] [] hq (fun hq _ => ?_) (fun hq _ => ?_)
 refine callE hb 3 hq (g_value_Bool_ok hb he true) fun y4 hy4 hq => ?_
 exact retE hb 3 (injO hq).symm
 refine knE hb 7 [22, 23] [] (b := (decide (v_.kind = 3))) (v := true) hc2 ?_
 refine ifE hb 6 [19, 26, 27] [] hq (fun hq _ => ?_) (fun hq _ => ?_)
 refine callE hb 3 hq (g_value_Bool_ok hb he false) fun y6 hy6 hq => ?_
 exact retE hb 3 (injO hq).symm
 exact retE hb 9 (injO hq).symm
 refine knE hb 13 [22, 23] [] (b := (decide (v_.kind = 3))) (v := false) hc2 ?_
 exact retE hb 15 (injO hq).symm
noncomputable def g_value_Number  (n_ : Int) : Option (Val) :=
  some (Val.mk 2 n_ eS [] [])
theorem g_value_Number_ok (hb : Base E E0 G) (he : ∀ w, E w → EnvV w)   (n_ : Int) : ∀ r_ : Val, g_value_Number n_ = some r_ →
 Pure E E0 Tryz.prog 36 [.cell (vi n_)] (.one (.agg (aV r_))) := by
 refine fnE hb Tryz.func36 rfl fun r_ hq => ?_
 exact retE hb 10 (injO hq).symm
noncomputable def g_convert_toNumber  (v_ : Val) : Option (Val × Int) :=
  bif (decide (v_.kind = 2)) then some (v_, 0) else bif (!decide (v_.kind = 3)) then some ((Val.mk 0 0 eS [] []), 6) else (m_parse v_.str).bind fun y3 => bif (!decide (y3.2 = 0)) then some ((Val.mk 0 0 eS [] []), 6) else (g_value_Number y3.1).bind fun y5 => some (y5, 0)
theorem g_convert_toNumber_ok (hb : Base E E0 G) (he : ∀ w, E w → EnvV w)   (v_ : Val) : ∀ r_ : Val × Int, g_convert_toNumber v_ = some r_ →
 Pure E E0 Tryz.prog 103 [.agg (aV v_)] (.tup [.agg (aV r_.1), .cell (vi r_.2)]) := by
 refine fnE hb Tryz.func103 rfl fun r_ hq => ?_
 refine ifE hb 13 [8] [] hq (fun hq _ => ?_) (fun hq _ => ?_)
 exact retE hb 7 (injO hq).symm
 refine ifE hb 9 [12] [] hq (fun hq _ => ?_) (fun hq _ => ?_)
 exact retE hb 7 (injO hq).symm
 refine callE hb 6 hq (parse_g hb he v_.str) fun y3 hy3 hq => ?_
 refine ifE hb 12 [21] [] hq (fun hq _ => ?_) (fun hq _ => ?_)
 exact retE hb 7 (injO hq).symm
 refine callE hb 5 hq (g_value_Number_ok hb he y3.1) fun y5 hy5 hq => ?_
 exact retE hb 3 (injO hq).symm
noncomputable def g_value_String  (s_ : ByteArray) : Option (Val) :=
  some (Val.mk 3 0 s_ [] [])
theorem g_value_String_ok (hb : Base E E0 G) (he : ∀ w, E w → EnvV w)   (s_ : ByteArray) : ∀ r_ : Val, g_value_String s_ = some r_ →
 Pure E E0 Tryz.prog 37 [.cell (vS s_)] (.one (.agg (aV r_))) := by
 refine fnE hb Tryz.func37 rfl fun r_ hq => ?_
 exact retE hb 10 (injO hq).symm
noncomputable def g_convert_toString  (v_ : Val) : Option (Val × Int) :=
  bif (decide (v_.kind = 3)) then some (v_, 0) else bif (decide (v_.kind = 2)) then (m_format v_.num).bind fun y3 => (g_value_String y3).bind fun y4 => some (y4, 0) else bif (decide (v_.kind = 1)) then bif (decide (v_.num = 1)) then (g_value_String (⟨#[116, 114, 117, 101]⟩ : ByteArray)).bind fun y7 => some (y7, 0) else (g_value_String (⟨#[102, 97, 108, 115, 101]⟩ : ByteArray)).bind fun y8 => some (y8, 0) else some ((Val.mk 0 0 eS [] []), 6)
theorem g_convert_toString_ok (hb : Base E E0 G) (he : ∀ w, E w → EnvV w)   (v_ : Val) : ∀ r_ : Val × Int, g_convert_toString v_ = some r_ →
 Pure E E0 Tryz.prog 104 [.agg (aV v_)] (.tup [.agg (aV r_.1), .cell (vi r_.2)]) := by
 refine fnE hb Tryz.func104 rfl fun r_ hq => ?_
 refine ifE hb 15 [4, 7] [] hq (fun hq _ => ?_) (fun hq _ => ?_)
 exact retE hb 7 (injO hq).symm
 refine ifE hb 8 [9, 12] [] hq (fun hq _ => ?_) (fun hq _ => ?_)
 refine callE hb 5 hq (format_g hb he v_.num) fun y3 hy3 hq => ?_
 refine callE hb 0 hq (g_value_String_ok hb he y3) fun y4 hy4 hq => ?_
 exact retE hb 3 (injO hq).symm
 refine ifE hb 7 [20, 21] [] hq (fun hq hc5 => ?_) (fun hq hc5 => ?_)
 refine ifE hb 6 [17, 24, 25] [] hq (fun hq _ => ?_) (fun hq _ => ?_)
 refine callE hb 3 hq (g_value_String_ok hb he (⟨#[116, 114, 117, 101]⟩ : ByteArray)) fun y7 hy7 hq => ?_
 exact retE hb 3 (injO hq).symm
 refine knE hb 8 [27, 30] [] (b := (decide (v_.kind = 1))) (v := true) hc5 ?_
 refine callE hb 3 hq (g_value_String_ok hb he (⟨#[102, 97, 108, 115, 101]⟩ : ByteArray)) fun y8 hy8 hq => ?_
 exact retE hb 3 (injO hq).symm
 refine knE hb 14 [27, 30] [] (b := (decide (v_.kind = 1))) (v := false) hc5 ?_
 exact retE hb 9 (injO hq).symm
noncomputable def g_cmp_isNaN  (x_ : ByteArray) : Option (Bool) :=
  some (!decide (x_ = x_))
theorem g_cmp_isNaN_ok (hb : Base E E0 G) (he : ∀ w, E w → EnvV w)   (x_ : ByteArray) : ∀ r_ : Bool, g_cmp_isNaN x_ = some r_ →
 Pure E E0 Tryz.prog 96 [.cell (vS x_)] (c1 (vB r_)) := by
 refine fnE hb Tryz.func96 rfl fun r_ hq => ?_
 exact retE hb 11 (injO hq).symm
noncomputable def g_cmp_Less  (x_ : ByteArray) (y_ : ByteArray) : Option (Bool) :=
  (g_cmp_isNaN x_).bind fun y1 => bif y1 then (g_cmp_isNaN y_).bind fun y3 => bif (!y3) then some (true) else some (Op.bytesLess x_.toList y_.toList) else some (Op.bytesLess x_.toList y_.toList)
theorem g_cmp_Less_ok (hb : Base E E0 G) (he : ∀ w, E w → EnvV w)   (x_ : ByteArray) (y_ : ByteArray) : ∀ r_ : Bool, g_cmp_Less x_ y_ = some r_ →
 Pure E E0 Tryz.prog 73 [.cell (vS x_), .cell (vS y_)] (c1 (vB r_)) := by
 refine fnE hb Tryz.func73 rfl fun r_ hq => ?_
 refine callE hb 7 hq (g_cmp_isNaN_ok hb he x_) fun y1 hy1 hq => ?_
 refine ifE hb 1 [6, 7] [] hq (fun hq _ => ?_) (fun hq _ => ?_)
 refine callE hb 1 hq (g_cmp_isNaN_ok hb he y_) fun y3 hy3 hq => ?_
 refine ifE hb 3 [10, 11, 12] [] hq (fun hq _ => ?_) (fun hq _ => ?_)
 exact retE hb 6 (injO hq).symm
 exact retE hb 6 (injO hq).symm
 exact retE hb 11 (injO hq).symm
noncomputable def g_slices_isNaN  (x_ : ByteArray) : Option (Bool) :=
  some (!decide (x_ = x_))
theorem g_slices_isNaN_ok (hb : Base E E0 G) (he : ∀ w, E w → EnvV w)   (x_ : ByteArray) : ∀ r_ : Bool, g_slices_isNaN x_ = some r_ →
 Pure E E0 Tryz.prog 74 [.cell (vS x_)] (c1 (vB r_)) := by
 refine fnE hb Tryz.func74 rfl fun r_ hq => ?_
 exact retE hb 11 (injO hq).symm
noncomputable def g_slices_BinarySearch_L1 (x_ : List ByteArray) (target_ : ByteArray) (s1 : Int × Int) : Option ((Int × Int) ⊕ (Int × Bool)) :=
  bif (decide (s1.1 < s1.2)) then (idx x_ (IntKind.i64.wrap (Int.fdiv (IntKind.u64.wrap (IntKind.i64.wrap (s1.1 + s1.2))) (2 ^ (min (1 : Int).toNat IntKind.u64.bits))))).bind fun x2 => (g_cmp_Less x2 target_).bind fun y3 => bif y3 then some (.inl ((IntKind.i64.wrap ((IntKind.i64.wrap (Int.fdiv (IntKind.u64.wrap (IntKind.i64.wrap (s1.1 + s1.2))) (2 ^ (min (1 : Int).toNat IntKind.u64.bits)))) + 1)), s1.2)) else some (.inl (s1.1, (IntKind.i64.wrap (Int.fdiv (IntKind.u64.wrap (IntKind.i64.wrap (s1.1 + s1.2))) (2 ^ (min (1 : Int).toNat IntKind.u64.bits)))))) else bif (decide (s1.1 < (x_.length : Int))) then (idx x_ s1.1).bind fun x6 => bif (decide (x6 = target_)) then some (.inr (s1.1, true)) else (idx x_ s1.1).bind fun x8 => (g_slices_isNaN x8).bind fun y9 => bif y9 then (g_slices_isNaN target_).bind fun y11 => some (.inr (s1.1, y11)) else some (.inr (s1.1, false)) else some (.inr (s1.1, false))
noncomputable def g_slices_BinarySearch  (x_ : List ByteArray) (target_ : ByteArray) : Option (Int × Bool) :=
  loopO (g_slices_BinarySearch_L1 x_ target_) (0, (x_.length : Int))
theorem g_slices_BinarySearch_ok (hb : Base E E0 G) (he : ∀ w, E w → EnvV w)   (x_ : List ByteArray) (target_ : ByteArray) : ∀ r_ : Int × Bool, g_slices_BinarySearch x_ target_ = some r_ →
 Pure E E0 Tryz.prog 47 [.cell (vL flS x_), .cell (vS target_)] (.tup [.cell (vi r_.1), .cell (vB r_.2)]) := by
 refine fnE hb Tryz.func47 rfl fun r_ hq => ?_
 refine loopE hb 19 (g_slices_BinarySearch_L1 x_ target_) (fun s1 => sl 54 [(0, c1 (vL flS x_)), (1, c1 (vS target_)), (6, c1 (vi (x_.length : Int))), (7, c1 (vi s1.1)), (8, c1 (vi s1.2))]) (fun s1 => []) [0, 1, 6, 7, 8] [] 0 (s0 := (0, (x_.length : Int))) trivial hq (fun s1 x1 hq hn1 he1 => ?_)
 refine ifE hb 7 [15] [] hq (fun hq _ => ?_) (fun hq _ => ?_)
 refine idxE hb flS 17 hq fun x2 hx2 hq => ?_
 refine callE hb 2 hq (g_cmp_Less_ok hb he x2 target_) fun y3 hy3 hq => ?_
 refine ifE hb 1 [27] [] hq (fun hq _ => ?_) (fun hq _ => ?_)
 exact backE hb 7 [0, 1, 6, 7, 8] [] 0 (hn1 _ (injO hq)) trivial
 exact backE hb 6 [0, 1, 6, 7, 8] [] 0 (hn1 _ (injO hq)) trivial
 refine ifE hb 9 [34, 35] [] hq (fun hq _ => ?_) (fun hq _ => ?_)
 refine idxE hb flS 2 hq fun x6 hx6 hq => ?_
 refine ifE hb 4 [41, 42] [] hq (fun hq _ => ?_) (fun hq _ => ?_)
 exact retE hb 14 (he1 _ (injO hq))
 refine idxE hb flS 2 hq fun x8 hx8 hq => ?_
 refine callE hb 1 hq (g_slices_isNaN_ok hb he x8) fun y9 hy9 hq => ?_
 refine ifE hb 1 [47, 48] [] hq (fun hq _ => ?_) (fun hq _ => ?_)
 refine callE hb 1 hq (g_slices_isNaN_ok hb he target_) fun y11 hy11 hq => ?_
 exact retE hb 6 (he1 _ (injO hq))
 exact retE hb 8 (he1 _ (injO hq))
 exact retE hb 21 (he1 _ (injO hq))
noncomputable def g_value_copies_L1 (r_value_copied : Val → Option (Val)) (l_ : List Val) (s1 : Int × List Val) : Option ((Int × List Val) ⊕ (List Val)) :=
  bif (decide (s1.1 < (l_.length : Int))) then (idx l_ s1.1).bind fun x4 => (r_value_copied x4).bind fun y5 => (app 80 s1.2 [y5]).bind fun l6 => some (.inl ((IntKind.i64.wrap (s1.1 + 1)), l6)) else some (.inr (s1.2))
noncomputable def g_value_copies (r_value_copied : Val → Option (Val)) (l_ : List Val) : Option (List Val) :=
  bif (decide ((l_.length : Int) = 0)) then some ([]) else (mkc 80 (l_.length : Int)).bind fun u2 => loopO (g_value_copies_L1 r_value_copied l_) (0, [])
theorem g_value_copies_ok (hb : Base E E0 G) (he : ∀ w, E w → EnvV w) (r_value_copied : Val → Option (Val)) (hr_value_copied : ∀ (a0 : Val) (r : Val), r_value_copied a0 = some r → Pure E E0 Tryz.prog 48 [.agg (aV a0)] (.one (.agg (aV r)))) (l_ : List Val) : ∀ r_ : List Val, g_value_copies r_value_copied l_ = some r_ →
 Pure E E0 Tryz.prog 69 [.cell (vL flV l_)] (c1 (vL flV r_)) := by
 refine fnE hb Tryz.func69 rfl fun r_ hq => ?_
 refine ifE hb 11 [8] [] hq (fun hq _ => ?_) (fun hq _ => ?_)
 exact retE hb 5 (injO hq).symm
 refine mk0E flV hb 6 hq fun u2 hu2 hq => ?_
 refine cpE hb 10 [3, 12, 13, 14] (s' := ⟨none, [pick (bodyOf Tryz.f69) [1, 1, 1, 0, 1, 0]], [(0, [pick (bodyOf Tryz.f69) [1, 1, 1, 1]])], sl 25 [(3, c1 (vO flV 0 [])), (12, c1 (vL flV l_)), (13, c1 (vi (l_.length : Int))), (14, c1 (vi 0))], [some (arO false flV.sz 0 (flV.f []))]⟩) ?_
 refine loopE hb 0 (g_value_copies_L1 r_value_copied l_) (fun s1 => sl 25 [(3, c1 (vO flV 0 s1.2)), (12, c1 (vL flV l_)), (13, c1 (vi (l_.length : Int))), (14, c1 (vi s1.1))]) (fun s1 => [some (arO false flV.sz 0 (flV.f s1.2))]) [3, 12, 13, 14] [] 1 (s0 := (0, [])) ⟨(under_arO _ _ _ _ _), trivial⟩ hq (fun s1 x1 hq hn1 he1 => ?_)
 refine ifE hb 5 [15] [] hq (fun hq _ => ?_) (fun hq _ => ?_)
 refine idxE hb flV 6 hq fun x4 hx4 hq => ?_
 refine callE hb 7 hq (hr_value_copied x4) fun y5 hy5 hq => ?_
 refine appOwnE flV hb 1 0 false 0 (flV.one y5) hq fun l6 hl6 hq => ?_
 exact backE hb 7 [3, 12, 13, 14] [] 1 (hn1 _ (injO hq)) ⟨(under_arO _ _ _ _ _), trivial⟩
 refine markE hb 7 0 false (sz := flV.sz) (fr := 0) (cs := flV.f s1.2) (by kernel_rfl) (Nat.zero_le _) ?_
 refine cellTE hb 0 2 (c := vO flV 0 s1.2) (conv_own flV (nb := false) (id := 0) (xs := s1.2) (by kernel_rfl)) ?_
 exact retE hb 0 (he1 _ (injO hq))
noncomputable def g_value_copied (r_value_copies : List Val → Option (List Val)) (v_ : Val) : Option (Val) :=
  (clone 16 v_.keys).bind fun y1 => (r_value_copies v_.items).bind fun y2 => some (Val.mk v_.kind v_.num v_.str y2 y1)
theorem g_value_copied_ok (hb : Base E E0 G) (he : ∀ w, E w → EnvV w) (r_value_copies : List Val → Option (List Val)) (hr_value_copies : ∀ (a0 : List Val) (r : List Val), r_value_copies a0 = some r → Pure E E0 Tryz.prog 69 [.cell (vL flV a0)] (c1 (vL flV r))) (v_ : Val) : ∀ r_ : Val, g_value_copied r_value_copies v_ = some r_ →
 Pure E E0 Tryz.prog 48 [.agg (aV v_)] (.one (.agg (aV r_))) := by
 refine fnE hb Tryz.func48 rfl fun r_ hq => ?_
 refine callE hb 9 hq (cloneK_g hb he v_.keys) fun y1 hy1 hq => ?_
 refine callE hb 7 hq (hr_value_copies v_.items) fun y2 hy2 hq => ?_
 exact retE hb 8 (injO hq).symm
noncomputable def t_value_copied_step (rec : Val → Unit → Option (Val)) (a : Val) (b : Unit) : Option (Val) :=
  g_value_copied (g_value_copies (fun a0 => rec a0 ())) a
noncomputable def t_value_copied (a0 : Val) : Option (Val) := tieF relV wfV t_value_copied_step a0 ()
theorem t_value_copied_ok (hb : Base E E0 G) (he : ∀ w, E w → EnvV w) (a0 : Val) (r : Val) (hq : t_value_copied a0 = some r) : Pure E E0 Tryz.prog 48 [.agg (aV a0)] (.one (.agg (aV r))) :=
  tieF_ok (C := fun a b r => Pure E E0 Tryz.prog 48 [.agg (aV a)] (.one (.agg (aV r)))) (fun rec hr a b r hq => g_value_copied_ok hb he (g_value_copies (fun a0 => rec a0 ())) (g_value_copies_ok hb he (fun a0 => rec a0 ()) (fun a0 r e => hr a0 () r e)) a r hq) a0 () r hq
noncomputable def t_value_copies (a0 : List Val) : Option (List Val) := (g_value_copies t_value_copied) a0
theorem t_value_copies_ok (hb : Base E E0 G) (he : ∀ w, E w → EnvV w) (a0 : List Val) (r : List Val) (hq : t_value_copies a0 = some r) : Pure E E0 Tryz.prog 69 [.cell (vL flV a0)] (c1 (vL flV r)) :=
  g_value_copies_ok hb he t_value_copied (t_value_copied_ok hb he) a0 r hq
noncomputable def g_value_Get  (v_ : Val) (key_ : ByteArray) : Option (Val × Bool) :=
  (g_slices_BinarySearch v_.keys key_).bind fun y1 => bif (!decide (v_.kind = 5)) then some ((Val.mk 0 0 eS [] []), false) else bif (!y1.2) then some ((Val.mk 0 0 eS [] []), false) else bif (decide (y1.1 ≥ (v_.items.length : Int))) then some ((Val.mk 0 0 eS [] []), false) else (idx v_.items y1.1).bind fun x5 => (t_value_copied x5).bind fun y6 => some (y6, true)
theorem g_value_Get_ok (hb : Base E E0 G) (he : ∀ w, E w → EnvV w)   (v_ : Val) (key_ : ByteArray) : ∀ r_ : Val × Bool, g_value_Get v_ key_ = some r_ →
 Pure E E0 Tryz.prog 22 [.agg (aV v_), .cell (vS key_)] (.tup [.agg (aV r_.1), .cell (vB r_.2)]) := by
 refine fnE hb Tryz.func22 rfl fun r_ hq => ?_
 refine callE hb 11 hq (g_slices_BinarySearch_ok hb he v_.keys key_) fun y1 hy1 hq => ?_
 refine ifE hb 13 [17, 18] [] hq (fun hq _ => ?_) (fun hq _ => ?_)
 exact retE hb 18 (injO hq).symm
 refine ifE hb 4 [20, 21, 22] [] hq (fun hq _ => ?_) (fun hq _ => ?_)
 exact retE hb 14 (injO hq).symm
 refine ifE hb 7 [27, 28] [] hq (fun hq _ => ?_) (fun hq _ => ?_)
 exact retE hb 7 (injO hq).symm
 refine idxE hb flV 7 hq fun x5 hx5 hq => ?_
 refine callE hb 1 hq (t_value_copied_ok hb he x5) fun y6 hy6 hq => ?_
 exact retE hb 3 (injO hq).symm
noncomputable def g_slices_Index_L1 (s_ : List ByteArray) (v_ : ByteArray) (s1 : Int) : Option ((Int) ⊕ (Int)) :=
  bif (decide (s1 < (s_.length : Int))) then (idx s_ s1).bind fun x2 => bif (decide (v_ = x2)) then some (.inr (s1)) else some (.inl (IntKind.i64.wrap (s1 + 1))) else some (.inr (-1))
noncomputable def g_slices_Index  (s_ : List ByteArray) (v_ : ByteArray) : Option (Int) :=
  loopO (g_slices_Index_L1 s_ v_) 0
theorem g_slices_Index_ok (hb : Base E E0 G) (he : ∀ w, E w → EnvV w)   (s_ : List ByteArray) (v_ : ByteArray) : ∀ r_ : Int, g_slices_Index s_ v_ = some r_ →
 Pure E E0 Tryz.prog 107 [.cell (vL flS s_), .cell (vS v_)] (c1 (vi r_)) := by
 refine fnE hb Tryz.func107 rfl fun r_ hq => ?_
 refine loopE hb 12 (g_slices_Index_L1 s_ v_) (fun s1 => sl 19 [(0, c1 (vL flS s_)), (1, c1 (vS v_)), (7, c1 (vi (s_.length : Int))), (8, c1 (vi s1))]) (fun s1 => []) [0, 1, 7, 8] [] 0 (s0 := 0) trivial hq (fun s1 x1 hq hn1 he1 => ?_)
 refine ifE hb 5 [9] [] hq (fun hq _ => ?_) (fun hq _ => ?_)
 refine idxE hb flS 14 hq fun x2 hx2 hq => ?_
 refine ifE hb 3 [16] [] hq (fun hq _ => ?_) (fun hq _ => ?_)
 exact retE hb 6 (he1 _ (injO hq))
 exact backE hb 7 [0, 1, 7, 8] [] 0 (hn1 _ (injO hq)) trivial
 exact retE hb 6 (he1 _ (injO hq))
noncomputable def g_slices_Contains  (s_ : List ByteArray) (v_ : ByteArray) : Option (Bool) :=
  (g_slices_Index s_ v_).bind fun y1 => some (decide (y1 ≥ 0))
theorem g_slices_Contains_ok (hb : Base E E0 G) (he : ∀ w, E w → EnvV w)   (s_ : List ByteArray) (v_ : ByteArray) : ∀ r_ : Bool, g_slices_Contains s_ v_ = some r_ →
 Pure E E0 Tryz.prog 85 [.cell (vL flS s_), .cell (vS v_)] (c1 (vB r_)) := by
 refine fnE hb Tryz.func85 rfl fun r_ hq => ?_
 refine callE hb 8 hq (g_slices_Index_ok hb he s_ v_) fun y1 hy1 hq => ?_
 exact retE hb 3 (injO hq).symm
noncomputable def g_convert_each_L1 (r_convert_to : Val → Ty → Option (Val × Int)) (v_ : Val) (t_ : Ty) (y1 : List ByteArray) (s1 : Int × List Val) : Option ((Int × List Val) ⊕ (Val × Int)) :=
  bif (decide (s1.1 < (v_.items.length : Int))) then (idx v_.items s1.1).bind fun x3 => (r_convert_to x3 t_).bind fun y4 => bif (!decide (y4.2 = 0)) then some (.inr ((Val.mk 0 0 eS [] []), y4.2)) else (app 80 s1.2 [y4.1]).bind fun l6 => some (.inl ((IntKind.i64.wrap (s1.1 + 1)), l6)) else some (.inr ((Val.mk v_.kind 0 eS s1.2 y1), 0))
noncomputable def g_convert_each (r_convert_to : Val → Ty → Option (Val × Int)) (v_ : Val) (t_ : Ty) : Option (Val × Int) :=
  (clone 16 v_.keys).bind fun y1 => loopO (g_convert_each_L1 r_convert_to v_ t_ y1) (0, [])
theorem g_convert_each_ok (hb : Base E E0 G) (he : ∀ w, E w → EnvV w) (r_convert_to : Val → Ty → Option (Val × Int)) (hr_convert_to : ∀ (a0 : Val) (a1 : Ty) (r : Val × Int), r_convert_to a0 a1 = some r → Pure E E0 Tryz.prog 84 [.agg (aV a0), .agg (aT a1)] (.tup [.agg (aV r.1), .cell (vi r.2)])) (v_ : Val) (t_ : Ty) : ∀ r_ : Val × Int, g_convert_each r_convert_to v_ t_ = some r_ →
 Pure E E0 Tryz.prog 105 [.agg (aV v_), .agg (aT t_)] (.tup [.agg (aV r_.1), .cell (vi r_.2)]) := by
 refine fnE hb Tryz.func105 rfl fun r_ hq => ?_
 refine drawE hb mixed 8 7 [] ?_
 refine callE hb 4 hq (cloneK_g hb he v_.keys) fun y1 hy1 hq => ?_
 refine cpE hb 14 [3, 4, 6, 18, 19, 20] (s' := ⟨none, [pick (bodyOf Tryz.f105) [1, 1, 0, 1, 0]], [(0, [pick (bodyOf Tryz.f105) [1, 1, 1]])], sl 42 [(3, pt 1), (4, pt 2), (6, pt 3), (18, c1 (vL flV v_.items)), (19, c1 (vi (v_.items.length : Int))), (20, c1 (vi 0))], [bx (aV v_), bx (aT t_), bx zV, bx [vi v_.kind, vi 0, vS eS, vN, vL flS y1]]⟩) ?_
 refine ownSE hb 0 3 3 5 (cs := [vi v_.kind, vi 0, vS eS, vN, vL flS y1]) (by kernel_rfl) ?_
 refine loopE hb 0 (g_convert_each_L1 r_convert_to v_ t_ y1) (fun s1 => sl 42 [(3, pt 1), (4, pt 2), (6, pt 3), (18, c1 (vL flV v_.items)), (19, c1 (vi (v_.items.length : Int))), (20, c1 (vi s1.1))]) (fun s1 => [none, bx (aT t_), bx zV, bx [vi v_.kind, vi 0, vS eS, vO flV 4 s1.2, vL flS y1], some (arO true flV.sz 0 (flV.f s1.2))]) [3, 4, 6, 18, 19, 20] [0] 5 (s0 := (0, [])) ⟨rfl, (by kernel_rfl), (by kernel_rfl), (by kernel_rfl), (under_arO _ _ _ _ _), trivial⟩ hq (fun s1 x1 hq hn1 he1 => ?_)
 refine ifE hb 5 [21] [] hq (fun hq _ => ?_) (fun hq _ => ?_)
 refine idxE hb flV 6 hq fun x3 hx3 hq => ?_
 refine callE hb 8 hq (hr_convert_to x3 t_) fun y4 hy4 hq => ?_
 refine ifE hb 13 [31] [] hq (fun hq _ => ?_) (fun hq _ => ?_)
 exact retE hb 8 (he1 _ (injO hq))
 refine appOwnE flV hb 7 4 true 0 (flV.one y4.1) hq fun l6 hl6 hq => ?_
 exact backE hb 8 [3, 4, 6, 18, 19, 20] [] 5 (hn1 _ (injO hq)) ⟨rfl, (by kernel_rfl), (by kernel_rfl), (by kernel_rfl), (under_arO _ _ _ _ _), trivial⟩
 refine markE hb 8 4 true (sz := flV.sz) (fr := 0) (cs := flV.f s1.2) (by kernel_rfl) (Nat.zero_le _) ?_
 refine cellSE hb 0 2 3 (cs := [vi v_.kind, vi 0, vS eS, vO flV 4 s1.2, vL flS y1]) (c := vO flV 4 s1.2) (conv_own flV (nb := true) (id := 4) (xs := s1.2) (by kernel_rfl)) (by kernel_rfl) ?_
 exact retE hb 0 (he1 _ (injO hq))
noncomputable def g_convert_toObject_L2 (r_convert_to : Val → Ty → Option (Val × Int)) (v_ : Val) (t_ : Ty) (y5 : List ByteArray) (s2 : Int × List Val) : Option ((Int × List Val) ⊕ ((Int) ⊕ (Val × Int))) :=
  bif (decide (s2.1 < (t_.names.length : Int))) then (idx t_.names s2.1).bind fun x7 => (g_value_Get v_ x7).bind fun y8 => (idx t_.elems s2.1).bind fun x9 => (r_convert_to y8.1 x9).bind fun y10 => bif (!decide (y10.2 = 0)) then some (.inr (.inr ((Val.mk 0 0 eS [] []), y10.2))) else (app 80 s2.2 [y10.1]).bind fun l12 => some (.inl ((IntKind.i64.wrap (s2.1 + 1)), l12)) else some (.inr (.inr ((Val.mk 5 0 eS s2.2 y5), 0)))
noncomputable def g_convert_toObject_L1 (r_convert_to : Val → Ty → Option (Val × Int)) (v_ : Val) (t_ : Ty) (s1 : Int) : Option ((Int) ⊕ (Val × Int)) :=
  bif (decide (s1 < (v_.keys.length : Int))) then (idx v_.keys s1).bind fun x2 => (g_slices_Contains t_.names x2).bind fun y3 => bif (!y3) then some (.inr ((Val.mk 0 0 eS [] []), 13)) else some (.inl (IntKind.i64.wrap (s1 + 1))) else (clone 16 t_.names).bind fun y5 => loopO (g_convert_toObject_L2 r_convert_to v_ t_ y5) (0, [])
noncomputable def g_convert_toObject (r_convert_to : Val → Ty → Option (Val × Int)) (v_ : Val) (t_ : Ty) : Option (Val × Int) :=
  loopO (g_convert_toObject_L1 r_convert_to v_ t_) 0
theorem g_convert_toObject_ok (hb : Base E E0 G) (he : ∀ w, E w → EnvV w) (r_convert_to : Val → Ty → Option (Val × Int)) (hr_convert_to : ∀ (a0 : Val) (a1 : Ty) (r : Val × Int), r_convert_to a0 a1 = some r → Pure E E0 Tryz.prog 84 [.agg (aV a0), .agg (aT a1)] (.tup [.agg (aV r.1), .cell (vi r.2)])) (v_ : Val) (t_ : Ty) : ∀ r_ : Val × Int, g_convert_toObject r_convert_to v_ t_ = some r_ →
 Pure E E0 Tryz.prog 106 [.agg (aV v_), .agg (aT t_)] (.tup [.agg (aV r_.1), .cell (vi r_.2)]) := by
 refine fnE hb Tryz.func106 rfl fun r_ hq => ?_
 refine loopE hb 16 (g_convert_toObject_L1 r_convert_to v_ t_) (fun s1 => sl 69 [(2, pt 0), (3, pt 1), (4, pt 2), (16, c1 (vL flS v_.keys)), (17, c1 (vi (v_.keys.length : Int))), (18, c1 (vi s1))]) (fun s1 => [bx (aV v_), bx (aT t_), bx zV]) [2, 3, 4, 16, 17, 18] [] 3 (s0 := 0) ⟨(by kernel_rfl), (by kernel_rfl), (by kernel_rfl), trivial⟩ hq (fun s1 x1 hq hn1 he1 => ?_)
 refine ifE hb 5 [19] [] hq (fun hq _ => ?_) (fun hq _ => ?_)
 refine idxE hb flS 6 hq fun x2 hx2 hq => ?_
 refine callE hb 8 hq (g_slices_Contains_ok hb he t_.names x2) fun y3 hy3 hq => ?_
 refine ifE hb 2 [26] [] hq (fun hq _ => ?_) (fun hq _ => ?_)
 exact retE hb 7 (he1 _ (injO hq))
 exact backE hb 7 [2, 3, 4, 16, 17, 18] [] 3 (hn1 _ (injO hq)) ⟨(by kernel_rfl), (by kernel_rfl), (by kernel_rfl), trivial⟩
 refine callE hb 6 hq (cloneK_g hb he t_.names) fun y5 hy5 hq => ?_
 refine cpE hb 13 [2, 3, 4, 8, 34, 35, 36] (s' := ⟨none, [pick (bodyOf Tryz.f106) [1, 1, 1, 0, 1, 0]], [(2, [pick (bodyOf Tryz.f106) [1, 1, 1, 1]])], sl 69 [(2, pt 0), (3, pt 1), (4, pt 2), (8, pt 3), (34, c1 (vL flS t_.names)), (35, c1 (vi (t_.names.length : Int))), (36, c1 (vi 0))], [bx (aV v_), bx (aT t_), bx zV, bx [vi 5, vi 0, vS eS, vN, vL flS y5]]⟩) ?_
 refine ownSE hb 0 3 3 5 (cs := [vi 5, vi 0, vS eS, vN, vL flS y5]) (by kernel_rfl) ?_
 refine loopE hb 0 (g_convert_toObject_L2 r_convert_to v_ t_ y5) (fun s2 => sl 69 [(2, pt 0), (3, pt 1), (4, pt 2), (8, pt 3), (34, c1 (vL flS t_.names)), (35, c1 (vi (t_.names.length : Int))), (36, c1 (vi s2.1))]) (fun s2 => [bx (aV v_), bx (aT t_), bx zV, bx [vi 5, vi 0, vS eS, vO flV 4 s2.2, vL flS y5], some (arO true flV.sz 0 (flV.f s2.2))]) [2, 3, 4, 8, 34, 35, 36] [] 5 (s0 := (0, [])) ⟨(by kernel_rfl), (by kernel_rfl), (by kernel_rfl), (by kernel_rfl), (under_arO _ _ _ _ _), trivial⟩ hq (fun s2 x2 hq hn2 he2 => ?_)
 refine ifE hb 5 [37] [] hq (fun hq _ => ?_) (fun hq _ => ?_)
 refine idxE hb flS 7 hq fun x7 hx7 hq => ?_
 refine callE hb 8 hq (g_value_Get_ok hb he v_ x7) fun y8 hy8 hq => ?_
 refine drawE hb mixed 8 11 [9] ?_
 refine idxE hb flT 4 hq fun x9 hx9 hq => ?_
 refine callE hb 1 hq (hr_convert_to y8.1 x9) fun y10 hy10 hq => ?_
 refine cpE hb 10 [2, 3, 4, 8, 13, 14, 34, 35, 36] (s' := ⟨none, [pick (bodyOf Tryz.f106) [1, 1, 1, 0, 1, 0, 0, 1, 1, 0, 0, 1, 1, 1, 0, 0], pick (bodyOf Tryz.f106) [1, 1, 1, 0, 1, 0, 0, 1, 1, 0, 0, 1, 1, 1, 0, 1], pick (bodyOf Tryz.f106) [1, 1, 1, 0, 1, 0, 0, 1, 1, 0, 0, 1, 1, 1, 1]], [(3, [pick (bodyOf Tryz.f106) [1, 1, 1, 0, 1, 0, 0, 1, 1, 1], pick (bodyOf Tryz.f106) [1, 1, 1, 0, 1, 0]]), (2, [pick (bodyOf Tryz.f106) [1, 1, 1, 1]])], sl 69 [(2, pt 0), (3, pt 1), (4, pt 2), (8, pt 3), (13, pt 6), (14, c1 (vi y10.2)), (34, c1 (vL flS t_.names)), (35, c1 (vi (t_.names.length : Int))), (36, c1 (vi s2.1))], [bx (aV v_), bx (aT t_), bx zV, bx [vi 5, vi 0, vS eS, vO flV 4 s2.2, vL flS y5], some (arO true flV.sz 0 (flV.f s2.2)), bx (aV y8.1), bx (aV y10.1)]⟩) ?_
 refine ifE hb 4 [58] [] hq (fun hq _ => ?_) (fun hq _ => ?_)
 exact retE hb 8 (he1 _ ((he2 _ (injO hq)).symm))
 refine appOwnE flV hb 7 4 true 0 (flV.one y10.1) hq fun l12 hl12 hq => ?_
 exact backE hb 8 [2, 3, 4, 8, 34, 35, 36] [] 5 (hn2 _ (injO hq)) ⟨(by kernel_rfl), (by kernel_rfl), (by kernel_rfl), (by kernel_rfl), (under_arO _ _ _ _ _), trivial⟩
 refine markE hb 8 4 true (sz := flV.sz) (fr := 0) (cs := flV.f s2.2) (by kernel_rfl) (Nat.zero_le _) ?_
 refine cellSE hb 0 2 3 (cs := [vi 5, vi 0, vS eS, vO flV 4 s2.2, vL flS y5]) (c := vO flV 4 s2.2) (conv_own flV (nb := true) (id := 4) (xs := s2.2) (by kernel_rfl)) (by kernel_rfl) ?_
 exact retE hb 0 (he1 _ ((he2 _ (injO hq)).symm))
noncomputable def g_convert_to (r_convert_toObject : Val → Ty → Option (Val × Int)) (r_convert_each : Val → Ty → Option (Val × Int)) (v_ : Val) (t_ : Ty) : Option (Val × Int) :=
  bif (decide (t_.kind = 0)) then (cpy v_).bind fun y2 => some (y2, 0) else bif (decide (v_.kind = 0)) then (cpy v_).bind fun y4 => some (y4, 0) else bif (decide (v_.kind = 6)) then (cpy v_).bind fun y6 => some (y6, 0) else bif (decide (t_.kind = 1)) then (g_convert_toBool v_).bind fun y8 => some (y8.1, y8.2) else bif (decide (t_.kind = 2)) then (g_convert_toNumber v_).bind fun y10 => some (y10.1, y10.2) else bif (decide (t_.kind = 3)) then (g_convert_toString v_).bind fun y12 => some (y12.1, y12.2) else bif (decide (t_.kind = 4)) then bif (decide (v_.kind = 4)) then (idx t_.elems 0).bind fun x15 => (r_convert_each v_ x15).bind fun y16 => some (y16.1, y16.2) else some ((Val.mk 0 0 eS [] []), 6) else bif (decide (t_.kind = 5)) then bif (decide (v_.kind = 5)) then (idx t_.elems 0).bind fun x19 => (r_convert_each v_ x19).bind fun y20 => some (y20.1, y20.2) else some ((Val.mk 0 0 eS [] []), 6) else bif (decide (t_.kind = 6)) then bif (decide (v_.kind = 5)) then (r_convert_toObject v_ t_).bind fun y23 => some (y23.1, y23.2) else some ((Val.mk 0 0 eS [] []), 6) else some ((Val.mk 0 0 eS [] []), 6)
theorem g_convert_to_ok (hb : Base E E0 G) (he : ∀ w, E w → EnvV w) (r_convert_toObject : Val → Ty → Option (Val × Int)) (r_convert_each : Val → Ty → Option (Val × Int)) (hr_convert_toObject : ∀ (a0 : Val) (a1 : Ty) (r : Val × Int), r_convert_toObject a0 a1 = some r → Pure E E0 Tryz.prog 106 [.agg (aV a0), .agg (aT a1)] (.tup [.agg (aV r.1), .cell (vi r.2)])) (hr_convert_each : ∀ (a0 : Val) (a1 : Ty) (r : Val × Int), r_convert_each a0 a1 = some r → Pure E E0 Tryz.prog 105 [.agg (aV a0), .agg (aT a1)] (.tup [.agg (aV r.1), .cell (vi r.2)])) (v_ : Val) (t_ : Ty) : ∀ r_ : Val × Int, g_convert_to r_convert_toObject r_convert_each v_ t_ = some r_ →
 Pure E E0 Tryz.prog 84 [.agg (aV v_), .agg (aT t_)] (.tup [.agg (aV r_.1), .cell (vi r_.2)]) := by
 refine fnE hb Tryz.func84 rfl fun r_ hq => ?_
 refine ifE hb 14 [8, 9] [] hq (fun hq _ => ?_) (fun hq _ => ?_)
 refine callE hb 14 hq (copied_convert_g hb he v_) fun y2 hy2 hq => ?_
 exact retE hb 3 (injO hq).symm
 refine ifE hb 5 [12, 13, 14] [] hq (fun hq _ => ?_) (fun hq _ => ?_)
 refine callE hb 9 hq (copied_convert_g hb he v_) fun y4 hy4 hq => ?_
 exact retE hb 3 (injO hq).symm
 refine ifE hb 5 [17, 18] [] hq (fun hq _ => ?_) (fun hq _ => ?_)
 refine callE hb 4 hq (copied_convert_g hb he v_) fun y6 hy6 hq => ?_
 exact retE hb 3 (injO hq).symm
 refine ifE hb 14 [23, 24] [] hq (fun hq _ => ?_) (fun hq _ => ?_)
 refine callE hb 4 hq (g_convert_toBool_ok hb he v_) fun y8 hy8 hq => ?_
 exact retE hb 5 (injO hq).symm
 refine ifE hb 6 [29, 30] [] hq (fun hq _ => ?_) (fun hq _ => ?_)
 refine callE hb 4 hq (g_convert_toNumber_ok hb he v_) fun y10 hy10 hq => ?_
 exact retE hb 5 (injO hq).symm
 refine ifE hb 6 [35, 36] [] hq (fun hq _ => ?_) (fun hq _ => ?_)
 refine callE hb 4 hq (g_convert_toString_ok hb he v_) fun y12 hy12 hq => ?_
 exact retE hb 5 (injO hq).symm
 refine ifE hb 6 [41, 42] [] hq (fun hq _ => ?_) (fun hq _ => ?_)
 refine cpE hb 2 [2, 3, 4] (s' := ⟨none, [pick (bodyOf Tryz.f84) [1, 1, 0, 1, 0, 1, 1, 1, 1, 1, 1, 1, 0, 0], pick (bodyOf Tryz.f84) [1, 1, 0, 1, 0, 1, 1, 1, 1, 1, 1, 1, 0, 1]], [(0, [pick (bodyOf Tryz.f84) [1, 1, 1]])], sl 78 [(2, pt 0), (3, pt 1), (4, pt 2)], [bx (aV v_), bx (aT t_), bx zV]⟩) ?_
 refine ifE hb 5 [45] [] hq (fun hq _ => ?_) (fun hq _ => ?_)
 refine drawE hb mixed 2 7 [6] ?_
 refine idxE hb flT 3 hq fun x15 hx15 hq => ?_
 refine callE hb 1 hq (hr_convert_each v_ x15) fun y16 hy16 hq => ?_
 exact retE hb 6 (injO hq).symm
 exact retE hb 9 (injO hq).symm
 refine cpE hb 2 [2, 3, 4, 22] (s' := ⟨none, [pick (bodyOf Tryz.f84) [1, 1, 0, 1, 0, 1, 1, 1, 1, 1, 1, 1, 1, 0], pick (bodyOf Tryz.f84) [1, 1, 0, 1, 0, 1, 1, 1, 1, 1, 1, 1, 1, 1]], [(0, [pick (bodyOf Tryz.f84) [1, 1, 1]])], sl 78 [(2, pt 0), (3, pt 1), (4, pt 2), (22, c1 (vi t_.kind))], [bx (aV v_), bx (aT t_), bx zV]⟩) ?_
 refine ifE hb 4 [54, 55] [] hq (fun hq _ => ?_) (fun hq _ => ?_)
 refine ifE hb 7 [58] [] hq (fun hq _ => ?_) (fun hq _ => ?_)
 refine drawE hb mixed 2 7 [6] ?_
 refine idxE hb flT 3 hq fun x19 hx19 hq => ?_
 refine callE hb 1 hq (hr_convert_each v_ x19) fun y20 hy20 hq => ?_
 exact retE hb 6 (injO hq).symm
 exact retE hb 9 (injO hq).symm
 refine ifE hb 6 [67, 68] [] hq (fun hq _ => ?_) (fun hq _ => ?_)
 refine ifE hb 7 [71] [] hq (fun hq _ => ?_) (fun hq _ => ?_)
 refine callE hb 5 hq (hr_convert_toObject v_ t_) fun y23 hy23 hq => ?_
 exact retE hb 5 (injO hq).symm
 exact retE hb 9 (injO hq).symm
 exact retE hb 9 (injO hq).symm
noncomputable def t_convert_to_step (rec : Ty → Val → Option (Val × Int)) (a : Ty) (b : Val) : Option (Val × Int) :=
  g_convert_to (g_convert_toObject (fun a0 a1 => rec a1 a0)) (g_convert_each (fun a0 a1 => rec a1 a0)) b a
noncomputable def t_convert_to (a0 : Val) (a1 : Ty) : Option (Val × Int) := tieF relT wfT t_convert_to_step a1 a0
theorem t_convert_to_ok (hb : Base E E0 G) (he : ∀ w, E w → EnvV w) (a0 : Val) (a1 : Ty) (r : Val × Int) (hq : t_convert_to a0 a1 = some r) : Pure E E0 Tryz.prog 84 [.agg (aV a0), .agg (aT a1)] (.tup [.agg (aV r.1), .cell (vi r.2)]) :=
  tieF_ok (C := fun a b r => Pure E E0 Tryz.prog 84 [.agg (aV b), .agg (aT a)] (.tup [.agg (aV r.1), .cell (vi r.2)])) (fun rec hr a b r hq => g_convert_to_ok hb he (g_convert_toObject (fun a0 a1 => rec a1 a0)) (g_convert_each (fun a0 a1 => rec a1 a0)) (g_convert_toObject_ok hb he (fun a0 a1 => rec a1 a0) (fun a0 a1 r e => hr a1 a0 r e)) (g_convert_each_ok hb he (fun a0 a1 => rec a1 a0) (fun a0 a1 r e => hr a1 a0 r e)) b a r hq) a1 a0 r hq
noncomputable def t_convert_each (a0 : Val) (a1 : Ty) : Option (Val × Int) := (g_convert_each t_convert_to) a0 a1
theorem t_convert_each_ok (hb : Base E E0 G) (he : ∀ w, E w → EnvV w) (a0 : Val) (a1 : Ty) (r : Val × Int) (hq : t_convert_each a0 a1 = some r) : Pure E E0 Tryz.prog 105 [.agg (aV a0), .agg (aT a1)] (.tup [.agg (aV r.1), .cell (vi r.2)]) :=
  g_convert_each_ok hb he t_convert_to (t_convert_to_ok hb he) a0 a1 r hq
noncomputable def t_convert_toObject (a0 : Val) (a1 : Ty) : Option (Val × Int) := (g_convert_toObject t_convert_to) a0 a1
theorem t_convert_toObject_ok (hb : Base E E0 G) (he : ∀ w, E w → EnvV w) (a0 : Val) (a1 : Ty) (r : Val × Int) (hq : t_convert_toObject a0 a1 = some r) : Pure E E0 Tryz.prog 106 [.agg (aV a0), .agg (aT a1)] (.tup [.agg (aV r.1), .cell (vi r.2)]) :=
  g_convert_toObject_ok hb he t_convert_to (t_convert_to_ok hb he) a0 a1 r hq
noncomputable def g_convert_To  (v_ : Val) (t_ : Ty) : Option (Val × Int) :=
  (t_convert_to v_ t_).bind fun y1 => bif (decide (y1.2 = 0)) then (m_checkE y1.1).bind fun y3 => bif (!decide (y3 = 0)) then some ((Val.mk 0 0 eS [] []), y3) else some (y1.1, 0) else some ((Val.mk 0 0 eS [] []), y1.2)
theorem g_convert_To_ok (hb : Base E E0 G) (he : ∀ w, E w → EnvV w)   (v_ : Val) (t_ : Ty) : ∀ r_ : Val × Int, g_convert_To v_ t_ = some r_ →
 Pure E E0 Tryz.prog 62 [.agg (aV v_), .agg (aT t_)] (.tup [.agg (aV r_.1), .cell (vi r_.2)]) := by
 refine fnE hb Tryz.func62 rfl fun r_ hq => ?_
 refine callE hb 11 hq (t_convert_to_ok hb he v_ t_) fun y1 hy1 hq => ?_
 refine ifE hb 13 [15] [] hq (fun hq _ => ?_) (fun hq hc2 => ?_)
 refine callE hb 3 hq (pCheck_g hb he y1.1) fun y3 hy3 hq => ?_
 refine ifE hb 8 [19] [] hq (fun hq _ => ?_) (fun hq _ => ?_)
 exact retE hb 8 (injO hq).symm
 exact retE hb 8 (injO hq).symm
 refine knE hb 8 [19] [] (b := (!decide (y1.2 = 0))) (v := true) (congrArg (fun z => !z) hc2) ?_
 exact retE hb 8 (injO hq).symm
noncomputable def g_instances_counted_L1 (y2 : Val × Int) (s1 : Int × List KeyG) : Option ((Int × List KeyG) ⊕ (List KeyG × Int)) :=
  bif (decide (s1.1 < y2.1.num)) then (app 32 s1.2 [(KeyG.mk 1 s1.1 eS)]).bind fun l8 => some (.inl ((IntKind.i64.wrap (s1.1 + 1)), l8)) else some (.inr (s1.2, 0))
noncomputable def g_instances_counted  (v_ : Val) : Option (List KeyG × Int) :=
  bif (decide (v_.kind = 6)) then some ([], 11) else (g_convert_To v_ (Ty.mk 2 [] [])).bind fun y2 => bif (!decide (y2.2 = 0)) then some ([], 6) else bif (decide (y2.1.kind = 0)) then some ([], 6) else bif (decide (y2.1.num < 0)) then some ([], 5) else bif (decide (y2.1.num > 256)) then some ([], 14) else loopO (g_instances_counted_L1 y2) (0, [])
theorem g_instances_counted_ok (hb : Base E E0 G) (he : ∀ w, E w → EnvV w)   (v_ : Val) : ∀ r_ : List KeyG × Int, g_instances_counted v_ = some r_ →
 Pure E E0 Tryz.prog 29 [.agg (aV v_)] (.tup [.cell (vL flKeyG r_.1), .cell (vi r_.2)]) := by
 refine fnE hb Tryz.func29 rfl fun r_ hq => ?_
 refine ifE hb 13 [10] [] hq (fun hq _ => ?_) (fun hq _ => ?_)
 exact retE hb 6 (injO hq).symm
 refine callE hb 6 hq (g_convert_To_ok hb he v_ (Ty.mk 2 [] [])) fun y2 hy2 hq => ?_
 refine ifE hb 14 [19, 20] [] hq (fun hq _ => ?_) (fun hq _ => ?_)
 exact retE hb 12 (injO hq).symm
 refine ifE hb 6 [17, 23, 24] [] hq (fun hq _ => ?_) (fun hq _ => ?_)
 exact retE hb 6 (injO hq).symm
 refine ifE hb 8 [25, 28] [] hq (fun hq _ => ?_) (fun hq _ => ?_)
 exact retE hb 6 (injO hq).symm
 refine ifE hb 8 [29, 32] [] hq (fun hq _ => ?_) (fun hq _ => ?_)
 exact retE hb 6 (injO hq).symm
 refine cpE hb 15 [6, 34, 35] (s' := ⟨none, [pick (bodyOf Tryz.f29) [1, 1, 1, 1, 1, 0, 1, 0]], [(1, [pick (bodyOf Tryz.f29) [1, 1, 1, 1, 1, 1]])], sl 45 [(6, c1 (vN)), (34, c1 (vi y2.1.num)), (35, c1 (vi 0))], [bx (aV v_), bx (aV y2.1)]⟩) ?_
 refine ownTE hb 0 6 3 ?_
 refine loopE hb 0 (g_instances_counted_L1 y2) (fun s1 => sl 45 [(6, c1 (vO flKeyG 2 s1.2)), (34, c1 (vi y2.1.num)), (35, c1 (vi s1.1))]) (fun s1 => [none, none, some (arO true flKeyG.sz 0 (flKeyG.f s1.2))]) [6, 34, 35] [0, 1] 3 (s0 := (0, [])) ⟨rfl, rfl, (under_arO _ _ _ _ _), trivial⟩ hq (fun s1 x1 hq hn1 he1 => ?_)
 refine ifE hb 5 [36] [] hq (fun hq _ => ?_) (fun hq _ => ?_)
 refine appOwnE flKeyG hb 14 2 true 0 (flKeyG.one (KeyG.mk 1 s1.1 eS)) hq fun l8 hl8 hq => ?_
 exact backE hb 7 [6, 34, 35] [] 3 (hn1 _ (injO hq)) ⟨rfl, rfl, (under_arO _ _ _ _ _), trivial⟩
 refine markE hb 8 2 true (sz := flKeyG.sz) (fr := 0) (cs := flKeyG.f s1.2) (by kernel_rfl) (Nat.zero_le _) ?_
 refine cellTE hb 0 2 (c := vO flKeyG 2 s1.2) (conv_own flKeyG (nb := true) (id := 2) (xs := s1.2) (by kernel_rfl)) ?_
 exact retE hb 0 (he1 _ (injO hq))
noncomputable def g_instances_texts_L1 (l_ : List Val) (s1 : Int × List ByteArray) : Option ((Int × List ByteArray) ⊕ (List ByteArray × Int)) :=
  bif (decide (s1.1 < (l_.length : Int))) then (idx l_ s1.1).bind fun x2 => bif (decide (x2.kind = 6)) then some (.inr ([], 11)) else bif (!decide (x2.kind = 3)) then some (.inr ([], 6)) else (g_slices_Contains s1.2 x2.str).bind fun y5 => bif y5 then some (.inr ([], 8)) else (app 16 s1.2 [x2.str]).bind fun l7 => some (.inl ((IntKind.i64.wrap (s1.1 + 1)), l7)) else (m_sortS s1.2).bind fun l8 => some (.inr (l8, 0))
noncomputable def g_instances_texts  (l_ : List Val) : Option (List ByteArray × Int) :=
  loopO (g_instances_texts_L1 l_) (0, [])
theorem g_instances_texts_ok (hb : Base E E0 G) (he : ∀ w, E w → EnvV w)   (l_ : List Val) : ∀ r_ : List ByteArray × Int, g_instances_texts l_ = some r_ →
 Pure E E0 Tryz.prog 63 [.cell (vL flV l_)] (.tup [.cell (vL flS r_.1), .cell (vi r_.2)]) := by
 refine fnE hb Tryz.func63 rfl fun r_ hq => ?_
 refine ownTE hb 17 4 1 ?_
 refine loopE hb 0 (g_instances_texts_L1 l_) (fun s1 => sl 35 [(4, c1 (vO flS 0 s1.2)), (7, c1 (vL flV l_)), (8, c1 (vi (l_.length : Int))), (9, c1 (vi s1.1))]) (fun s1 => [some (arO true flS.sz 0 (flS.f s1.2))]) [4, 7, 8, 9] [] 1 (s0 := (0, [])) ⟨(under_arO _ _ _ _ _), trivial⟩ hq (fun s1 x1 hq hn1 he1 => ?_)
 refine ifE hb 5 [10] [] hq (fun hq _ => ?_) (fun hq _ => ?_)
 refine idxE hb flV 6 hq fun x2 hx2 hq => ?_
 refine ifE hb 13 [13, 16] [] hq (fun hq _ => ?_) (fun hq _ => ?_)
 exact retE hb 6 (he1 _ (injO hq))
 refine ifE hb 8 [17, 20] [] hq (fun hq _ => ?_) (fun hq _ => ?_)
 exact retE hb 6 (he1 _ (injO hq))
 refine callVE hb 6 (vs := [.cell (vO flS 0 s1.2), .cell (vS x2.str)]) hq (frz_cons (frz_cell (frz_own flS (b := true) (id := 0) (fr := 0) (xs := s1.2) (by kernel_rfl))) (frz_cons (by kernel_rfl) rfl)) (fun _ => rfl) (g_slices_Contains_ok hb he s1.2 x2.str) fun y5 hy5 hq => ?_
 refine ifE hb 2 [21, 25] [] hq (fun hq _ => ?_) (fun hq _ => ?_)
 refine cpE hb 2 [] (s' := ⟨none, [pick (bodyOf Tryz.f63) [1, 1, 0, 1, 0, 0, 1, 1, 0, 0, 1, 0, 0, 1, 1, 1, 1, 1, 0, 0], pick (bodyOf Tryz.f63) [1, 1, 0, 1, 0, 0, 1, 1, 0, 0, 1, 0, 0, 1, 1, 1, 1, 1, 0, 1]], [(2, [pick (bodyOf Tryz.f63) [1, 1, 0, 1, 0, 0, 1, 1, 0, 0, 1, 1]]), (1, [pick (bodyOf Tryz.f63) [1, 1, 0, 1, 0, 0, 1, 1, 1], pick (bodyOf Tryz.f63) [1, 1, 0, 1, 0]]), (0, [pick (bodyOf Tryz.f63) [1, 1, 1]])], sl 35 [], [some (arO true flS.sz 0 (flS.f s1.2)), bx (aV x2)]⟩) ?_
 exact retE hb 4 (he1 _ (injO hq))
 refine cpE hb 3 [4, 6, 7, 8, 9] (s' := ⟨none, [pick (bodyOf Tryz.f63) [1, 1, 0, 1, 0, 0, 1, 1, 0, 0, 1, 1]], [(1, [pick (bodyOf Tryz.f63) [1, 1, 0, 1, 0, 0, 1, 1, 1], pick (bodyOf Tryz.f63) [1, 1, 0, 1, 0]]), (0, [pick (bodyOf Tryz.f63) [1, 1, 1]])], sl 35 [(4, c1 (vO flS 0 s1.2)), (6, pt 1), (7, c1 (vL flV l_)), (8, c1 (vi (l_.length : Int))), (9, c1 (vi s1.1))], [some (arO true flS.sz 0 (flS.f s1.2)), bx (aV x2)]⟩) ?_
 refine appOwnE flS hb 5 0 true 0 (flS.one x2.str) hq fun l7 hl7 hq => ?_
 exact backE hb 7 [4, 7, 8, 9] [] 1 (hn1 _ (injO hq)) ⟨(under_arO _ _ _ _ _), trivial⟩
 refine callSE hb 5 hq (sortS_g hb he 0 true s1.2 (by kernel_rfl)) fun l8 hl8 hq => ?_
 refine cellTE hb 1 4 (c := vO flS 0 s1.2) (conv_eq (vO_eq flS (m_sortS_len hl8))) ?_
 refine markE hb 6 0 true (sz := flS.sz) (fr := 0) (cs := flS.f l8) (by kernel_rfl) (Nat.zero_le _) ?_
 refine cellTE hb 0 2 (c := vO flS 0 l8) (conv_own flS (nb := true) (id := 0) (xs := l8) (by kernel_rfl)) ?_
 exact retE hb 0 (he1 _ (injO hq))
noncomputable def g_instances_named_L1 (v_ : Val) (s1 : Int × List KeyG) : Option ((Int × List KeyG) ⊕ (List KeyG × Int)) :=
  bif (decide (s1.1 < (v_.keys.length : Int))) then (idx v_.keys s1.1).bind fun x5 => (app 32 s1.2 [(KeyG.mk 2 0 x5)]).bind fun l6 => some (.inl ((IntKind.i64.wrap (s1.1 + 1)), l6)) else some (.inr (s1.2, 0))
noncomputable def g_instances_named_L2 (y8 : List ByteArray × Int) (s1 : Int × List KeyG) : Option ((Int × List KeyG) ⊕ (List KeyG × Int)) :=
  bif (decide (s1.1 < (y8.1.length : Int))) then (idx y8.1 s1.1).bind fun x12 => (app 32 s1.2 [(KeyG.mk 2 0 x12)]).bind fun l13 => some (.inl ((IntKind.i64.wrap (s1.1 + 1)), l13)) else some (.inr (s1.2, 0))
noncomputable def g_instances_named  (v_ : Val) : Option (List KeyG × Int) :=
  bif (decide (v_.kind = 6)) then some ([], 11) else bif (decide (v_.kind = 5)) then bif (decide ((v_.keys.length : Int) > 256)) then some ([], 14) else loopO (g_instances_named_L1 v_) (0, []) else bif (decide (v_.kind = 4)) then (g_instances_texts v_.items).bind fun y8 => bif (!decide (y8.2 = 0)) then some ([], y8.2) else bif (decide ((y8.1.length : Int) > 256)) then some ([], 14) else loopO (g_instances_named_L2 y8) (0, []) else some ([], 6)
theorem g_instances_named_ok (hb : Base E E0 G) (he : ∀ w, E w → EnvV w)   (v_ : Val) : ∀ r_ : List KeyG × Int, g_instances_named v_ = some r_ →
 Pure E E0 Tryz.prog 30 [.agg (aV v_)] (.tup [.cell (vL flKeyG r_.1), .cell (vi r_.2)]) := by
 refine fnE hb Tryz.func30 rfl fun r_ hq => ?_
 refine ifE hb 22 [12, 13] [] hq (fun hq _ => ?_) (fun hq _ => ?_)
 exact retE hb 6 (injO hq).symm
 refine ifE hb 6 [14, 15] [] hq (fun hq _ => ?_) (fun hq _ => ?_)
 refine ifE hb 14 [32] [] hq (fun hq _ => ?_) (fun hq _ => ?_)
 exact retE hb 6 (injO hq).symm
 refine cpE hb 14 [7, 33, 34, 35] (s' := ⟨none, [pick (bodyOf Tryz.f30) [1, 1, 1, 1, 1, 0, 1, 0]], [(1, [pick (bodyOf Tryz.f30) [1, 1, 1, 1, 1, 1]])], sl 46 [(7, c1 (vN)), (33, c1 (vL flS v_.keys)), (34, c1 (vi (v_.keys.length : Int))), (35, c1 (vi 0))], [bx (aV v_)]⟩) ?_
 refine ownTE hb 0 7 3 ?_
 refine loopE hb 0 (g_instances_named_L1 v_) (fun s1 => sl 46 [(7, c1 (vO flKeyG 1 s1.2)), (33, c1 (vL flS v_.keys)), (34, c1 (vi (v_.keys.length : Int))), (35, c1 (vi s1.1))]) (fun s1 => [none, some (arO true flKeyG.sz 0 (flKeyG.f s1.2))]) [7, 33, 34, 35] [0] 2 (s0 := (0, [])) ⟨rfl, (under_arO _ _ _ _ _), trivial⟩ hq (fun s1 x1 hq hn1 he1 => ?_)
 refine ifE hb 5 [36] [] hq (fun hq _ => ?_) (fun hq _ => ?_)
 refine idxE hb flS 6 hq fun x5 hx5 hq => ?_
 refine appOwnE flKeyG hb 8 1 true 0 (flKeyG.one (KeyG.mk 2 0 x5)) hq fun l6 hl6 hq => ?_
 exact backE hb 7 [7, 33, 34, 35] [] 2 (hn1 _ (injO hq)) ⟨rfl, (under_arO _ _ _ _ _), trivial⟩
 refine markE hb 8 1 true (sz := flKeyG.sz) (fr := 0) (cs := flKeyG.f s1.2) (by kernel_rfl) (Nat.zero_le _) ?_
 refine cellTE hb 0 2 (c := vO flKeyG 1 s1.2) (conv_own flKeyG (nb := true) (id := 1) (xs := s1.2) (by kernel_rfl)) ?_
 exact retE hb 0 (he1 _ (injO hq))
 refine ifE hb 6 [18, 19] [] hq (fun hq _ => ?_) (fun hq _ => ?_)
 refine callE hb 5 hq (g_instances_texts_ok hb he v_.items) fun y8 hy8 hq => ?_
 refine ifE hb 12 [27] [] hq (fun hq _ => ?_) (fun hq _ => ?_)
 exact retE hb 7 (injO hq).symm
 refine ifE hb 14 [32] [] hq (fun hq _ => ?_) (fun hq _ => ?_)
 exact retE hb 6 (injO hq).symm
 refine cpE hb 14 [7, 33, 34, 35] (s' := ⟨none, [pick (bodyOf Tryz.f30) [1, 1, 1, 1, 1, 0, 1, 0]], [(1, [pick (bodyOf Tryz.f30) [1, 1, 1, 1, 1, 1]])], sl 46 [(7, c1 (vN)), (33, c1 (vL flS y8.1)), (34, c1 (vi (y8.1.length : Int))), (35, c1 (vi 0))], [bx (aV v_)]⟩) ?_
 refine ownTE hb 0 7 3 ?_
 refine loopE hb 0 (g_instances_named_L2 y8) (fun s1 => sl 46 [(7, c1 (vO flKeyG 1 s1.2)), (33, c1 (vL flS y8.1)), (34, c1 (vi (y8.1.length : Int))), (35, c1 (vi s1.1))]) (fun s1 => [none, some (arO true flKeyG.sz 0 (flKeyG.f s1.2))]) [7, 33, 34, 35] [0] 2 (s0 := (0, [])) ⟨rfl, (under_arO _ _ _ _ _), trivial⟩ hq (fun s1 x1 hq hn1 he1 => ?_)
 refine ifE hb 5 [36] [] hq (fun hq _ => ?_) (fun hq _ => ?_)
 refine idxE hb flS 6 hq fun x12 hx12 hq => ?_
 refine appOwnE flKeyG hb 8 1 true 0 (flKeyG.one (KeyG.mk 2 0 x12)) hq fun l13 hl13 hq => ?_
 exact backE hb 7 [7, 33, 34, 35] [] 2 (hn1 _ (injO hq)) ⟨rfl, (under_arO _ _ _ _ _), trivial⟩
 refine markE hb 8 1 true (sz := flKeyG.sz) (fr := 0) (cs := flKeyG.f s1.2) (by kernel_rfl) (Nat.zero_le _) ?_
 refine cellTE hb 0 2 (c := vO flKeyG 1 s1.2) (conv_own flKeyG (nb := true) (id := 1) (xs := s1.2) (by kernel_rfl)) ?_
 exact retE hb 0 (he1 _ (injO hq))
 exact retE hb 6 (injO hq).symm
noncomputable def g_instances_Keys  (rr_ : Int) (v_ : Val) : Option (List KeyG × Int) :=
  bif (decide (rr_ = 0)) then some ([(KeyG.mk 0 0 eS)], 0) else bif (decide (rr_ = 1)) then (g_instances_counted v_).bind fun y3 => some (y3.1, y3.2) else bif (decide (rr_ = 2)) then (g_instances_named v_).bind fun y5 => some (y5.1, y5.2) else some ([], 1)
theorem g_instances_Keys_ok (hb : Base E E0 G) (he : ∀ w, E w → EnvV w)   (rr_ : Int) (v_ : Val) : ∀ r_ : List KeyG × Int, g_instances_Keys rr_ v_ = some r_ →
 Pure E E0 Tryz.prog 11 [.cell (vi rr_), .agg (aV v_)] (.tup [.cell (vL flKeyG r_.1), .cell (vi r_.2)]) := by
 refine fnE hb Tryz.func11 rfl fun r_ hq => ?_
 refine ifE hb 17 [7, 8] [] hq (fun hq _ => ?_) (fun hq _ => ?_)
 refine cellTE hb 8 4 (c := .pv (.sl true 1 [pI .i64 0, pI .i64 0, pS eS])) (conv_lit flKeyG (flKeyG.one (KeyG.mk 0 0 eS)).symm) ?_
 exact retE hb 0 (injO hq).symm
 refine ifE hb 6 [11, 12] [] hq (fun hq _ => ?_) (fun hq _ => ?_)
 refine callE hb 4 hq (g_instances_counted_ok hb he v_) fun y3 hy3 hq => ?_
 exact retE hb 5 (injO hq).symm
 refine ifE hb 6 [17, 18] [] hq (fun hq _ => ?_) (fun hq _ => ?_)
 refine callE hb 4 hq (g_instances_named_ok hb he v_) fun y5 hy5 hq => ?_
 exact retE hb 5 (injO hq).symm
 exact retE hb 8 (injO hq).symm
noncomputable def g_slices_Index_Key_L1 (s_ : List KeyG) (v_ : KeyG) (s1 : Int) : Option ((Int) ⊕ (Int)) :=
  bif (decide (s1 < (s_.length : Int))) then (idx s_ s1).bind fun x2 => bif (decide ((v_.kind : Int) = x2.kind) && (decide ((v_.num : Int) = x2.num) && (decide (v_.str = x2.str) && true))) then some (.inr (s1)) else some (.inl (IntKind.i64.wrap (s1 + 1))) else some (.inr (-1))
noncomputable def g_slices_Index_Key  (s_ : List KeyG) (v_ : KeyG) : Option (Int) :=
  loopO (g_slices_Index_Key_L1 s_ v_) 0
theorem g_slices_Index_Key_ok (hb : Base E E0 G) (he : ∀ w, E w → EnvV w)   (s_ : List KeyG) (v_ : KeyG) : ∀ r_ : Int, g_slices_Index_Key s_ v_ = some r_ →
 Pure E E0 Tryz.prog 65 [.cell (vL flKeyG s_), .agg [vi v_.kind, vi v_.num, vS v_.str]] (c1 (vi r_)) := by
 refine fnE hb Tryz.func65 rfl fun r_ hq => ?_
 refine loopE hb 13 (g_slices_Index_Key_L1 s_ v_) (fun s1 => sl 19 [(0, c1 (vL flKeyG s_)), (3, pt 0), (7, c1 (vi (s_.length : Int))), (8, c1 (vi s1))]) (fun s1 => [bx [vi v_.kind, vi v_.num, vS v_.str]]) [0, 3, 7, 8] [] 1 (s0 := 0) ⟨(by kernel_rfl), trivial⟩ hq (fun s1 x1 hq hn1 he1 => ?_)
 refine ifE hb 5 [9] [] hq (fun hq _ => ?_) (fun hq _ => ?_)
 refine drawE hb mixed 10 5 [] ?_
 refine idxE hb flKeyG 3 hq fun x2 hx2 hq => ?_
 refine ifE hb 4 [16] [] hq (fun hq _ => ?_) (fun hq _ => ?_)
 exact retE hb 6 (he1 _ (injO hq))
 exact backE hb 7 [0, 3, 7, 8] [] 1 (hn1 _ (injO hq)) ⟨(by kernel_rfl), trivial⟩
 exact retE hb 6 (he1 _ (injO hq))
noncomputable def g_slices_Contains_Key  (s_ : List KeyG) (v_ : KeyG) : Option (Bool) :=
  (g_slices_Index_Key s_ v_).bind fun y1 => some (decide (y1 ≥ 0))
theorem g_slices_Contains_Key_ok (hb : Base E E0 G) (he : ∀ w, E w → EnvV w)   (s_ : List KeyG) (v_ : KeyG) : ∀ r_ : Bool, g_slices_Contains_Key s_ v_ = some r_ →
 Pure E E0 Tryz.prog 34 [.cell (vL flKeyG s_), .agg [vi v_.kind, vi v_.num, vS v_.str]] (c1 (vB r_)) := by
 refine fnE hb Tryz.func34 rfl fun r_ hq => ?_
 refine callE hb 9 hq (g_slices_Index_Key_ok hb he s_ v_) fun y1 hy1 hq => ?_
 exact retE hb 3 (injO hq).symm
noncomputable def g_value_Map_L2 (keys_ : List ByteArray) (items_ : List Val) (l5 : List Int) (s2 : Int × List Val × List ByteArray) : Option ((Int × List Val × List ByteArray) ⊕ ((Int × List Int) ⊕ (Val × Int))) :=
  bif (decide (s2.1 < (l5.length : Int))) then (idx l5 s2.1).bind fun x7 => bif (decide (s2.1 > 0)) then (idx keys_ x7).bind fun x9 => (idx s2.2.2 (IntKind.i64.wrap (s2.1 - 1))).bind fun x10 => bif (decide (x9 = x10)) then some (.inr (.inr ((Val.mk 0 0 eS [] []), 8))) else (idx keys_ x7).bind fun x12 => (app 16 s2.2.2 [x12]).bind fun l13 => (idx items_ x7).bind fun x14 => (t_value_copied x14).bind fun y15 => (app 80 s2.2.1 [y15]).bind fun l16 => some (.inl ((IntKind.i64.wrap (s2.1 + 1)), l16, l13)) else (idx keys_ x7).bind fun x17 => (app 16 s2.2.2 [x17]).bind fun l18 => (idx items_ x7).bind fun x19 => (t_value_copied x19).bind fun y20 => (app 80 s2.2.1 [y20]).bind fun l21 => some (.inl ((IntKind.i64.wrap (s2.1 + 1)), l21, l18)) else some (.inr (.inr ((Val.mk 5 0 eS s2.2.1 s2.2.2), 0)))
noncomputable def g_value_Map_L1 (keys_ : List ByteArray) (items_ : List Val) (l2 : List Int) (s1 : Int × List Int) : Option ((Int × List Int) ⊕ (Val × Int)) :=
  bif (decide (s1.1 < (l2.length : Int))) then (idx s1.2 s1.1).bind fun x4 => some (.inl ((IntKind.i64.wrap (s1.1 + 1)), (upd s1.2 s1.1 s1.1))) else (m_sortI keys_ s1.2).bind fun l5 => loopO (g_value_Map_L2 keys_ items_ l5) (0, [], [])
noncomputable def g_value_Map  (keys_ : List ByteArray) (items_ : List Val) : Option (Val × Int) :=
  bif (!decide ((keys_.length : Int) = (items_.length : Int))) then some ((Val.mk 0 0 eS [] []), 1) else (mkl 8 (keys_.length : Int) 0).bind fun l2 => loopO (g_value_Map_L1 keys_ items_ l2) (0, l2)
theorem g_value_Map_ok (hb : Base E E0 G) (he : ∀ w, E w → EnvV w)   (keys_ : List ByteArray) (items_ : List Val) : ∀ r_ : Val × Int, g_value_Map keys_ items_ = some r_ →
 Pure E E0 Tryz.prog 43 [.cell (vL flS keys_), .cell (vL flV items_)] (.tup [.agg (aV r_.1), .cell (vi r_.2)]) := by
 refine fnE hb Tryz.func43 rfl fun r_ hq => ?_
 refine ifE hb 15 [15] [] hq (fun hq _ => ?_) (fun hq _ => ?_)
 exact retE hb 7 (injO hq).symm
 refine mkE (flI .i64) hb 6 hq fun l2 hl2 hq => ?_
 refine lenOwnE (flI .i64) hb 6 2 false 0 l2 ?_
 refine cpE hb 3 [1, 2, 4, 6, 21, 22] (s' := ⟨none, [pick (bodyOf Tryz.f43) [1, 1, 1, 0, 1, 0]], [(0, [pick (bodyOf Tryz.f43) [1, 1, 1, 1]])], sl 78 [(1, c1 (vL flV items_)), (2, pt 0), (4, pt 1), (6, c1 (vO (flI .i64) 2 l2)), (21, c1 (vi (l2.length : Int))), (22, c1 (vi 0))], [bx [vL flS keys_], bx zV, some (arO false (flI .i64).sz 0 ((flI .i64).f l2))]⟩) ?_
 refine loopE hb 0 (g_value_Map_L1 keys_ items_ l2) (fun s1 => sl 78 [(1, c1 (vL flV items_)), (2, pt 0), (4, pt 1), (6, c1 (vO (flI .i64) 2 s1.2)), (21, c1 (vi (l2.length : Int))), (22, c1 (vi s1.1))]) (fun s1 => [bx [vL flS keys_], bx zV, some (arO false (flI .i64).sz 0 ((flI .i64).f s1.2))]) [1, 2, 4, 6, 21, 22] [] 3 (s0 := (0, l2)) ⟨(by kernel_rfl), (by kernel_rfl), (under_arO _ _ _ _ _), trivial⟩ hq (fun s1 x1 hq hn1 he1 => ?_)
 refine ifE hb 5 [23] [] hq (fun hq _ => ?_) (fun hq _ => ?_)
 refine idxOwnE (flI .i64) hb 13 2 false 0 hq fun x4 hx4 hq => ?_
 refine storeOwnE (flI .i64) hb 0 2 hx4 s1.1 ?_
 refine cellTE hb 2 6 (c := vO (flI .i64) 2 s1.2) (conv_eq (vO_eq (flI .i64) (upd_len s1.2 s1.1 s1.1))) ?_
 exact backE hb 4 [1, 2, 4, 6, 21, 22] [] 3 (hn1 _ (injO hq)) ⟨(by kernel_rfl), (by kernel_rfl), (under_arO _ _ _ _ _), trivial⟩
 refine callSE hb 6 hq (sortI_g hb he 2 false 0 keys_ s1.2 (by kernel_rfl) (by kernel_rfl)) fun l5 hl5 hq => ?_
 refine cellTE hb 1 6 (c := vO (flI .i64) 2 s1.2) (conv_eq (vO_eq (flI .i64) (m_sortI_len hl5))) ?_
 refine lenOwnE (flI .i64) hb 10 2 false 0 l5 ?_
 refine cpE hb 3 [1, 2, 4, 8, 34, 35, 36] (s' := ⟨none, [pick (bodyOf Tryz.f43) [1, 1, 1, 1, 1, 1, 0, 1, 0]], [(2, [pick (bodyOf Tryz.f43) [1, 1, 1, 1, 1, 1, 1]])], sl 78 [(1, c1 (vL flV items_)), (2, pt 0), (4, pt 1), (8, pt 3), (34, c1 (vO (flI .i64) 2 l5)), (35, c1 (vi (l5.length : Int))), (36, c1 (vi 0))], [bx [vL flS keys_], bx zV, some (arO false (flI .i64).sz 0 ((flI .i64).f l5)), bx [vi 5, vi 0, vS eS, vN, vN]]⟩) ?_
 refine ownSE hb 0 3 3 5 (cs := [vi 5, vi 0, vS eS, vN, vN]) (by kernel_rfl) ?_
 refine ownSE hb 0 3 4 1 (cs := [vi 5, vi 0, vS eS, vO flV 4 [], vN]) (by kernel_rfl) ?_
 refine loopE hb 0 (g_value_Map_L2 keys_ items_ l5) (fun s2 => sl 78 [(1, c1 (vL flV items_)), (2, pt 0), (4, pt 1), (8, pt 3), (34, c1 (vO (flI .i64) 2 l5)), (35, c1 (vi (l5.length : Int))), (36, c1 (vi s2.1))]) (fun s2 => [bx [vL flS keys_], bx zV, some (arO false (flI .i64).sz 0 ((flI .i64).f l5)), bx [vi 5, vi 0, vS eS, vO flV 4 s2.2.1, vO flS 5 s2.2.2], some (arO true flV.sz 0 (flV.f s2.2.1)), some (arO true flS.sz 0 (flS.f s2.2.2))]) [1, 2, 4, 8, 34, 35, 36] [] 6 (s0 := (0, [], [])) ⟨(by kernel_rfl), (by kernel_rfl), (under_arO _ _ _ _ _), (by kernel_rfl), (under_arO _ _ _ _ _), (under_arO _ _ _ _ _), trivial⟩ hq (fun s2 x2 hq hn2 he2 => ?_)
 refine ifE hb 5 [37] [] hq (fun hq _ => ?_) (fun hq _ => ?_)
 refine idxOwnE (flI .i64) hb 7 2 false 0 hq fun x7 hx7 hq => ?_
 refine loadOwn1E (flI .i64) hb 0 2 false 0 hx7 rfl ?_
 refine drawE hb mixed 5 13 [] ?_
 refine ifE hb 3 [42, 43] [] hq (fun hq _ => ?_) (fun hq _ => ?_)
 refine idxE hb flS 2 hq fun x9 hx9 hq => ?_
 refine idxOwnE flS hb 5 5 true 0 hq fun x10 hx10 hq => ?_
 refine loadOwn1E flS hb 0 5 true 0 hx10 rfl ?_
 refine cpE hb 4 [1, 2, 4, 8, 10, 34, 35, 36, 55] (s' := ⟨none, [pick (bodyOf Tryz.f43) [1, 1, 1, 1, 1, 1, 0, 1, 0, 0, 1, 1, 0, 0, 1, 0, 1], pick (bodyOf Tryz.f43) [1, 1, 1, 1, 1, 1, 0, 1, 0, 0, 1, 1, 0, 0, 1, 1]], [(3, [pick (bodyOf Tryz.f43) [1, 1, 1, 1, 1, 1, 0, 1, 0, 0, 1, 1, 1], pick (bodyOf Tryz.f43) [1, 1, 1, 1, 1, 1, 0, 1, 0]]), (2, [pick (bodyOf Tryz.f43) [1, 1, 1, 1, 1, 1, 1]])], sl 78 [(1, c1 (vL flV items_)), (2, pt 0), (4, pt 1), (8, pt 3), (10, c1 (vi x7)), (34, c1 (vO (flI .i64) 2 l5)), (35, c1 (vi (l5.length : Int))), (36, c1 (vi s2.1)), (55, c1 (vB (decide (x9 = x10))))], [bx [vL flS keys_], bx zV, some (arO false (flI .i64).sz 0 ((flI .i64).f l5)), bx [vi 5, vi 0, vS eS, vO flV 4 s2.2.1, vO flS 5 s2.2.2], some (arO true flV.sz 0 (flV.f s2.2.1)), some (arO true flS.sz 0 (flS.f s2.2.2))]⟩) ?_
 refine ifE hb 0 [55] [] hq (fun hq _ => ?_) (fun hq _ => ?_)
 exact retE hb 7 (he1 _ ((he2 _ (injO hq)).symm))
 refine drawE hb mixed 3 7 [] ?_
 refine idxE hb flS 4 hq fun x12 hx12 hq => ?_
 refine appOwnE flS hb 3 5 true 0 (flS.one x12) hq fun l13 hl13 hq => ?_
 refine drawE hb mixed 3 8 [] ?_
 refine idxE hb flV 4 hq fun x14 hx14 hq => ?_
 refine callE hb 1 hq (t_value_copied_ok hb he x14) fun y15 hy15 hq => ?_
 refine appOwnE flV hb 2 4 true 0 (flV.one y15) hq fun l16 hl16 hq => ?_
 refine cpE hb 4 [1, 2, 4, 8, 34, 35, 36] (s' := ⟨none, [pick (bodyOf Tryz.f43) [1, 1, 1, 1, 1, 1, 0, 1, 0, 0, 1, 1, 1], pick (bodyOf Tryz.f43) [1, 1, 1, 1, 1, 1, 0, 1, 0]], [(2, [pick (bodyOf Tryz.f43) [1, 1, 1, 1, 1, 1, 1]])], sl 78 [(1, c1 (vL flV items_)), (2, pt 0), (4, pt 1), (8, pt 3), (34, c1 (vO (flI .i64) 2 l5)), (35, c1 (vi (l5.length : Int))), (36, c1 (vi s2.1))], [bx [vL flS keys_], bx zV, some (arO false (flI .i64).sz 0 ((flI .i64).f l5)), bx [vi 5, vi 0, vS eS, vO flV 4 l16, vO flS 5 l13], some (arO true flV.sz 0 (flV.f l16)), some (arO true flS.sz 0 (flS.f l13))]⟩) ?_
 exact backE hb 4 [1, 2, 4, 8, 34, 35, 36] [] 6 (hn2 _ (injO hq)) ⟨(by kernel_rfl), (by kernel_rfl), (under_arO _ _ _ _ _), (by kernel_rfl), (under_arO _ _ _ _ _), (under_arO _ _ _ _ _), trivial⟩
 refine cpE hb 14 [1, 2, 4, 8, 10, 34, 35, 36, 55] (s' := ⟨none, [pick (bodyOf Tryz.f43) [1, 1, 1, 1, 1, 1, 0, 1, 0, 0, 1, 1, 0, 0, 1, 0, 1], pick (bodyOf Tryz.f43) [1, 1, 1, 1, 1, 1, 0, 1, 0, 0, 1, 1, 0, 0, 1, 1]], [(3, [pick (bodyOf Tryz.f43) [1, 1, 1, 1, 1, 1, 0, 1, 0, 0, 1, 1, 1], pick (bodyOf Tryz.f43) [1, 1, 1, 1, 1, 1, 0, 1, 0]]), (2, [pick (bodyOf Tryz.f43) [1, 1, 1, 1, 1, 1, 1]])], sl 78 [(1, c1 (vL flV items_)), (2, pt 0), (4, pt 1), (8, pt 3), (10, c1 (vi x7)), (34, c1 (vO (flI .i64) 2 l5)), (35, c1 (vi (l5.length : Int))), (36, c1 (vi s2.1)), (55, c1 (vB false))], [bx [vL flS keys_], bx zV, some (arO false (flI .i64).sz 0 ((flI .i64).f l5)), bx [vi 5, vi 0, vS eS, vO flV 4 s2.2.1, vO flS 5 s2.2.2], some (arO true flV.sz 0 (flV.f s2.2.1)), some (arO true flS.sz 0 (flS.f s2.2.2))]⟩) ?_
 refine drawE hb mixed 3 7 [] ?_
 refine idxE hb flS 4 hq fun x17 hx17 hq => ?_
 refine appOwnE flS hb 3 5 true 0 (flS.one x17) hq fun l18 hl18 hq => ?_
 refine drawE hb mixed 3 8 [] ?_
 refine idxE hb flV 4 hq fun x19 hx19 hq => ?_
 refine callE hb 1 hq (t_value_copied_ok hb he x19) fun y20 hy20 hq => ?_
 refine appOwnE flV hb 2 4 true 0 (flV.one y20) hq fun l21 hl21 hq => ?_
 refine cpE hb 4 [1, 2, 4, 8, 34, 35, 36] (s' := ⟨none, [pick (bodyOf Tryz.f43) [1, 1, 1, 1, 1, 1, 0, 1, 0, 0, 1, 1, 1], pick (bodyOf Tryz.f43) [1, 1, 1, 1, 1, 1, 0, 1, 0]], [(2, [pick (bodyOf Tryz.f43) [1, 1, 1, 1, 1, 1, 1]])], sl 78 [(1, c1 (vL flV items_)), (2, pt 0), (4, pt 1), (8, pt 3), (34, c1 (vO (flI .i64) 2 l5)), (35, c1 (vi (l5.length : Int))), (36, c1 (vi s2.1))], [bx [vL flS keys_], bx zV, some (arO false (flI .i64).sz 0 ((flI .i64).f l5)), bx [vi 5, vi 0, vS eS, vO flV 4 l21, vO flS 5 l18], some (arO true flV.sz 0 (flV.f l21)), some (arO true flS.sz 0 (flS.f l18))]⟩) ?_
 exact backE hb 4 [1, 2, 4, 8, 34, 35, 36] [] 6 (hn2 _ (injO hq)) ⟨(by kernel_rfl), (by kernel_rfl), (under_arO _ _ _ _ _), (by kernel_rfl), (under_arO _ _ _ _ _), (under_arO _ _ _ _ _), trivial⟩
 refine markE hb 8 4 true (sz := flV.sz) (fr := 0) (cs := flV.f s2.2.1) (by kernel_rfl) (Nat.zero_le _) ?_
 refine cellSE hb 0 1 3 (cs := [vi 5, vi 0, vS eS, vO flV 4 s2.2.1, vO flS 5 s2.2.2]) (c := vO flV 4 s2.2.1) (conv_own flV (nb := true) (id := 4) (xs := s2.2.1) (by kernel_rfl)) (by kernel_rfl) ?_
 refine markE hb 0 5 true (sz := flS.sz) (fr := 0) (cs := flS.f s2.2.2) (by kernel_rfl) (Nat.zero_le _) ?_
 refine cellSE hb 0 1 4 (cs := [vi 5, vi 0, vS eS, vL flV s2.2.1, vO flS 5 s2.2.2]) (c := vO flS 5 s2.2.2) (conv_own flS (nb := true) (id := 5) (xs := s2.2.2) (by kernel_rfl)) (by kernel_rfl) ?_
 exact retE hb 0 (he1 _ ((he2 _ (injO hq)).symm))
noncomputable def g_instances_object  (root_ : ByteArray) (keys_ : List ByteArray) (items_ : List Val) : Option (Val) :=
  (g_value_Map keys_ items_).bind fun y1 => (g_value_Map [root_] [y1.1]).bind fun y2 => some (y2.1)
theorem g_instances_object_ok (hb : Base E E0 G) (he : ∀ w, E w → EnvV w)   (root_ : ByteArray) (keys_ : List ByteArray) (items_ : List Val) : ∀ r_ : Val, g_instances_object root_ keys_ items_ = some r_ →
 Pure E E0 Tryz.prog 35 [.cell (vS root_), .cell (vL flS keys_), .cell (vL flV items_)] (.one (.agg (aV r_))) := by
 refine fnE hb Tryz.func35 rfl fun r_ hq => ?_
 refine callE hb 8 hq (g_value_Map_ok hb he keys_ items_) fun y1 hy1 hq => ?_
 have hp := (g_value_Map_ok hb he [root_] [y1.1])
 simp only [aV, aT, kind_mk, num_mk, str_mk, items_mk, keys_mk, Ty.kind_mk, Ty.elems_mk, Ty.names_mk, vL_one, vL_two, vL_three, vL_four, vL_five, vL_six] at hp
 refine callE hb 13 hq hp fun y2 hy2 hq => ?_
 exact retE hb 12 (injO hq).symm
noncomputable def g_instances_Scope  (rr_ : Int) (v_ : Val) (k_ : KeyG) : Option (Val × Int) :=
  (g_instances_Keys rr_ v_).bind fun y1 => bif (!decide (y1.2 = 0)) then some ((Val.mk 0 0 eS [] []), y1.2) else (g_slices_Contains_Key y1.1 k_).bind fun y3 => bif (!y3) then some ((Val.mk 0 0 eS [] []), 16) else bif (decide (rr_ = 1)) then (g_value_Number k_.num).bind fun y6 => (g_instances_object (⟨#[99, 111, 117, 110, 116]⟩ : ByteArray) [(⟨#[105, 110, 100, 101, 120]⟩ : ByteArray)] [y6]).bind fun y7 => (m_checkE y7).bind fun y8 => bif (!decide (y8 = 0)) then some ((Val.mk 0 0 eS [] []), y8) else some (y7, 0) else bif (decide (rr_ = 2)) then (g_value_String k_.str).bind fun y11 => bif (decide (v_.kind = 5)) then (g_value_Get v_ k_.str).bind fun y13 => (g_value_String k_.str).bind fun y14 => (g_instances_object (⟨#[101, 97, 99, 104]⟩ : ByteArray) [(⟨#[107, 101, 121]⟩ : ByteArray), (⟨#[118, 97, 108, 117, 101]⟩ : ByteArray)] [y14, y13.1]).bind fun y15 => (m_checkE y15).bind fun y16 => bif (!decide (y16 = 0)) then some ((Val.mk 0 0 eS [] []), y16) else some (y15, 0) else (g_value_String k_.str).bind fun y18 => (g_instances_object (⟨#[101, 97, 99, 104]⟩ : ByteArray) [(⟨#[107, 101, 121]⟩ : ByteArray), (⟨#[118, 97, 108, 117, 101]⟩ : ByteArray)] [y18, y11]).bind fun y19 => (m_checkE y19).bind fun y20 => bif (!decide (y20 = 0)) then some ((Val.mk 0 0 eS [] []), y20) else some (y19, 0) else (m_checkE (Val.mk 5 0 eS [] [])).bind fun y22 => bif (!decide (y22 = 0)) then some ((Val.mk 0 0 eS [] []), y22) else some ((Val.mk 5 0 eS [] []), 0)
theorem g_instances_Scope_ok (hb : Base E E0 G) (he : ∀ w, E w → EnvV w)   (rr_ : Int) (v_ : Val) (k_ : KeyG) : ∀ r_ : Val × Int, g_instances_Scope rr_ v_ k_ = some r_ →
 Pure E E0 Tryz.prog 14 [.cell (vi rr_), .agg (aV v_), .agg [vi k_.kind, vi k_.num, vS k_.str]] (.tup [.agg (aV r_.1), .cell (vi r_.2)]) := by
 refine fnE hb Tryz.func14 rfl fun r_ hq => ?_
 refine callE hb 11 hq (g_instances_Keys_ok hb he rr_ v_) fun y1 hy1 hq => ?_
 refine ifE hb 12 [20] [] hq (fun hq _ => ?_) (fun hq _ => ?_)
 exact retE hb 8 (injO hq).symm
 refine callE hb 7 hq (g_slices_Contains_Key_ok hb he y1.1 k_) fun y3 hy3 hq => ?_
 refine ifE hb 2 [26] [] hq (fun hq _ => ?_) (fun hq _ => ?_)
 exact retE hb 7 (injO hq).symm
 refine ifE hb 19 [30, 31] [] hq (fun hq _ => ?_) (fun hq _ => ?_)
 refine callE hb 5 hq (g_value_Number_ok hb he k_.num) fun y6 hy6 hq => ?_
 have hp := (g_instances_object_ok hb he (⟨#[99, 111, 117, 110, 116]⟩ : ByteArray) [(⟨#[105, 110, 100, 101, 120]⟩ : ByteArray)] [y6])
 simp only [aV, aT, kind_mk, num_mk, str_mk, items_mk, keys_mk, Ty.kind_mk, Ty.elems_mk, Ty.names_mk, vL_one, vL_two, vL_three, vL_four, vL_five, vL_six] at hp
 refine callE hb 1 hq hp fun y7 hy7 hq => ?_
 refine cpE hb 5 [6, 10] (s' := ⟨none, [pick (bodyOf Tryz.f14) [1, 1, 1, 1, 1, 1, 0, 0], pick (bodyOf Tryz.f14) [1, 1, 1, 1, 1, 1, 0, 1], pick (bodyOf Tryz.f14) [1, 1, 1, 1, 1, 1, 1]], [], sl 67 [(6, pt 2), (10, pt 3)], [bx (aV v_), bx [vi k_.kind, vi k_.num, vS k_.str], bx zV, bx (aV y7)]⟩) ?_
 refine callE hb 2 hq (pCheck_g hb he y7) fun y8 hy8 hq => ?_
 refine ifE hb 7 [63] [] hq (fun hq _ => ?_) (fun hq _ => ?_)
 exact retE hb 8 (injO hq).symm
 exact retE hb 8 (injO hq).symm
 refine ifE hb 6 [38, 39] [] hq (fun hq _ => ?_) (fun hq _ => ?_)
 refine callE hb 5 hq (g_value_String_ok hb he k_.str) fun y11 hy11 hq => ?_
 refine cpE hb 5 [4, 5, 6, 10, 11] (s' := ⟨none, [pick (bodyOf Tryz.f14) [1, 1, 1, 1, 1, 0, 1, 0, 1, 1, 1, 0, 1, 0, 0], pick (bodyOf Tryz.f14) [1, 1, 1, 1, 1, 0, 1, 0, 1, 1, 1, 0, 1, 0, 1], pick (bodyOf Tryz.f14) [1, 1, 1, 1, 1, 0, 1, 0, 1, 1, 1, 0, 1, 1]], [(0, [pick (bodyOf Tryz.f14) [1, 1, 1, 1, 1, 1]])], sl 67 [(4, pt 0), (5, pt 1), (6, pt 2), (10, pt 3), (11, pt 4)], [bx (aV v_), bx [vi k_.kind, vi k_.num, vS k_.str], bx zV, bx [vi 5, vi 0, vS eS, vN, vN], bx (aV y11)]⟩) ?_
 refine ifE hb 5 [45] [] hq (fun hq _ => ?_) (fun hq _ => ?_)
 refine callE hb 5 hq (g_value_Get_ok hb he v_ k_.str) fun y13 hy13 hq => ?_
 refine drawE hb mixed 5 6 [] ?_
 refine callE hb 3 hq (g_value_String_ok hb he k_.str) fun y14 hy14 hq => ?_
 have hp := (g_instances_object_ok hb he (⟨#[101, 97, 99, 104]⟩ : ByteArray) [(⟨#[107, 101, 121]⟩ : ByteArray), (⟨#[118, 97, 108, 117, 101]⟩ : ByteArray)] [y14, y13.1])
 simp only [aV, aT, kind_mk, num_mk, str_mk, items_mk, keys_mk, Ty.kind_mk, Ty.elems_mk, Ty.names_mk, vL_one, vL_two, vL_three, vL_four, vL_five, vL_six] at hp
 refine callE hb 3 hq hp fun y15 hy15 hq => ?_
 refine callE hb 7 hq (pCheck_g hb he y15) fun y16 hy16 hq => ?_
 refine ifE hb 7 [63] [] hq (fun hq _ => ?_) (fun hq _ => ?_)
 refine cpE hb 2 [6, 12] (s' := ⟨none, [pick (bodyOf Tryz.f14) [1, 1, 1, 1, 1, 1, 0, 1, 1, 0, 0], pick (bodyOf Tryz.f14) [1, 1, 1, 1, 1, 1, 0, 1, 1, 0, 1], pick (bodyOf Tryz.f14) [1, 1, 1, 1, 1, 1, 1]], [], sl 67 [(6, pt 2), (12, c1 (vi y16))], [bx (aV v_), bx [vi k_.kind, vi k_.num, vS k_.str], bx zV, bx (aV y15), bx (aV y13.1)]⟩) ?_
 exact retE hb 6 (injO hq).symm
 refine cpE hb 3 [6, 10] (s' := ⟨none, [pick (bodyOf Tryz.f14) [1, 1, 1, 1, 1, 1, 1, 0], pick (bodyOf Tryz.f14) [1, 1, 1, 1, 1, 1, 1, 1]], [], sl 67 [(6, pt 2), (10, pt 3)], [bx (aV v_), bx [vi k_.kind, vi k_.num, vS k_.str], bx zV, bx (aV y15), bx (aV y13.1)]⟩) ?_
 exact retE hb 5 (injO hq).symm
 refine drawE hb mixed 2 6 [] ?_
 refine callE hb 3 hq (g_value_String_ok hb he k_.str) fun y18 hy18 hq => ?_
 have hp := (g_instances_object_ok hb he (⟨#[101, 97, 99, 104]⟩ : ByteArray) [(⟨#[107, 101, 121]⟩ : ByteArray), (⟨#[118, 97, 108, 117, 101]⟩ : ByteArray)] [y18, y11])
 simp only [aV, aT, kind_mk, num_mk, str_mk, items_mk, keys_mk, Ty.kind_mk, Ty.elems_mk, Ty.names_mk, vL_one, vL_two, vL_three, vL_four, vL_five, vL_six] at hp
 refine callE hb 3 hq hp fun y19 hy19 hq => ?_
 refine callE hb 7 hq (pCheck_g hb he y19) fun y20 hy20 hq => ?_
 refine ifE hb 7 [63] [] hq (fun hq _ => ?_) (fun hq _ => ?_)
 exact retE hb 8 (injO hq).symm
 exact retE hb 8 (injO hq).symm
 refine callE hb 7 hq (pCheck_g hb he (Val.mk 5 0 eS [] [])) fun y22 hy22 hq => ?_
 refine cpE hb 3 [6, 10, 12] (s' := ⟨none, [pick (bodyOf Tryz.f14) [1, 1, 1, 1, 1, 1, 0, 1, 0], pick (bodyOf Tryz.f14) [1, 1, 1, 1, 1, 1, 0, 1, 1], pick (bodyOf Tryz.f14) [1, 1, 1, 1, 1, 1, 1]], [], sl 67 [(6, pt 2), (10, pt 3), (12, c1 (vi y22))], [bx (aV v_), bx [vi k_.kind, vi k_.num, vS k_.str], bx zV, bx [vi 5, vi 0, vS eS, vN, vN]]⟩) ?_
 refine ifE hb 4 [63] [] hq (fun hq _ => ?_) (fun hq _ => ?_)
 exact retE hb 8 (injO hq).symm
 exact retE hb 8 (injO hq).symm
noncomputable def g_slices_Equal_Key_L1 (s1_ : List KeyG) (s2_ : List KeyG) (s1 : Int) : Option ((Int) ⊕ (Bool)) :=
  bif (decide (s1 < (s1_.length : Int))) then (idx s1_ s1).bind fun x3 => (idx s2_ s1).bind fun x4 => bif (!(decide ((x3.kind : Int) = x4.kind) && (decide ((x3.num : Int) = x4.num) && (decide (x3.str = x4.str) && true)))) then some (.inr (false)) else some (.inl (IntKind.i64.wrap (s1 + 1))) else some (.inr (true))
noncomputable def g_slices_Equal_Key  (s1_ : List KeyG) (s2_ : List KeyG) : Option (Bool) :=
  bif (!decide ((s1_.length : Int) = (s2_.length : Int))) then some (false) else loopO (g_slices_Equal_Key_L1 s1_ s2_) 0
theorem g_slices_Equal_Key_ok (hb : Base E E0 G) (he : ∀ w, E w → EnvV w)   (s1_ : List KeyG) (s2_ : List KeyG) : ∀ r_ : Bool, g_slices_Equal_Key s1_ s2_ = some r_ →
 Pure E E0 Tryz.prog 68 [.cell (vL flKeyG s1_), .cell (vL flKeyG s2_)] (c1 (vB r_)) := by
 refine fnE hb Tryz.func68 rfl fun r_ hq => ?_
 refine ifE hb 13 [10] [] hq (fun hq _ => ?_) (fun hq _ => ?_)
 exact retE hb 5 (injO hq).symm
 refine loopE hb 10 (g_slices_Equal_Key_L1 s1_ s2_) (fun s1 => sl 26 [(0, c1 (vL flKeyG s1_)), (1, c1 (vL flKeyG s2_)), (12, c1 (vi (s1_.length : Int))), (13, c1 (vi s1))]) (fun s1 => []) [0, 1, 12, 13] [] 0 (s0 := 0) trivial hq (fun s1 x1 hq hn1 he1 => ?_)
 refine ifE hb 5 [14] [] hq (fun hq _ => ?_) (fun hq _ => ?_)
 refine drawE hb mixed 10 8 [] ?_
 refine idxE hb flKeyG 2 hq fun x3 hx3 hq => ?_
 refine idxE hb flKeyG 3 hq fun x4 hx4 hq => ?_
 refine ifE hb 4 [24] [] hq (fun hq _ => ?_) (fun hq _ => ?_)
 exact retE hb 5 (he1 _ (injO hq))
 exact backE hb 7 [0, 1, 12, 13] [] 0 (hn1 _ (injO hq)) trivial
 exact retE hb 6 (he1 _ (injO hq))
noncomputable def g_instances_expected_L1 (rr_ : Int) (keys_ : List KeyG) (s1 : Int) : Option ((Int) ⊕ (Bool)) :=
  bif (decide (s1 < (keys_.length : Int))) then (idx keys_ s1).bind fun x4 => bif (decide (x4.kind = 2)) then bif (decide (x4.num = 0)) then bif (decide (s1 = 0)) then bif (decide (rr_ = 1)) then bif (!(decide ((x4.kind : Int) = 1) && (decide ((x4.num : Int) = s1) && (decide (x4.str = eS) && true)))) then some (.inr (false)) else bif (decide (rr_ = 2)) then some (.inl (IntKind.i64.wrap (s1 + 1))) else some (.inl (IntKind.i64.wrap (s1 + 1))) else bif (decide (rr_ = 2)) then some (.inl (IntKind.i64.wrap (s1 + 1))) else some (.inl (IntKind.i64.wrap (s1 + 1))) else (idx keys_ (IntKind.i64.wrap (s1 - 1))).bind fun x12 => bif (decide (rr_ = 1)) then bif (!(decide ((x4.kind : Int) = 1) && (decide ((x4.num : Int) = s1) && (decide (x4.str = eS) && true)))) then some (.inr (false)) else bif (decide (rr_ = 2)) then bif (!(Op.bytesLess x12.str.toList x4.str.toList)) then some (.inr (false)) else some (.inl (IntKind.i64.wrap (s1 + 1))) else some (.inl (IntKind.i64.wrap (s1 + 1))) else bif (decide (rr_ = 2)) then bif (!(Op.bytesLess x12.str.toList x4.str.toList)) then some (.inr (false)) else some (.inl (IntKind.i64.wrap (s1 + 1))) else some (.inl (IntKind.i64.wrap (s1 + 1))) else bif (decide (rr_ = 1)) then bif (!(decide ((x4.kind : Int) = 1) && (decide ((x4.num : Int) = s1) && (decide (x4.str = eS) && true)))) then some (.inr (false)) else bif (decide (rr_ = 2)) then some (.inr (false)) else some (.inl (IntKind.i64.wrap (s1 + 1))) else bif (decide (rr_ = 2)) then some (.inr (false)) else some (.inl (IntKind.i64.wrap (s1 + 1))) else bif (decide (rr_ = 1)) then bif (!(decide ((x4.kind : Int) = 1) && (decide ((x4.num : Int) = s1) && (decide (x4.str = eS) && true)))) then some (.inr (false)) else bif (decide (rr_ = 2)) then some (.inr (false)) else some (.inl (IntKind.i64.wrap (s1 + 1))) else bif (decide (rr_ = 2)) then some (.inr (false)) else some (.inl (IntKind.i64.wrap (s1 + 1))) else bif (decide (rr_ = 1)) then some (.inr (true)) else some (.inr (decide (rr_ = 2)))
noncomputable def g_instances_expected  (rr_ : Int) (keys_ : List KeyG) : Option (Bool) :=
  bif (decide (rr_ = 0)) then (g_slices_Equal_Key keys_ [(KeyG.mk 0 0 eS)]).bind fun y2 => some (y2) else loopO (g_instances_expected_L1 rr_ keys_) 0
theorem g_instances_expected_ok (hb : Base E E0 G) (he : ∀ w, E w → EnvV w)   (rr_ : Int) (keys_ : List KeyG) : ∀ r_ : Bool, g_instances_expected rr_ keys_ = some r_ →
 Pure E E0 Tryz.prog 41 [.cell (vi rr_), .cell (vL flKeyG keys_)] (c1 (vB r_)) := by
 refine fnE hb Tryz.func41 rfl fun r_ hq => ?_
 refine ifE hb 10 [10] [] hq (fun hq _ => ?_) (fun hq _ => ?_)
 have hp := (g_slices_Equal_Key_ok hb he keys_ [(KeyG.mk 0 0 eS)])
 simp only [aV, aT, kind_mk, num_mk, str_mk, items_mk, keys_mk, Ty.kind_mk, Ty.elems_mk, Ty.names_mk, vL_one, vL_two, vL_three, vL_four, vL_five, vL_six] at hp
 refine callE hb 6 hq hp fun y2 hy2 hq => ?_
 exact retE hb 2 (injO hq).symm
 refine loopE hb 10 (g_instances_expected_L1 rr_ keys_) (fun s1 => sl 70 [(0, c1 (vi rr_)), (1, c1 (vL flKeyG keys_)), (15, c1 (vL flKeyG keys_)), (16, c1 (vi (keys_.length : Int))), (17, c1 (vi s1))]) (fun s1 => []) [0, 1, 15, 16, 17] [] 0 (s0 := 0) trivial hq (fun s1 x1 hq hn1 he1 => ?_)
 refine ifE hb 5 [18] [] hq (fun hq _ => ?_) (fun hq _ => ?_)
 refine idxE hb flKeyG 7 hq fun x4 hx4 hq => ?_
 refine drawE hb mixed 14 20 [] ?_
 refine ifE hb 4 [28, 29] [] hq (fun hq _ => ?_) (fun hq _ => ?_)
 refine ifE hb 5 [32, 33, 34] [] hq (fun hq _ => ?_) (fun hq _ => ?_)
 refine ifE hb 3 [36, 37] [] hq (fun hq _ => ?_) (fun hq _ => ?_)
 refine cpE hb 15 [0, 1, 7, 8, 15, 16, 17] (s' := ⟨none, [pick (bodyOf Tryz.f41) [1, 1, 0, 1, 0, 0, 1, 1, 0, 0, 1, 1, 1, 0], pick (bodyOf Tryz.f41) [1, 1, 0, 1, 0, 0, 1, 1, 0, 0, 1, 1, 1, 1]], [(1, [pick (bodyOf Tryz.f41) [1, 1, 0, 1, 0, 0, 1, 1, 1], pick (bodyOf Tryz.f41) [1, 1, 0, 1, 0]]), (0, [pick (bodyOf Tryz.f41) [1, 1, 1]])], sl 70 [(0, c1 (vi rr_)), (1, c1 (vL flKeyG keys_)), (7, c1 (vB (decide ((x4.kind : Int) = 1) && (decide ((x4.num : Int) = s1) && (decide (x4.str = eS) && true))))), (8, c1 (vB true)), (15, c1 (vL flKeyG keys_)), (16, c1 (vi (keys_.length : Int))), (17, c1 (vi s1))], [bx [vi x4.kind, vi x4.num, vS x4.str]]⟩) ?_
 refine ifE hb 4 [50, 51] [] hq (fun hq _ => ?_) (fun hq _ => ?_)
 refine ifE hb 4 [53, 54, 55] [] hq (fun hq _ => ?_) (fun hq _ => ?_)
 exact retE hb 13 (he1 _ (injO hq))
 refine ifE hb 3 [57, 58] [] hq (fun hq _ => ?_) (fun hq _ => ?_)
 exact backE hb 12 [0, 1, 15, 16, 17] [] 0 (hn1 _ (injO hq)) trivial
 exact backE hb 12 [0, 1, 15, 16, 17] [] 0 (hn1 _ (injO hq)) trivial
 refine ifE hb 7 [57, 58] [] hq (fun hq _ => ?_) (fun hq _ => ?_)
 exact backE hb 12 [0, 1, 15, 16, 17] [] 0 (hn1 _ (injO hq)) trivial
 exact backE hb 12 [0, 1, 15, 16, 17] [] 0 (hn1 _ (injO hq)) trivial
 refine idxE hb flKeyG 3 hq fun x12 hx12 hq => ?_
 refine cpE hb 11 [0, 1, 7, 8, 15, 16, 17] (s' := ⟨none, [pick (bodyOf Tryz.f41) [1, 1, 0, 1, 0, 0, 1, 1, 0, 0, 1, 1, 1, 0], pick (bodyOf Tryz.f41) [1, 1, 0, 1, 0, 0, 1, 1, 0, 0, 1, 1, 1, 1]], [(1, [pick (bodyOf Tryz.f41) [1, 1, 0, 1, 0, 0, 1, 1, 1], pick (bodyOf Tryz.f41) [1, 1, 0, 1, 0]]), (0, [pick (bodyOf Tryz.f41) [1, 1, 1]])], sl 70 [(0, c1 (vi rr_)), (1, c1 (vL flKeyG keys_)), (7, c1 (vB (decide ((x4.kind : Int) = 1) && (decide ((x4.num : Int) = s1) && (decide (x4.str = eS) && true))))), (8, c1 (vB (Op.bytesLess x12.str.toList x4.str.toList))), (15, c1 (vL flKeyG keys_)), (16, c1 (vi (keys_.length : Int))), (17, c1 (vi s1))], [bx [vi x4.kind, vi x4.num, vS x4.str]]⟩) ?_
 refine ifE hb 4 [50, 51] [] hq (fun hq _ => ?_) (fun hq _ => ?_)
 refine ifE hb 4 [53, 54, 55] [] hq (fun hq _ => ?_) (fun hq _ => ?_)
 exact retE hb 13 (he1 _ (injO hq))
 refine ifE hb 3 [57, 58] [] hq (fun hq _ => ?_) (fun hq _ => ?_)
 refine ifE hb 5 [60, 61, 62] [] hq (fun hq _ => ?_) (fun hq _ => ?_)
 exact retE hb 5 (he1 _ (injO hq))
 exact backE hb 7 [0, 1, 15, 16, 17] [] 0 (hn1 _ (injO hq)) trivial
 exact backE hb 12 [0, 1, 15, 16, 17] [] 0 (hn1 _ (injO hq)) trivial
 refine ifE hb 7 [57, 58] [] hq (fun hq _ => ?_) (fun hq _ => ?_)
 refine ifE hb 5 [60, 61, 62] [] hq (fun hq _ => ?_) (fun hq _ => ?_)
 exact retE hb 5 (he1 _ (injO hq))
 exact backE hb 7 [0, 1, 15, 16, 17] [] 0 (hn1 _ (injO hq)) trivial
 exact backE hb 12 [0, 1, 15, 16, 17] [] 0 (hn1 _ (injO hq)) trivial
 refine ifE hb 22 [50, 51] [] hq (fun hq _ => ?_) (fun hq _ => ?_)
 refine ifE hb 4 [53, 54, 55] [] hq (fun hq _ => ?_) (fun hq _ => ?_)
 refine cpE hb 8 [0, 1, 15, 16, 17, 62] (s' := ⟨none, [pick (bodyOf Tryz.f41) [1, 1, 0, 1, 0, 0, 1, 1, 0, 0, 1, 1, 1, 1]], [(1, [pick (bodyOf Tryz.f41) [1, 1, 0, 1, 0, 0, 1, 1, 1], pick (bodyOf Tryz.f41) [1, 1, 0, 1, 0]]), (0, [pick (bodyOf Tryz.f41) [1, 1, 1]])], sl 70 [(0, c1 (vi rr_)), (1, c1 (vL flKeyG keys_)), (15, c1 (vL flKeyG keys_)), (16, c1 (vi (keys_.length : Int))), (17, c1 (vi s1)), (62, c1 (vB true))], [bx [vi x4.kind, vi x4.num, vS x4.str]]⟩) ?_
 exact retE hb 5 (he1 _ (injO hq))
 refine ifE hb 3 [57, 58] [] hq (fun hq _ => ?_) (fun hq _ => ?_)
 refine cpE hb 5 [0, 1, 15, 16, 17, 62] (s' := ⟨none, [pick (bodyOf Tryz.f41) [1, 1, 0, 1, 0, 0, 1, 1, 0, 0, 1, 1, 1, 1]], [(1, [pick (bodyOf Tryz.f41) [1, 1, 0, 1, 0, 0, 1, 1, 1], pick (bodyOf Tryz.f41) [1, 1, 0, 1, 0]]), (0, [pick (bodyOf Tryz.f41) [1, 1, 1]])], sl 70 [(0, c1 (vi rr_)), (1, c1 (vL flKeyG keys_)), (15, c1 (vL flKeyG keys_)), (16, c1 (vi (keys_.length : Int))), (17, c1 (vi s1)), (62, c1 (vB true))], [bx [vi x4.kind, vi x4.num, vS x4.str]]⟩) ?_
 exact retE hb 5 (he1 _ (injO hq))
 refine cpE hb 5 [0, 1, 15, 16, 17, 62] (s' := ⟨none, [pick (bodyOf Tryz.f41) [1, 1, 0, 1, 0, 0, 1, 1, 0, 0, 1, 1, 1, 1]], [(1, [pick (bodyOf Tryz.f41) [1, 1, 0, 1, 0, 0, 1, 1, 1], pick (bodyOf Tryz.f41) [1, 1, 0, 1, 0]]), (0, [pick (bodyOf Tryz.f41) [1, 1, 1]])], sl 70 [(0, c1 (vi rr_)), (1, c1 (vL flKeyG keys_)), (15, c1 (vL flKeyG keys_)), (16, c1 (vi (keys_.length : Int))), (17, c1 (vi s1)), (62, c1 (vB false))], [bx [vi x4.kind, vi x4.num, vS x4.str]]⟩) ?_
 exact backE hb 7 [0, 1, 15, 16, 17] [] 0 (hn1 _ (injO hq)) trivial
 refine ifE hb 7 [57, 58] [] hq (fun hq _ => ?_) (fun hq _ => ?_)
 refine cpE hb 5 [0, 1, 15, 16, 17, 62] (s' := ⟨none, [pick (bodyOf Tryz.f41) [1, 1, 0, 1, 0, 0, 1, 1, 0, 0, 1, 1, 1, 1]], [(1, [pick (bodyOf Tryz.f41) [1, 1, 0, 1, 0, 0, 1, 1, 1], pick (bodyOf Tryz.f41) [1, 1, 0, 1, 0]]), (0, [pick (bodyOf Tryz.f41) [1, 1, 1]])], sl 70 [(0, c1 (vi rr_)), (1, c1 (vL flKeyG keys_)), (15, c1 (vL flKeyG keys_)), (16, c1 (vi (keys_.length : Int))), (17, c1 (vi s1)), (62, c1 (vB true))], [bx [vi x4.kind, vi x4.num, vS x4.str]]⟩) ?_
 exact retE hb 5 (he1 _ (injO hq))
 refine cpE hb 5 [0, 1, 15, 16, 17, 62] (s' := ⟨none, [pick (bodyOf Tryz.f41) [1, 1, 0, 1, 0, 0, 1, 1, 0, 0, 1, 1, 1, 1]], [(1, [pick (bodyOf Tryz.f41) [1, 1, 0, 1, 0, 0, 1, 1, 1], pick (bodyOf Tryz.f41) [1, 1, 0, 1, 0]]), (0, [pick (bodyOf Tryz.f41) [1, 1, 1]])], sl 70 [(0, c1 (vi rr_)), (1, c1 (vL flKeyG keys_)), (15, c1 (vL flKeyG keys_)), (16, c1 (vi (keys_.length : Int))), (17, c1 (vi s1)), (62, c1 (vB false))], [bx [vi x4.kind, vi x4.num, vS x4.str]]⟩) ?_
 exact backE hb 7 [0, 1, 15, 16, 17] [] 0 (hn1 _ (injO hq)) trivial
 refine ifE hb 27 [50, 51] [] hq (fun hq _ => ?_) (fun hq _ => ?_)
 refine ifE hb 4 [53, 54, 55] [] hq (fun hq _ => ?_) (fun hq _ => ?_)
 refine cpE hb 8 [0, 1, 15, 16, 17, 62] (s' := ⟨none, [pick (bodyOf Tryz.f41) [1, 1, 0, 1, 0, 0, 1, 1, 0, 0, 1, 1, 1, 1]], [(1, [pick (bodyOf Tryz.f41) [1, 1, 0, 1, 0, 0, 1, 1, 1], pick (bodyOf Tryz.f41) [1, 1, 0, 1, 0]]), (0, [pick (bodyOf Tryz.f41) [1, 1, 1]])], sl 70 [(0, c1 (vi rr_)), (1, c1 (vL flKeyG keys_)), (15, c1 (vL flKeyG keys_)), (16, c1 (vi (keys_.length : Int))), (17, c1 (vi s1)), (62, c1 (vB true))], [bx [vi x4.kind, vi x4.num, vS x4.str]]⟩) ?_
 exact retE hb 5 (he1 _ (injO hq))
 refine ifE hb 3 [57, 58] [] hq (fun hq _ => ?_) (fun hq _ => ?_)
 refine cpE hb 5 [0, 1, 15, 16, 17, 62] (s' := ⟨none, [pick (bodyOf Tryz.f41) [1, 1, 0, 1, 0, 0, 1, 1, 0, 0, 1, 1, 1, 1]], [(1, [pick (bodyOf Tryz.f41) [1, 1, 0, 1, 0, 0, 1, 1, 1], pick (bodyOf Tryz.f41) [1, 1, 0, 1, 0]]), (0, [pick (bodyOf Tryz.f41) [1, 1, 1]])], sl 70 [(0, c1 (vi rr_)), (1, c1 (vL flKeyG keys_)), (15, c1 (vL flKeyG keys_)), (16, c1 (vi (keys_.length : Int))), (17, c1 (vi s1)), (62, c1 (vB true))], [bx [vi x4.kind, vi x4.num, vS x4.str]]⟩) ?_
 exact retE hb 5 (he1 _ (injO hq))
 refine cpE hb 5 [0, 1, 15, 16, 17, 62] (s' := ⟨none, [pick (bodyOf Tryz.f41) [1, 1, 0, 1, 0, 0, 1, 1, 0, 0, 1, 1, 1, 1]], [(1, [pick (bodyOf Tryz.f41) [1, 1, 0, 1, 0, 0, 1, 1, 1], pick (bodyOf Tryz.f41) [1, 1, 0, 1, 0]]), (0, [pick (bodyOf Tryz.f41) [1, 1, 1]])], sl 70 [(0, c1 (vi rr_)), (1, c1 (vL flKeyG keys_)), (15, c1 (vL flKeyG keys_)), (16, c1 (vi (keys_.length : Int))), (17, c1 (vi s1)), (62, c1 (vB false))], [bx [vi x4.kind, vi x4.num, vS x4.str]]⟩) ?_
 exact backE hb 7 [0, 1, 15, 16, 17] [] 0 (hn1 _ (injO hq)) trivial
 refine ifE hb 7 [57, 58] [] hq (fun hq _ => ?_) (fun hq _ => ?_)
 refine cpE hb 5 [0, 1, 15, 16, 17, 62] (s' := ⟨none, [pick (bodyOf Tryz.f41) [1, 1, 0, 1, 0, 0, 1, 1, 0, 0, 1, 1, 1, 1]], [(1, [pick (bodyOf Tryz.f41) [1, 1, 0, 1, 0, 0, 1, 1, 1], pick (bodyOf Tryz.f41) [1, 1, 0, 1, 0]]), (0, [pick (bodyOf Tryz.f41) [1, 1, 1]])], sl 70 [(0, c1 (vi rr_)), (1, c1 (vL flKeyG keys_)), (15, c1 (vL flKeyG keys_)), (16, c1 (vi (keys_.length : Int))), (17, c1 (vi s1)), (62, c1 (vB true))], [bx [vi x4.kind, vi x4.num, vS x4.str]]⟩) ?_
 exact retE hb 5 (he1 _ (injO hq))
 refine cpE hb 5 [0, 1, 15, 16, 17, 62] (s' := ⟨none, [pick (bodyOf Tryz.f41) [1, 1, 0, 1, 0, 0, 1, 1, 0, 0, 1, 1, 1, 1]], [(1, [pick (bodyOf Tryz.f41) [1, 1, 0, 1, 0, 0, 1, 1, 1], pick (bodyOf Tryz.f41) [1, 1, 0, 1, 0]]), (0, [pick (bodyOf Tryz.f41) [1, 1, 1]])], sl 70 [(0, c1 (vi rr_)), (1, c1 (vL flKeyG keys_)), (15, c1 (vL flKeyG keys_)), (16, c1 (vi (keys_.length : Int))), (17, c1 (vi s1)), (62, c1 (vB false))], [bx [vi x4.kind, vi x4.num, vS x4.str]]⟩) ?_
 exact backE hb 7 [0, 1, 15, 16, 17] [] 0 (hn1 _ (injO hq)) trivial
 refine ifE hb 7 [65, 66] [] hq (fun hq _ => ?_) (fun hq _ => ?_)
 exact retE hb 5 (he1 _ (injO hq))
 exact retE hb 5 (he1 _ (injO hq))
noncomputable def g_value_List  (items_ : List Val) : Option (Val) :=
  (t_value_copies items_).bind fun y1 => some (Val.mk 4 0 eS y1 [])
theorem g_value_List_ok (hb : Base E E0 G) (he : ∀ w, E w → EnvV w)   (items_ : List Val) : ∀ r_ : Val, g_value_List items_ = some r_ →
 Pure E E0 Tryz.prog 42 [.cell (vL flV items_)] (.one (.agg (aV r_))) := by
 refine fnE hb Tryz.func42 rfl fun r_ hq => ?_
 refine callE hb 7 hq (t_value_copies_ok hb he items_) fun y1 hy1 hq => ?_
 exact retE hb 3 (injO hq).symm
noncomputable def g_instances_Collect_L1 (keys_ : List KeyG) (items_ : List Val) (s1 : Int × List ByteArray) : Option ((Int × List ByteArray) ⊕ (Val × Int)) :=
  bif (decide (s1.1 < (keys_.length : Int))) then (idx keys_ s1.1).bind fun x9 => (app 16 s1.2 [x9.str]).bind fun l10 => some (.inl ((IntKind.i64.wrap (s1.1 + 1)), l10)) else (g_value_Map s1.2 items_).bind fun y11 => (m_checkE y11.1).bind fun y12 => bif (!decide (y12 = 0)) then some (.inr ((Val.mk 0 0 eS [] []), y12)) else some (.inr (y11.1, 0))
noncomputable def g_instances_Collect  (rr_ : Int) (keys_ : List KeyG) (items_ : List Val) : Option (Val × Int) :=
  bif (!decide ((keys_.length : Int) = (items_.length : Int))) then some ((Val.mk 0 0 eS [] []), 1) else (g_instances_expected rr_ keys_).bind fun y2 => bif (!y2) then some ((Val.mk 0 0 eS [] []), 1) else (g_value_List items_).bind fun y4 => bif (decide (rr_ = 0)) then (idx y4.items 0).bind fun x6 => some (x6, 0) else bif (decide (rr_ = 2)) then loopO (g_instances_Collect_L1 keys_ items_) (0, []) else (m_checkE y4).bind fun y14 => bif (!decide (y14 = 0)) then some ((Val.mk 0 0 eS [] []), y14) else some (y4, 0)
theorem g_instances_Collect_ok (hb : Base E E0 G) (he : ∀ w, E w → EnvV w)   (rr_ : Int) (keys_ : List KeyG) (items_ : List Val) : ∀ r_ : Val × Int, g_instances_Collect rr_ keys_ items_ = some r_ →
 Pure E E0 Tryz.prog 17 [.cell (vi rr_), .cell (vL flKeyG keys_), .cell (vL flV items_)] (.tup [.agg (aV r_.1), .cell (vi r_.2)]) := by
 refine fnE hb Tryz.func17 rfl fun r_ hq => ?_
 refine ifE hb 14 [18, 19] [] hq (fun hq _ => ?_) (fun hq _ => ?_)
 exact retE hb 13 (injO hq).symm
 refine callE hb 2 hq (g_instances_expected_ok hb he rr_ keys_) fun y2 hy2 hq => ?_
 refine ifE hb 3 [23, 24] [] hq (fun hq _ => ?_) (fun hq _ => ?_)
 exact retE hb 7 (injO hq).symm
 refine callE hb 5 hq (g_value_List_ok hb he items_) fun y4 hy4 hq => ?_
 refine ifE hb 9 [29] [] hq (fun hq _ => ?_) (fun hq _ => ?_)
 refine idxE hb flV 5 hq fun x6 hx6 hq => ?_
 exact retE hb 4 (injO hq).symm
 refine ifE hb 14 [36] [] hq (fun hq _ => ?_) (fun hq _ => ?_)
 refine cpE hb 13 [2, 6, 9, 10, 37, 38, 39] (s' := ⟨none, [pick (bodyOf Tryz.f17) [1, 1, 1, 1, 1, 0, 1, 0, 1, 0, 1, 0]], [(0, [pick (bodyOf Tryz.f17) [1, 1, 1, 1, 1, 0, 1, 0, 1, 1], pick (bodyOf Tryz.f17) [1, 1, 1, 1, 1, 1]])], sl 62 [(2, c1 (vL flV items_)), (6, pt 0), (9, pt 2), (10, c1 (vN)), (37, c1 (vL flKeyG keys_)), (38, c1 (vi (keys_.length : Int))), (39, c1 (vi 0))], [bx zV, bx (aV y4), bx (aV y4)]⟩) ?_
 refine ownTE hb 0 10 1 ?_
 refine loopE hb 0 (g_instances_Collect_L1 keys_ items_) (fun s1 => sl 62 [(2, c1 (vL flV items_)), (6, pt 0), (9, pt 2), (10, c1 (vO flS 3 s1.2)), (37, c1 (vL flKeyG keys_)), (38, c1 (vi (keys_.length : Int))), (39, c1 (vi s1.1))]) (fun s1 => [bx zV, none, bx (aV y4), some (arO true flS.sz 0 (flS.f s1.2))]) [2, 6, 9, 10, 37, 38, 39] [1] 4 (s0 := (0, [])) ⟨(by kernel_rfl), rfl, (by kernel_rfl), (under_arO _ _ _ _ _), trivial⟩ hq (fun s1 x1 hq hn1 he1 => ?_)
 refine ifE hb 5 [40] [] hq (fun hq _ => ?_) (fun hq _ => ?_)
 refine idxE hb flKeyG 6 hq fun x9 hx9 hq => ?_
 refine appOwnE flS hb 9 3 true 0 (flS.one x9.str) hq fun l10 hl10 hq => ?_
 exact backE hb 7 [2, 6, 9, 10, 37, 38, 39] [] 4 (hn1 _ (injO hq)) ⟨(by kernel_rfl), rfl, (by kernel_rfl), (under_arO _ _ _ _ _), trivial⟩
 refine markE hb 2 3 true (sz := flS.sz) (fr := 0) (cs := flS.f s1.2) (by kernel_rfl) (Nat.zero_le _) ?_
 refine callME hb 3 (vs := [.cell (vO flS 3 s1.2), .cell (vL flV items_)]) hq (frz_cons (frz_cell (frz_own flS (b := true) (id := 3) (fr := (flS.f s1.2).length) (xs := s1.2) (by kernel_rfl))) (frz_cons (by kernel_rfl) rfl)) (mark_cons (mark_cell (mark_own flS (nb := true) (id := 3) (xs := s1.2) (by kernel_rfl))) (mark_cons (by kernel_rfl) rfl)) (g_value_Map_ok hb he s1.2 items_) fun y11 hy11 hq => ?_
 refine callE hb 9 hq (pCheck_g hb he y11.1) fun y12 hy12 hq => ?_
 refine ifE hb 7 [58] [] hq (fun hq _ => ?_) (fun hq _ => ?_)
 exact retE hb 8 (he1 _ (injO hq))
 exact retE hb 8 (he1 _ (injO hq))
 refine callE hb 6 hq (pCheck_g hb he y4) fun y14 hy14 hq => ?_
 refine cpE hb 3 [6, 9, 13] (s' := ⟨none, [pick (bodyOf Tryz.f17) [1, 1, 1, 1, 1, 1, 0, 1, 0], pick (bodyOf Tryz.f17) [1, 1, 1, 1, 1, 1, 0, 1, 1], pick (bodyOf Tryz.f17) [1, 1, 1, 1, 1, 1, 1]], [], sl 62 [(6, pt 0), (9, pt 2), (13, c1 (vi y14))], [bx zV, bx (aV y4), bx (aV y4)]⟩) ?_
 refine ifE hb 4 [58] [] hq (fun hq _ => ?_) (fun hq _ => ?_)
 exact retE hb 8 (injO hq).symm
 exact retE hb 8 (injO hq).symm
noncomputable def g_l21_text  (s_ : ByteArray) : Option (Val) :=
  some (Val.mk 3 0 s_ [] [])
theorem g_l21_text_ok (hb : Base E E0 G) (he : ∀ w, E w → EnvV w)   (s_ : ByteArray) : ∀ r_ : Val, g_l21_text s_ = some r_ →
 Pure E E0 Tryz.prog 24 [.cell (vS s_)] (.one (.agg (aV r_))) := by
 refine fnE hb Tryz.func24 rfl fun r_ hq => ?_
 exact retE hb 10 (injO hq).symm
noncomputable def g_l21_number  (n_ : Int) : Option (Val) :=
  some (Val.mk 2 n_ eS [] [])
theorem g_l21_number_ok (hb : Base E E0 G) (he : ∀ w, E w → EnvV w)   (n_ : Int) : ∀ r_ : Val, g_l21_number n_ = some r_ →
 Pure E E0 Tryz.prog 25 [.cell (vi n_)] (.one (.agg (aV r_))) := by
 refine fnE hb Tryz.func25 rfl fun r_ hq => ?_
 exact retE hb 10 (injO hq).symm
noncomputable def g_l21_awake   : Option (Bool) :=
  (g_l21_text (⟨#[98]⟩ : ByteArray)).bind fun y1 => (g_l21_text (⟨#[97]⟩ : ByteArray)).bind fun y2 => (g_instances_Keys 2 (Val.mk 4 0 eS [y1, y2] [])).bind fun y3 => (g_l21_text (⟨#[50]⟩ : ByteArray)).bind fun y4 => (g_instances_Keys 1 y4).bind fun y5 => (g_l21_number 2).bind fun y6 => (g_instances_Scope 1 y6 (KeyG.mk 1 1 eS)).bind fun y7 => (g_l21_number 2).bind fun y8 => (g_instances_Scope 1 y8 (KeyG.mk 1 2 eS)).bind fun y9 => (g_instances_Collect 1 [] []).bind fun y10 => bif (!decide (y3.2 = 0)) then some (false) else bif (!decide (y5.2 = 0)) then some (false) else bif (!decide (y7.2 = 0)) then some (false) else bif (!decide (y9.2 = 16)) then some (false) else bif (!decide (y10.2 = 0)) then some (false) else bif (!decide ((y3.1.length : Int) = 2)) then some (false) else bif (!decide ((y5.1.length : Int) = 2)) then some (false) else bif (!decide ((y7.1.items.length : Int) = 1)) then some (false) else (idx y7.1.items 0).bind fun x19 => bif (!decide ((x19.items.length : Int) = 1)) then some (false) else (idx y3.1 0).bind fun x21 => bif (decide (x21.str = (⟨#[97]⟩ : ByteArray))) then (idx y3.1 1).bind fun x23 => bif (decide (x23.str = (⟨#[98]⟩ : ByteArray))) then (idx y7.1.keys 0).bind fun x25 => bif (decide (x25 = (⟨#[99, 111, 117, 110, 116]⟩ : ByteArray))) then (idx y7.1.items 0).bind fun x27 => (idx x27.items 0).bind fun x28 => bif (decide (x28.num = 1)) then bif (decide (y10.1.kind = 4)) then some (decide ((y10.1.items.length : Int) = 0)) else some (false) else some (false) else some (false) else some (false) else some (false)
theorem g_l21_awake_ok (hb : Base E E0 G) (he : ∀ w, E w → EnvV w)    : ∀ r_ : Bool, g_l21_awake = some r_ →
 Pure E E0 Tryz.prog 10 [] (c1 (vB r_)) := by
 refine fnE hb Tryz.func10 rfl fun r_ hq => ?_
 refine callE hb 6 hq (g_l21_text_ok hb he (⟨#[98]⟩ : ByteArray)) fun y1 hy1 hq => ?_
 refine callE hb 0 hq (g_l21_text_ok hb he (⟨#[97]⟩ : ByteArray)) fun y2 hy2 hq => ?_
 have hp := (g_instances_Keys_ok hb he 2 (Val.mk 4 0 eS [y1, y2] []))
 simp only [aV, aT, kind_mk, num_mk, str_mk, items_mk, keys_mk, Ty.kind_mk, Ty.elems_mk, Ty.names_mk, vL_one, vL_two, vL_three, vL_four, vL_five, vL_six] at hp
 refine callE hb 2 hq hp fun y3 hy3 hq => ?_
 refine callE hb 8 hq (g_l21_text_ok hb he (⟨#[50]⟩ : ByteArray)) fun y4 hy4 hq => ?_
 refine callE hb 0 hq (g_instances_Keys_ok hb he 1 y4) fun y5 hy5 hq => ?_
 refine callE hb 8 hq (g_l21_number_ok hb he 2) fun y6 hy6 hq => ?_
 refine callE hb 1 hq (g_instances_Scope_ok hb he 1 y6 (KeyG.mk 1 1 eS)) fun y7 hy7 hq => ?_
 refine cpE hb 8 [1, 2, 3, 4, 5, 6] (s' := ⟨none, [pick (bodyOf Tryz.f10) [1, 1, 1, 1, 0], pick (bodyOf Tryz.f10) [1, 1, 1, 1, 1]], [], sl 124 [(1, c1 (vL flKeyG y3.1)), (2, c1 (vi y3.2)), (3, c1 (vL flKeyG y5.1)), (4, c1 (vi y5.2)), (5, pt 0), (6, c1 (vi y7.2))], [bx (aV y7.1)]⟩) ?_
 refine callE hb 1 hq (g_l21_number_ok hb he 2) fun y8 hy8 hq => ?_
 refine callE hb 1 hq (g_instances_Scope_ok hb he 1 y8 (KeyG.mk 1 2 eS)) fun y9 hy9 hq => ?_
 refine callE hb 9 hq (g_instances_Collect_ok hb he 1 [] []) fun y10 hy10 hq => ?_
 refine ifE hb 13 [41, 42] [] hq (fun hq _ => ?_) (fun hq _ => ?_)
 exact retE hb 46 (injO hq).symm
 refine ifE hb 4 [44, 45, 46] [] hq (fun hq _ => ?_) (fun hq _ => ?_)
 exact retE hb 42 (injO hq).symm
 refine ifE hb 4 [48, 49, 50] [] hq (fun hq _ => ?_) (fun hq _ => ?_)
 exact retE hb 38 (injO hq).symm
 refine ifE hb 4 [52, 53, 54] [] hq (fun hq _ => ?_) (fun hq _ => ?_)
 refine cpE hb 29 [1, 5, 9, 82] (s' := ⟨none, [pick (bodyOf Tryz.f10) [1, 1, 1, 1, 1, 1, 0, 1], pick (bodyOf Tryz.f10) [1, 1, 1, 1, 1, 1, 1]], [], sl 124 [(1, c1 (vL flKeyG y3.1)), (5, pt 0), (9, pt 2), (82, c1 (vB true))], [bx (aV y7.1), bx (aV y9.1), bx (aV y10.1)]⟩) ?_
 exact retE hb 5 (injO hq).symm
 refine ifE hb 4 [56, 57, 58] [] hq (fun hq _ => ?_) (fun hq _ => ?_)
 refine cpE hb 25 [1, 5, 9, 82] (s' := ⟨none, [pick (bodyOf Tryz.f10) [1, 1, 1, 1, 1, 1, 0, 1], pick (bodyOf Tryz.f10) [1, 1, 1, 1, 1, 1, 1]], [], sl 124 [(1, c1 (vL flKeyG y3.1)), (5, pt 0), (9, pt 2), (82, c1 (vB true))], [bx (aV y7.1), bx (aV y9.1), bx (aV y10.1)]⟩) ?_
 exact retE hb 5 (injO hq).symm
 refine ifE hb 5 [61, 62, 63] [] hq (fun hq _ => ?_) (fun hq _ => ?_)
 refine cpE hb 20 [1, 5, 9, 82] (s' := ⟨none, [pick (bodyOf Tryz.f10) [1, 1, 1, 1, 1, 1, 0, 1], pick (bodyOf Tryz.f10) [1, 1, 1, 1, 1, 1, 1]], [], sl 124 [(1, c1 (vL flKeyG y3.1)), (5, pt 0), (9, pt 2), (82, c1 (vB true))], [bx (aV y7.1), bx (aV y9.1), bx (aV y10.1)]⟩) ?_
 exact retE hb 5 (injO hq).symm
 refine ifE hb 5 [66, 67, 68] [] hq (fun hq _ => ?_) (fun hq _ => ?_)
 refine cpE hb 15 [1, 5, 9, 82] (s' := ⟨none, [pick (bodyOf Tryz.f10) [1, 1, 1, 1, 1, 1, 0, 1], pick (bodyOf Tryz.f10) [1, 1, 1, 1, 1, 1, 1]], [], sl 124 [(1, c1 (vL flKeyG y3.1)), (5, pt 0), (9, pt 2), (82, c1 (vB true))], [bx (aV y7.1), bx (aV y9.1), bx (aV y10.1)]⟩) ?_
 exact retE hb 5 (injO hq).symm
 refine ifE hb 6 [72, 73, 74] [] hq (fun hq _ => ?_) (fun hq _ => ?_)
 refine cpE hb 9 [1, 5, 9, 82] (s' := ⟨none, [pick (bodyOf Tryz.f10) [1, 1, 1, 1, 1, 1, 0, 1], pick (bodyOf Tryz.f10) [1, 1, 1, 1, 1, 1, 1]], [], sl 124 [(1, c1 (vL flKeyG y3.1)), (5, pt 0), (9, pt 2), (82, c1 (vB true))], [bx (aV y7.1), bx (aV y9.1), bx (aV y10.1)]⟩) ?_
 exact retE hb 5 (injO hq).symm
 refine idxE hb flV 2 hq fun x19 hx19 hq => ?_
 refine cpE hb 6 [1, 5, 9, 82] (s' := ⟨none, [pick (bodyOf Tryz.f10) [1, 1, 1, 1, 1, 1, 0, 1], pick (bodyOf Tryz.f10) [1, 1, 1, 1, 1, 1, 1]], [], sl 124 [(1, c1 (vL flKeyG y3.1)), (5, pt 0), (9, pt 2), (82, c1 (vB (!decide ((x19.items.length : Int) = 1))))], [bx (aV y7.1), bx (aV y9.1), bx (aV y10.1)]⟩) ?_
 refine ifE hb 0 [82] [] hq (fun hq _ => ?_) (fun hq _ => ?_)
 exact retE hb 5 (injO hq).symm
 refine idxE hb flKeyG 5 hq fun x21 hx21 hq => ?_
 refine ifE hb 4 [87, 88] [] hq (fun hq _ => ?_) (fun hq _ => ?_)
 refine idxE hb flKeyG 1 hq fun x23 hx23 hq => ?_
 refine ifE hb 5 [93, 94, 95] [] hq (fun hq _ => ?_) (fun hq _ => ?_)
 refine idxE hb flS 2 hq fun x25 hx25 hq => ?_
 refine ifE hb 4 [100, 101, 102] [] hq (fun hq _ => ?_) (fun hq _ => ?_)
 refine idxE hb flV 2 hq fun x27 hx27 hq => ?_
 refine idxE hb flV 2 hq fun x28 hx28 hq => ?_
 refine ifE hb 5 [111, 112, 113] [] hq (fun hq _ => ?_) (fun hq _ => ?_)
 refine ifE hb 5 [116, 117, 118] [] hq (fun hq _ => ?_) (fun hq _ => ?_)
 exact retE hb 7 (injO hq).symm
 exact retE hb 7 (injO hq).symm
 exact retE hb 12 (injO hq).symm
 exact retE hb 23 (injO hq).symm
 exact retE hb 30 (injO hq).symm
 exact retE hb 37 (injO hq).symm
noncomputable def g_r07_Get_L1 (v_ : Val) (key_ : ByteArray) (s1 : Int) : Option ((Int) ⊕ (Val × Bool)) :=
  bif (decide (s1 < (v_.keys.length : Int))) then bif (decide (s1 < (v_.items.length : Int))) then (idx v_.keys s1).bind fun x4 => bif (decide (x4 = key_)) then (idx v_.items s1).bind fun x6 => some (.inr (x6, true)) else some (.inl (IntKind.i64.wrap (s1 + 1))) else some (.inr ((Val.mk 0 0 eS [] []), false)) else some (.inr ((Val.mk 0 0 eS [] []), false))
noncomputable def g_r07_Get  (v_ : Val) (key_ : ByteArray) : Option (Val × Bool) :=
  bif (!decide (v_.kind = 5)) then some ((Val.mk 0 0 eS [] []), false) else loopO (g_r07_Get_L1 v_ key_) 0
theorem g_r07_Get_ok (hb : Base E E0 G) (he : ∀ w, E w → EnvV w)   (v_ : Val) (key_ : ByteArray) : ∀ r_ : Val × Bool, g_r07_Get v_ key_ = some r_ →
 Pure E E0 Tryz.prog 40 [.agg (aV v_), .cell (vS key_)] (.tup [.agg (aV r_.1), .cell (vB r_.2)]) := by
 refine fnE hb Tryz.func40 rfl fun r_ hq => ?_
 refine ifE hb 13 [9] [] hq (fun hq _ => ?_) (fun hq _ => ?_)
 exact retE hb 7 (injO hq).symm
 refine loopE hb 8 (g_r07_Get_L1 v_ key_) (fun s1 => sl 38 [(1, c1 (vS key_)), (2, pt 0), (4, pt 1), (6, c1 (vi s1))]) (fun s1 => [bx (aV v_), bx zV]) [1, 2, 4, 6] [] 2 (s0 := 0) ⟨(by kernel_rfl), (by kernel_rfl), trivial⟩ hq (fun s1 x1 hq hn1 he1 => ?_)
 refine ifE hb 9 [15, 16] [] hq (fun hq _ => ?_) (fun hq _ => ?_)
 refine ifE hb 7 [21, 22] [] hq (fun hq _ => ?_) (fun hq _ => ?_)
 refine idxE hb flS 9 hq fun x4 hx4 hq => ?_
 refine ifE hb 4 [31] [] hq (fun hq _ => ?_) (fun hq _ => ?_)
 refine idxE hb flV 6 hq fun x6 hx6 hq => ?_
 exact retE hb 4 (he1 _ (injO hq))
 exact backE hb 8 [1, 2, 4, 6] [] 2 (hn1 _ (injO hq)) ⟨(by kernel_rfl), (by kernel_rfl), trivial⟩
 exact retE hb 8 (he1 _ (injO hq))
 exact retE hb 15 (he1 _ (injO hq))
noncomputable def g_r11_has_L1 (l_ : List ByteArray) (s_ : ByteArray) (s1 : Int) : Option ((Int) ⊕ (Bool)) :=
  bif (decide (s1 < (l_.length : Int))) then (idx l_ s1).bind fun x2 => bif (decide (x2 = s_)) then some (.inr (true)) else some (.inl (IntKind.i64.wrap (s1 + 1))) else some (.inr (false))
noncomputable def g_r11_has  (l_ : List ByteArray) (s_ : ByteArray) : Option (Bool) :=
  loopO (g_r11_has_L1 l_ s_) 0
theorem g_r11_has_ok (hb : Base E E0 G) (he : ∀ w, E w → EnvV w)   (l_ : List ByteArray) (s_ : ByteArray) : ∀ r_ : Bool, g_r11_has l_ s_ = some r_ →
 Pure E E0 Tryz.prog 134 [.cell (vL flS l_), .cell (vS s_)] (c1 (vB r_)) := by
 refine fnE hb Tryz.func134 rfl fun r_ hq => ?_
 refine loopE hb 10 (g_r11_has_L1 l_ s_) (fun s1 => sl 18 [(0, c1 (vL flS l_)), (1, c1 (vS s_)), (5, c1 (vi s1))]) (fun s1 => []) [0, 1, 5] [] 0 (s0 := 0) trivial hq (fun s1 x1 hq hn1 he1 => ?_)
 refine ifE hb 8 [9] [] hq (fun hq _ => ?_) (fun hq _ => ?_)
 refine idxE hb flS 8 hq fun x2 hx2 hq => ?_
 refine ifE hb 4 [17] [] hq (fun hq _ => ?_) (fun hq _ => ?_)
 exact retE hb 5 (he1 _ (injO hq))
 exact backE hb 8 [0, 1, 5] [] 0 (hn1 _ (injO hq)) trivial
 exact retE hb 6 (he1 _ (injO hq))
noncomputable def g_r11_word  (v_ : Val) : Option (ByteArray) :=
  bif (decide (v_.kind = 2)) then (m_format v_.num).bind fun y2 => some (y2) else bif (decide (v_.num = 1)) then some (⟨#[116, 114, 117, 101]⟩ : ByteArray) else some (⟨#[102, 97, 108, 115, 101]⟩ : ByteArray)
theorem g_r11_word_ok (hb : Base E E0 G) (he : ∀ w, E w → EnvV w)   (v_ : Val) : ∀ r_ : ByteArray, g_r11_word v_ = some r_ →
 Pure E E0 Tryz.prog 136 [.agg (aV v_)] (c1 (vS r_)) := by
 refine fnE hb Tryz.func136 rfl fun r_ hq => ?_
 refine ifE hb 12 [5] [] hq (fun hq _ => ?_) (fun hq _ => ?_)
 refine callE hb 5 hq (rFormat_g hb he v_.num) fun y2 hy2 hq => ?_
 exact retE hb 2 (injO hq).symm
 refine ifE hb 9 [11] [] hq (fun hq _ => ?_) (fun hq _ => ?_)
 exact retE hb 5 (injO hq).symm
 exact retE hb 6 (injO hq).symm
noncomputable def g_r11_simple  (v_ : Val) (k_ : Int) : Option (Val × Int) :=
  bif (decide (k_ = 1)) then bif (decide (v_.kind = 1)) then some (v_, 0) else bif (decide (v_.kind = 3)) then bif (decide (v_.str = (⟨#[116, 114, 117, 101]⟩ : ByteArray))) then some ((Val.mk 1 1 eS [] []), 0) else bif (decide (v_.str = (⟨#[102, 97, 108, 115, 101]⟩ : ByteArray))) then some ((Val.mk 1 0 eS [] []), 0) else some ((Val.mk 0 0 eS [] []), 6) else some ((Val.mk 0 0 eS [] []), 6) else bif (decide (k_ = 2)) then bif (decide (v_.kind = 2)) then some (v_, 0) else (m_parse v_.str).bind fun y8 => bif (decide (v_.kind = 3)) then bif (decide (y8.2 = 0)) then some ((Val.mk 2 y8.1 eS [] []), 0) else some ((Val.mk 0 0 eS [] []), 6) else some ((Val.mk 0 0 eS [] []), 6) else bif (decide (v_.kind = 3)) then some (v_, 0) else bif (decide (v_.kind = 2)) then (g_r11_word v_).bind fun y13 => some ((Val.mk 3 0 y13 [] []), 0) else bif (decide (v_.kind = 1)) then (g_r11_word v_).bind fun y15 => some ((Val.mk 3 0 y15 [] []), 0) else some ((Val.mk 0 0 eS [] []), 6)
theorem g_r11_simple_ok (hb : Base E E0 G) (he : ∀ w, E w → EnvV w)   (v_ : Val) (k_ : Int) : ∀ r_ : Val × Int, g_r11_simple v_ k_ = some r_ →
 Pure E E0 Tryz.prog 110 [.agg (aV v_), .cell (vi k_)] (.tup [.agg (aV r_.1), .cell (vi r_.2)]) := by
 refine fnE hb Tryz.func110 rfl fun r_ hq => ?_
 refine ifE hb 17 [25, 26] [] hq (fun hq _ => ?_) (fun hq _ => ?_)
 refine ifE hb 8 [29] [] hq (fun hq _ => ?_) (fun hq _ => ?_)
 exact retE hb 7 (injO hq).symm
 refine ifE hb 8 [33, 34] [] hq (fun hq _ => ?_) (fun hq _ => ?_)
 refine ifE hb 4 [37, 38] [] hq (fun hq hc4 => ?_) (fun hq hc4 => ?_)
 refine knE hb 20 [47] [] (b := (decide (v_.str = (⟨#[116, 114, 117, 101]⟩ : ByteArray)))) (v := true) hc4 ?_
 exact retE hb 11 (injO hq).symm
 refine ifE hb 6 [41, 42, 43] [] hq (fun hq _ => ?_) (fun hq _ => ?_)
 refine knE hb 14 [47] [] (b := (decide (v_.str = (⟨#[116, 114, 117, 101]⟩ : ByteArray)))) (v := false) hc4 ?_
 exact retE hb 8 (injO hq).symm
 exact retE hb 9 (injO hq).symm
 exact retE hb 19 (injO hq).symm
 refine ifE hb 6 [50, 51] [] hq (fun hq _ => ?_) (fun hq _ => ?_)
 refine ifE hb 8 [54] [] hq (fun hq _ => ?_) (fun hq _ => ?_)
 exact retE hb 7 (injO hq).symm
 refine callE hb 6 hq (rParse_g hb he v_.str) fun y8 hy8 hq => ?_
 refine ifE hb 12 [64, 65] [] hq (fun hq _ => ?_) (fun hq _ => ?_)
 refine ifE hb 4 [67, 68] [] hq (fun hq _ => ?_) (fun hq _ => ?_)
 exact retE hb 8 (injO hq).symm
 exact retE hb 9 (injO hq).symm
 exact retE hb 13 (injO hq).symm
 refine ifE hb 8 [12] [] hq (fun hq _ => ?_) (fun hq _ => ?_)
 exact retE hb 7 (injO hq).symm
 refine ifE hb 8 [16, 17] [] hq (fun hq _ => ?_) (fun hq _ => ?_)
 refine callE hb 9 hq (g_r11_word_ok hb he v_) fun y13 hy13 hq => ?_
 exact retE hb 4 (injO hq).symm
 refine ifE hb 5 [20, 21] [] hq (fun hq _ => ?_) (fun hq _ => ?_)
 refine callE hb 4 hq (g_r11_word_ok hb he v_) fun y15 hy15 hq => ?_
 exact retE hb 4 (injO hq).symm
 exact retE hb 9 (injO hq).symm
noncomputable def g_r11_object_L2 (r_r11_to : Val → Ty → Option (Val × Int)) (v_ : Val) (t_ : Ty) (s2 : Int × List Val × List ByteArray) : Option ((Int × List Val × List ByteArray) ⊕ ((Int) ⊕ (Val × Int))) :=
  bif (decide (s2.1 < (t_.names.length : Int))) then bif (decide (s2.1 < (t_.elems.length : Int))) then (idx t_.names s2.1).bind fun x7 => (g_r07_Get v_ x7).bind fun y8 => (idx t_.elems s2.1).bind fun x9 => (r_r11_to y8.1 x9).bind fun y10 => bif (!decide (y10.2 = 0)) then some (.inr (.inr ((Val.mk 0 0 eS [] []), y10.2))) else (idx t_.names s2.1).bind fun x12 => (app 16 s2.2.2 [x12]).bind fun l13 => (app 80 s2.2.1 [y10.1]).bind fun l14 => some (.inl ((IntKind.i64.wrap (s2.1 + 1)), l14, l13)) else some (.inr (.inr ((Val.mk 5 0 eS s2.2.1 s2.2.2), 0))) else some (.inr (.inr ((Val.mk 5 0 eS s2.2.1 s2.2.2), 0)))
noncomputable def g_r11_object_L1 (r_r11_to : Val → Ty → Option (Val × Int)) (v_ : Val) (t_ : Ty) (s1 : Int) : Option ((Int) ⊕ (Val × Int)) :=
  bif (decide (s1 < (v_.keys.length : Int))) then (idx v_.keys s1).bind fun x2 => (g_r11_has t_.names x2).bind fun y3 => bif (!y3) then some (.inr ((Val.mk 0 0 eS [] []), 13)) else some (.inl (IntKind.i64.wrap (s1 + 1))) else loopO (g_r11_object_L2 r_r11_to v_ t_) (0, [], [])
noncomputable def g_r11_object (r_r11_to : Val → Ty → Option (Val × Int)) (v_ : Val) (t_ : Ty) : Option (Val × Int) :=
  loopO (g_r11_object_L1 r_r11_to v_ t_) 0
theorem g_r11_object_ok (hb : Base E E0 G) (he : ∀ w, E w → EnvV w) (r_r11_to : Val → Ty → Option (Val × Int)) (hr_r11_to : ∀ (a0 : Val) (a1 : Ty) (r : Val × Int), r_r11_to a0 a1 = some r → Pure E E0 Tryz.prog 87 [.agg (aV a0), .agg (aT a1)] (.tup [.agg (aV r.1), .cell (vi r.2)])) (v_ : Val) (t_ : Ty) : ∀ r_ : Val × Int, g_r11_object r_r11_to v_ t_ = some r_ →
 Pure E E0 Tryz.prog 109 [.agg (aV v_), .agg (aT t_)] (.tup [.agg (aV r_.1), .cell (vi r_.2)]) := by
 refine fnE hb Tryz.func109 rfl fun r_ hq => ?_
 refine loopE hb 13 (g_r11_object_L1 r_r11_to v_ t_) (fun s1 => sl 86 [(2, pt 0), (3, pt 1), (4, pt 2), (6, c1 (vi s1))]) (fun s1 => [bx (aV v_), bx (aT t_), bx zV]) [2, 3, 4, 6] [] 3 (s0 := 0) ⟨(by kernel_rfl), (by kernel_rfl), (by kernel_rfl), trivial⟩ hq (fun s1 x1 hq hn1 he1 => ?_)
 refine ifE hb 9 [17] [] hq (fun hq _ => ?_) (fun hq _ => ?_)
 refine drawE hb mixed 5 7 [] ?_
 refine idxE hb flS 5 hq fun x2 hx2 hq => ?_
 refine callE hb 2 hq (g_r11_has_ok hb he t_.names x2) fun y3 hy3 hq => ?_
 refine ifE hb 2 [28] [] hq (fun hq _ => ?_) (fun hq _ => ?_)
 exact retE hb 7 (he1 _ (injO hq))
 exact backE hb 8 [2, 3, 4, 6] [] 3 (hn1 _ (injO hq)) ⟨(by kernel_rfl), (by kernel_rfl), (by kernel_rfl), trivial⟩
 refine ownSE hb 14 3 3 5 (cs := [vi 5, vi 0, vS eS, vN, vN]) (by kernel_rfl) ?_
 refine ownSE hb 0 3 4 1 (cs := [vi 5, vi 0, vS eS, vO flV 4 [], vN]) (by kernel_rfl) ?_
 refine loopE hb 0 (g_r11_object_L2 r_r11_to v_ t_) (fun s2 => sl 86 [(2, pt 0), (3, pt 1), (4, pt 2), (7, pt 3), (8, c1 (vi s2.1))]) (fun s2 => [bx (aV v_), bx (aT t_), bx zV, bx [vi 5, vi 0, vS eS, vO flV 4 s2.2.1, vO flS 5 s2.2.2], some (arO true flV.sz 0 (flV.f s2.2.1)), some (arO true flS.sz 0 (flS.f s2.2.2))]) [2, 3, 4, 7, 8] [] 6 (s0 := (0, [], [])) ⟨(by kernel_rfl), (by kernel_rfl), (by kernel_rfl), (by kernel_rfl), (under_arO _ _ _ _ _), (under_arO _ _ _ _ _), trivial⟩ hq (fun s2 x2 hq hn2 he2 => ?_)
 refine ifE hb 9 [35, 36] [] hq (fun hq _ => ?_) (fun hq _ => ?_)
 refine ifE hb 7 [41, 42] [] hq (fun hq _ => ?_) (fun hq _ => ?_)
 refine drawE hb mixed 5 11 [9] ?_
 refine idxE hb flS 4 hq fun x7 hx7 hq => ?_
 refine callE hb 1 hq (g_r07_Get_ok hb he v_ x7) fun y8 hy8 hq => ?_
 refine cpE hb 9 [2, 3, 4, 7, 8, 9] (s' := ⟨none, [pick (bodyOf Tryz.f109) [1, 1, 1, 0, 1, 0, 0, 1, 0, 0, 1, 0], pick (bodyOf Tryz.f109) [1, 1, 1, 0, 1, 0, 0, 1, 0, 0, 1, 1]], [(3, [pick (bodyOf Tryz.f109) [1, 1, 1, 0, 1, 0, 0, 1, 1], pick (bodyOf Tryz.f109) [1, 1, 1, 0, 1, 0]]), (2, [pick (bodyOf Tryz.f109) [1, 1, 1, 1]])], sl 86 [(2, pt 0), (3, pt 1), (4, pt 2), (7, pt 3), (8, c1 (vi s2.1)), (9, pt 6)], [bx (aV v_), bx (aT t_), bx zV, bx [vi 5, vi 0, vS eS, vO flV 4 s2.2.1, vO flS 5 s2.2.2], some (arO true flV.sz 0 (flV.f s2.2.1)), some (arO true flS.sz 0 (flS.f s2.2.2)), bx (aV y8.1)]⟩) ?_
 refine drawE hb mixed 0 11 [9] ?_
 refine idxE hb flT 4 hq fun x9 hx9 hq => ?_
 refine callE hb 1 hq (hr_r11_to y8.1 x9) fun y10 hy10 hq => ?_
 refine ifE hb 14 [66] [] hq (fun hq _ => ?_) (fun hq _ => ?_)
 exact retE hb 8 (he1 _ ((he2 _ (injO hq)).symm))
 refine drawE hb mixed 3 8 [] ?_
 refine idxE hb flS 5 hq fun x12 hx12 hq => ?_
 refine appOwnE flS hb 3 5 true 0 (flS.one x12) hq fun l13 hl13 hq => ?_
 refine cpE hb 3 [2, 3, 4, 7, 8, 11] (s' := ⟨none, [pick (bodyOf Tryz.f109) [1, 1, 1, 0, 1, 0, 0, 1, 0, 0, 1, 1, 1, 1]], [(3, [pick (bodyOf Tryz.f109) [1, 1, 1, 0, 1, 0, 0, 1, 1], pick (bodyOf Tryz.f109) [1, 1, 1, 0, 1, 0]]), (2, [pick (bodyOf Tryz.f109) [1, 1, 1, 1]])], sl 86 [(2, pt 0), (3, pt 1), (4, pt 2), (7, pt 3), (8, c1 (vi s2.1)), (11, pt 7)], [bx (aV v_), bx (aT t_), bx zV, bx [vi 5, vi 0, vS eS, vO flV 4 s2.2.1, vO flS 5 l13], some (arO true flV.sz 0 (flV.f s2.2.1)), some (arO true flS.sz 0 (flS.f l13)), bx (aV y8.1), bx (aV y10.1)]⟩) ?_
 refine appOwnE flV hb 5 4 true 0 (flV.one y10.1) hq fun l14 hl14 hq => ?_
 exact backE hb 9 [2, 3, 4, 7, 8] [] 6 (hn2 _ (injO hq)) ⟨(by kernel_rfl), (by kernel_rfl), (by kernel_rfl), (by kernel_rfl), (under_arO _ _ _ _ _), (under_arO _ _ _ _ _), trivial⟩
 refine markE hb 8 4 true (sz := flV.sz) (fr := 0) (cs := flV.f s2.2.1) (by kernel_rfl) (Nat.zero_le _) ?_
 refine cellSE hb 0 2 3 (cs := [vi 5, vi 0, vS eS, vO flV 4 s2.2.1, vO flS 5 s2.2.2]) (c := vO flV 4 s2.2.1) (conv_own flV (nb := true) (id := 4) (xs := s2.2.1) (by kernel_rfl)) (by kernel_rfl) ?_
 refine markE hb 0 5 true (sz := flS.sz) (fr := 0) (cs := flS.f s2.2.2) (by kernel_rfl) (Nat.zero_le _) ?_
 refine cellSE hb 0 2 4 (cs := [vi 5, vi 0, vS eS, vL flV s2.2.1, vO flS 5 s2.2.2]) (c := vO flS 5 s2.2.2) (conv_own flS (nb := true) (id := 5) (xs := s2.2.2) (by kernel_rfl)) (by kernel_rfl) ?_
 exact retE hb 0 (he1 _ ((he2 _ (injO hq)).symm))
 refine markE hb 15 4 true (sz := flV.sz) (fr := 0) (cs := flV.f s2.2.1) (by kernel_rfl) (Nat.zero_le _) ?_
 refine cellSE hb 0 2 3 (cs := [vi 5, vi 0, vS eS, vO flV 4 s2.2.1, vO flS 5 s2.2.2]) (c := vO flV 4 s2.2.1) (conv_own flV (nb := true) (id := 4) (xs := s2.2.1) (by kernel_rfl)) (by kernel_rfl) ?_
 refine markE hb 0 5 true (sz := flS.sz) (fr := 0) (cs := flS.f s2.2.2) (by kernel_rfl) (Nat.zero_le _) ?_
 refine cellSE hb 0 2 4 (cs := [vi 5, vi 0, vS eS, vL flV s2.2.1, vO flS 5 s2.2.2]) (c := vO flS 5 s2.2.2) (conv_own flS (nb := true) (id := 5) (xs := s2.2.2) (by kernel_rfl)) (by kernel_rfl) ?_
 exact retE hb 0 (he1 _ ((he2 _ (injO hq)).symm))
noncomputable def g_r11_to_L1 (r_r11_to : Val → Ty → Option (Val × Int)) (v_ : Val) (t_ : Ty) (s1 : Int × List Val) : Option ((Int × List Val) ⊕ (Val × Int)) :=
  bif (decide (s1.1 < (v_.items.length : Int))) then (idx v_.items s1.1).bind fun x13 => (idx t_.elems 0).bind fun x14 => (r_r11_to x13 x14).bind fun y15 => bif (!decide (y15.2 = 0)) then some (.inr ((Val.mk 0 0 eS [] []), y15.2)) else (app 80 s1.2 [y15.1]).bind fun l17 => some (.inl ((IntKind.i64.wrap (s1.1 + 1)), l17)) else some (.inr ((Val.mk v_.kind 0 eS s1.2 v_.keys), 0))
noncomputable def g_r11_to_L2 (r_r11_to : Val → Ty → Option (Val × Int)) (v_ : Val) (t_ : Ty) (s1 : Int × List Val) : Option ((Int × List Val) ⊕ (Val × Int)) :=
  bif (decide (s1.1 < (v_.items.length : Int))) then (idx v_.items s1.1).bind fun x23 => (idx t_.elems 0).bind fun x24 => (r_r11_to x23 x24).bind fun y25 => bif (!decide (y25.2 = 0)) then some (.inr ((Val.mk 0 0 eS [] []), y25.2)) else (app 80 s1.2 [y25.1]).bind fun l27 => some (.inl ((IntKind.i64.wrap (s1.1 + 1)), l27)) else some (.inr ((Val.mk v_.kind 0 eS s1.2 v_.keys), 0))
noncomputable def g_r11_to_L3 (r_r11_to : Val → Ty → Option (Val × Int)) (v_ : Val) (t_ : Ty) (s1 : Int × List Val) : Option ((Int × List Val) ⊕ (Val × Int)) :=
  bif (decide (s1.1 < (v_.items.length : Int))) then (idx v_.items s1.1).bind fun x30 => (idx t_.elems 0).bind fun x31 => (r_r11_to x30 x31).bind fun y32 => bif (!decide (y32.2 = 0)) then some (.inr ((Val.mk 0 0 eS [] []), y32.2)) else (app 80 s1.2 [y32.1]).bind fun l34 => some (.inl ((IntKind.i64.wrap (s1.1 + 1)), l34)) else some (.inr ((Val.mk v_.kind 0 eS s1.2 v_.keys), 0))
noncomputable def g_r11_to (r_r11_object : Val → Ty → Option (Val × Int)) (r_r11_to : Val → Ty → Option (Val × Int)) (v_ : Val) (t_ : Ty) : Option (Val × Int) :=
  bif (decide (t_.kind = 0)) then some (v_, 0) else bif (decide (v_.kind = 0)) then some (v_, 0) else bif (decide (v_.kind = 6)) then some (v_, 0) else bif (decide (t_.kind = 6)) then bif (!decide (v_.kind = 5)) then some ((Val.mk 0 0 eS [] []), 6) else (r_r11_object v_ t_).bind fun y6 => some (y6.1, y6.2) else bif (!decide (t_.kind = 4)) then bif (!decide (t_.kind = 5)) then (g_r11_simple v_ t_.kind).bind fun y9 => some (y9.1, y9.2) else bif (!decide (v_.kind = 5)) then some ((Val.mk 0 0 eS [] []), 6) else bif (!decide ((t_.elems.length : Int) = 1)) then some ((Val.mk 0 0 eS [] []), 6) else loopO (g_r11_to_L1 r_r11_to v_ t_) (0, []) else bif (!decide (v_.kind = 4)) then some ((Val.mk 0 0 eS [] []), 6) else bif (decide (t_.kind = 5)) then bif (!decide (v_.kind = 5)) then some ((Val.mk 0 0 eS [] []), 6) else bif (!decide ((t_.elems.length : Int) = 1)) then some ((Val.mk 0 0 eS [] []), 6) else loopO (g_r11_to_L2 r_r11_to v_ t_) (0, []) else bif (!decide ((t_.elems.length : Int) = 1)) then some ((Val.mk 0 0 eS [] []), 6) else loopO (g_r11_to_L3 r_r11_to v_ t_) (0, [])
theorem g_r11_to_ok (hb : Base E E0 G) (he : ∀ w, E w → EnvV w) (r_r11_object : Val → Ty → Option (Val × Int)) (r_r11_to : Val → Ty → Option (Val × Int)) (hr_r11_object : ∀ (a0 : Val) (a1 : Ty) (r : Val × Int), r_r11_object a0 a1 = some r → Pure E E0 Tryz.prog 109 [.agg (aV a0), .agg (aT a1)] (.tup [.agg (aV r.1), .cell (vi r.2)])) (hr_r11_to : ∀ (a0 : Val) (a1 : Ty) (r : Val × Int), r_r11_to a0 a1 = some r → Pure E E0 Tryz.prog 87 [.agg (aV a0), .agg (aT a1)] (.tup [.agg (aV r.1), .cell (vi r.2)])) (v_ : Val) (t_ : Ty) : ∀ r_ : Val × Int, g_r11_to r_r11_object r_r11_to v_ t_ = some r_ →
 Pure E E0 Tryz.prog 87 [.agg (aV v_), .agg (aT t_)] (.tup [.agg (aV r_.1), .cell (vi r_.2)]) := by
 refine fnE hb Tryz.func87 rfl fun r_ hq => ?_
 refine ifE hb 14 [12, 13] [] hq (fun hq _ => ?_) (fun hq _ => ?_)
 exact retE hb 17 (injO hq).symm
 refine ifE hb 5 [16, 17, 18] [] hq (fun hq _ => ?_) (fun hq _ => ?_)
 exact retE hb 12 (injO hq).symm
 refine ifE hb 5 [21, 22] [] hq (fun hq _ => ?_) (fun hq _ => ?_)
 exact retE hb 7 (injO hq).symm
 refine ifE hb 9 [26] [] hq (fun hq _ => ?_) (fun hq _ => ?_)
 refine ifE hb 8 [29] [] hq (fun hq _ => ?_) (fun hq _ => ?_)
 exact retE hb 7 (injO hq).symm
 refine callE hb 6 hq (hr_r11_object v_ t_) fun y6 hy6 hq => ?_
 exact retE hb 5 (injO hq).symm
 refine ifE hb 9 [38, 39] [] hq (fun hq hc7 => ?_) (fun hq hc7 => ?_)
 refine ifE hb 5 [42, 43] [] hq (fun hq _ => ?_) (fun hq hc8 => ?_)
 refine callE hb 6 hq (g_r11_simple_ok hb he v_ t_.kind) fun y9 hy9 hq => ?_
 exact retE hb 5 (injO hq).symm
 refine knE hb 9 [52, 53] [] (b := (decide (t_.kind = 4))) (v := false) (not_t hc7) ?_
 refine knE hb 9 [61, 62] [] (b := (decide (t_.kind = 5))) (v := true) (not_f hc8) ?_
 refine ifE hb 6 [65, 66, 67, 68] [] hq (fun hq _ => ?_) (fun hq _ => ?_)
 refine cpE hb 6 [2, 3, 4, 73] (s' := ⟨none, [pick (bodyOf Tryz.f87) [1, 1, 1, 1, 0, 1], pick (bodyOf Tryz.f87) [1, 1, 1, 1, 1]], [], sl 111 [(2, pt 0), (3, pt 1), (4, pt 2), (73, c1 (vB true))], [bx (aV v_), bx (aT t_), bx zV]⟩) ?_
 exact retE hb 7 (injO hq).symm
 refine cpE hb 6 [2, 3, 4, 73] (s' := ⟨none, [pick (bodyOf Tryz.f87) [1, 1, 1, 1, 0, 1], pick (bodyOf Tryz.f87) [1, 1, 1, 1, 1]], [], sl 111 [(2, pt 0), (3, pt 1), (4, pt 2), (73, c1 (vB (!decide ((t_.elems.length : Int) = 1))))], [bx (aV v_), bx (aT t_), bx zV]⟩) ?_
 refine ifE hb 0 [73] [] hq (fun hq _ => ?_) (fun hq _ => ?_)
 exact retE hb 7 (injO hq).symm
 refine ownSE hb 18 3 3 5 (cs := [vi v_.kind, vi 0, vS eS, vN, vL flS v_.keys]) (by kernel_rfl) ?_
 refine loopE hb 0 (g_r11_to_L1 r_r11_to v_ t_) (fun s1 => sl 111 [(2, pt 0), (3, pt 1), (4, pt 2), (6, pt 3), (7, c1 (vi s1.1))]) (fun s1 => [bx (aV v_), bx (aT t_), bx zV, bx [vi v_.kind, vi 0, vS eS, vO flV 4 s1.2, vL flS v_.keys], some (arO true flV.sz 0 (flV.f s1.2))]) [2, 3, 4, 6, 7] [] 5 (s0 := (0, [])) ⟨(by kernel_rfl), (by kernel_rfl), (by kernel_rfl), (by kernel_rfl), (under_arO _ _ _ _ _), trivial⟩ hq (fun s1 x1 hq hn1 he1 => ?_)
 refine ifE hb 9 [84] [] hq (fun hq _ => ?_) (fun hq _ => ?_)
 refine drawE hb mixed 5 14 [12] ?_
 refine idxE hb flV 3 hq fun x13 hx13 hq => ?_
 refine idxE hb flT 3 hq fun x14 hx14 hq => ?_
 refine callE hb 1 hq (hr_r11_to x13 x14) fun y15 hy15 hq => ?_
 refine cpE hb 10 [2, 3, 4, 6, 7, 8, 9] (s' := ⟨none, [pick (bodyOf Tryz.f87) [1, 1, 1, 1, 1, 1, 0, 1, 0, 0, 1, 0, 0, 1, 0, 0], pick (bodyOf Tryz.f87) [1, 1, 1, 1, 1, 1, 0, 1, 0, 0, 1, 0, 0, 1, 0, 1], pick (bodyOf Tryz.f87) [1, 1, 1, 1, 1, 1, 0, 1, 0, 0, 1, 0, 0, 1, 1]], [(1, [pick (bodyOf Tryz.f87) [1, 1, 1, 1, 1, 1, 0, 1, 0, 0, 1, 1], pick (bodyOf Tryz.f87) [1, 1, 1, 1, 1, 1, 0, 1, 0]]), (0, [pick (bodyOf Tryz.f87) [1, 1, 1, 1, 1, 1, 1]])], sl 111 [(2, pt 0), (3, pt 1), (4, pt 2), (6, pt 3), (7, c1 (vi s1.1)), (8, pt 5), (9, c1 (vi y15.2))], [bx (aV v_), bx (aT t_), bx zV, bx [vi v_.kind, vi 0, vS eS, vO flV 4 s1.2, vL flS v_.keys], some (arO true flV.sz 0 (flV.f s1.2)), bx (aV y15.1)]⟩) ?_
 refine ifE hb 4 [101] [] hq (fun hq _ => ?_) (fun hq _ => ?_)
 exact retE hb 8 (he1 _ (injO hq))
 refine appOwnE flV hb 7 4 true 0 (flV.one y15.1) hq fun l17 hl17 hq => ?_
 exact backE hb 9 [2, 3, 4, 6, 7] [] 5 (hn1 _ (injO hq)) ⟨(by kernel_rfl), (by kernel_rfl), (by kernel_rfl), (by kernel_rfl), (under_arO _ _ _ _ _), trivial⟩
 refine markE hb 8 4 true (sz := flV.sz) (fr := 0) (cs := flV.f s1.2) (by kernel_rfl) (Nat.zero_le _) ?_
 refine cellSE hb 0 2 3 (cs := [vi v_.kind, vi 0, vS eS, vO flV 4 s1.2, vL flS v_.keys]) (c := vO flV 4 s1.2) (conv_own flV (nb := true) (id := 4) (xs := s1.2) (by kernel_rfl)) (by kernel_rfl) ?_
 exact retE hb 0 (he1 _ (injO hq))
 refine knE hb 14 [52, 53] [] (b := (decide (t_.kind = 4))) (v := true) (not_f hc7) ?_
 refine ifE hb 5 [56, 57, 58] [] hq (fun hq _ => ?_) (fun hq _ => ?_)
 refine cpE hb 16 [2, 3, 4, 73] (s' := ⟨none, [pick (bodyOf Tryz.f87) [1, 1, 1, 1, 0, 1], pick (bodyOf Tryz.f87) [1, 1, 1, 1, 1]], [], sl 111 [(2, pt 0), (3, pt 1), (4, pt 2), (73, c1 (vB true))], [bx (aV v_), bx (aT t_), bx zV]⟩) ?_
 exact retE hb 7 (injO hq).symm
 refine ifE hb 4 [61, 62] [] hq (fun hq _ => ?_) (fun hq _ => ?_)
 refine ifE hb 6 [65, 66, 67, 68] [] hq (fun hq _ => ?_) (fun hq _ => ?_)
 refine cpE hb 6 [2, 3, 4, 73] (s' := ⟨none, [pick (bodyOf Tryz.f87) [1, 1, 1, 1, 0, 1], pick (bodyOf Tryz.f87) [1, 1, 1, 1, 1]], [], sl 111 [(2, pt 0), (3, pt 1), (4, pt 2), (73, c1 (vB true))], [bx (aV v_), bx (aT t_), bx zV]⟩) ?_
 exact retE hb 7 (injO hq).symm
 refine cpE hb 6 [2, 3, 4, 73] (s' := ⟨none, [pick (bodyOf Tryz.f87) [1, 1, 1, 1, 0, 1], pick (bodyOf Tryz.f87) [1, 1, 1, 1, 1]], [], sl 111 [(2, pt 0), (3, pt 1), (4, pt 2), (73, c1 (vB (!decide ((t_.elems.length : Int) = 1))))], [bx (aV v_), bx (aT t_), bx zV]⟩) ?_
 refine ifE hb 0 [73] [] hq (fun hq _ => ?_) (fun hq _ => ?_)
 exact retE hb 7 (injO hq).symm
 refine ownSE hb 18 3 3 5 (cs := [vi v_.kind, vi 0, vS eS, vN, vL flS v_.keys]) (by kernel_rfl) ?_
 refine loopE hb 0 (g_r11_to_L2 r_r11_to v_ t_) (fun s1 => sl 111 [(2, pt 0), (3, pt 1), (4, pt 2), (6, pt 3), (7, c1 (vi s1.1))]) (fun s1 => [bx (aV v_), bx (aT t_), bx zV, bx [vi v_.kind, vi 0, vS eS, vO flV 4 s1.2, vL flS v_.keys], some (arO true flV.sz 0 (flV.f s1.2))]) [2, 3, 4, 6, 7] [] 5 (s0 := (0, [])) ⟨(by kernel_rfl), (by kernel_rfl), (by kernel_rfl), (by kernel_rfl), (under_arO _ _ _ _ _), trivial⟩ hq (fun s1 x1 hq hn1 he1 => ?_)
 refine ifE hb 9 [84] [] hq (fun hq _ => ?_) (fun hq _ => ?_)
 refine drawE hb mixed 5 14 [12] ?_
 refine idxE hb flV 3 hq fun x23 hx23 hq => ?_
 refine idxE hb flT 3 hq fun x24 hx24 hq => ?_
 refine callE hb 1 hq (hr_r11_to x23 x24) fun y25 hy25 hq => ?_
 refine cpE hb 10 [2, 3, 4, 6, 7, 8, 9] (s' := ⟨none, [pick (bodyOf Tryz.f87) [1, 1, 1, 1, 1, 1, 0, 1, 0, 0, 1, 0, 0, 1, 0, 0], pick (bodyOf Tryz.f87) [1, 1, 1, 1, 1, 1, 0, 1, 0, 0, 1, 0, 0, 1, 0, 1], pick (bodyOf Tryz.f87) [1, 1, 1, 1, 1, 1, 0, 1, 0, 0, 1, 0, 0, 1, 1]], [(1, [pick (bodyOf Tryz.f87) [1, 1, 1, 1, 1, 1, 0, 1, 0, 0, 1, 1], pick (bodyOf Tryz.f87) [1, 1, 1, 1, 1, 1, 0, 1, 0]]), (0, [pick (bodyOf Tryz.f87) [1, 1, 1, 1, 1, 1, 1]])], sl 111 [(2, pt 0), (3, pt 1), (4, pt 2), (6, pt 3), (7, c1 (vi s1.1)), (8, pt 5), (9, c1 (vi y25.2))], [bx (aV v_), bx (aT t_), bx zV, bx [vi v_.kind, vi 0, vS eS, vO flV 4 s1.2, vL flS v_.keys], some (arO true flV.sz 0 (flV.f s1.2)), bx (aV y25.1)]⟩) ?_
 refine ifE hb 4 [101] [] hq (fun hq _ => ?_) (fun hq _ => ?_)
 exact retE hb 8 (he1 _ (injO hq))
 refine appOwnE flV hb 7 4 true 0 (flV.one y25.1) hq fun l27 hl27 hq => ?_
 exact backE hb 9 [2, 3, 4, 6, 7] [] 5 (hn1 _ (injO hq)) ⟨(by kernel_rfl), (by kernel_rfl), (by kernel_rfl), (by kernel_rfl), (under_arO _ _ _ _ _), trivial⟩
 refine markE hb 8 4 true (sz := flV.sz) (fr := 0) (cs := flV.f s1.2) (by kernel_rfl) (Nat.zero_le _) ?_
 refine cellSE hb 0 2 3 (cs := [vi v_.kind, vi 0, vS eS, vO flV 4 s1.2, vL flS v_.keys]) (c := vO flV 4 s1.2) (conv_own flV (nb := true) (id := 4) (xs := s1.2) (by kernel_rfl)) (by kernel_rfl) ?_
 exact retE hb 0 (he1 _ (injO hq))
 refine cpE hb 12 [2, 3, 4, 73] (s' := ⟨none, [pick (bodyOf Tryz.f87) [1, 1, 1, 1, 0, 1], pick (bodyOf Tryz.f87) [1, 1, 1, 1, 1]], [], sl 111 [(2, pt 0), (3, pt 1), (4, pt 2), (73, c1 (vB (!decide ((t_.elems.length : Int) = 1))))], [bx (aV v_), bx (aT t_), bx zV]⟩) ?_
 refine ifE hb 0 [73] [] hq (fun hq _ => ?_) (fun hq _ => ?_)
 exact retE hb 7 (injO hq).symm
 refine ownSE hb 18 3 3 5 (cs := [vi v_.kind, vi 0, vS eS, vN, vL flS v_.keys]) (by kernel_rfl) ?_
 refine loopE hb 0 (g_r11_to_L3 r_r11_to v_ t_) (fun s1 => sl 111 [(2, pt 0), (3, pt 1), (4, pt 2), (6, pt 3), (7, c1 (vi s1.1))]) (fun s1 => [bx (aV v_), bx (aT t_), bx zV, bx [vi v_.kind, vi 0, vS eS, vO flV 4 s1.2, vL flS v_.keys], some (arO true flV.sz 0 (flV.f s1.2))]) [2, 3, 4, 6, 7] [] 5 (s0 := (0, [])) ⟨(by kernel_rfl), (by kernel_rfl), (by kernel_rfl), (by kernel_rfl), (under_arO _ _ _ _ _), trivial⟩ hq (fun s1 x1 hq hn1 he1 => ?_)
 refine ifE hb 9 [84] [] hq (fun hq _ => ?_) (fun hq _ => ?_)
 refine drawE hb mixed 5 14 [12] ?_
 refine idxE hb flV 3 hq fun x30 hx30 hq => ?_
 refine idxE hb flT 3 hq fun x31 hx31 hq => ?_
 refine callE hb 1 hq (hr_r11_to x30 x31) fun y32 hy32 hq => ?_
 refine cpE hb 10 [2, 3, 4, 6, 7, 8, 9] (s' := ⟨none, [pick (bodyOf Tryz.f87) [1, 1, 1, 1, 1, 1, 0, 1, 0, 0, 1, 0, 0, 1, 0, 0], pick (bodyOf Tryz.f87) [1, 1, 1, 1, 1, 1, 0, 1, 0, 0, 1, 0, 0, 1, 0, 1], pick (bodyOf Tryz.f87) [1, 1, 1, 1, 1, 1, 0, 1, 0, 0, 1, 0, 0, 1, 1]], [(1, [pick (bodyOf Tryz.f87) [1, 1, 1, 1, 1, 1, 0, 1, 0, 0, 1, 1], pick (bodyOf Tryz.f87) [1, 1, 1, 1, 1, 1, 0, 1, 0]]), (0, [pick (bodyOf Tryz.f87) [1, 1, 1, 1, 1, 1, 1]])], sl 111 [(2, pt 0), (3, pt 1), (4, pt 2), (6, pt 3), (7, c1 (vi s1.1)), (8, pt 5), (9, c1 (vi y32.2))], [bx (aV v_), bx (aT t_), bx zV, bx [vi v_.kind, vi 0, vS eS, vO flV 4 s1.2, vL flS v_.keys], some (arO true flV.sz 0 (flV.f s1.2)), bx (aV y32.1)]⟩) ?_
 refine ifE hb 4 [101] [] hq (fun hq _ => ?_) (fun hq _ => ?_)
 exact retE hb 8 (he1 _ (injO hq))
 refine appOwnE flV hb 7 4 true 0 (flV.one y32.1) hq fun l34 hl34 hq => ?_
 exact backE hb 9 [2, 3, 4, 6, 7] [] 5 (hn1 _ (injO hq)) ⟨(by kernel_rfl), (by kernel_rfl), (by kernel_rfl), (by kernel_rfl), (under_arO _ _ _ _ _), trivial⟩
 refine markE hb 8 4 true (sz := flV.sz) (fr := 0) (cs := flV.f s1.2) (by kernel_rfl) (Nat.zero_le _) ?_
 refine cellSE hb 0 2 3 (cs := [vi v_.kind, vi 0, vS eS, vO flV 4 s1.2, vL flS v_.keys]) (c := vO flV 4 s1.2) (conv_own flV (nb := true) (id := 4) (xs := s1.2) (by kernel_rfl)) (by kernel_rfl) ?_
 exact retE hb 0 (he1 _ (injO hq))
noncomputable def t_r11_to_step (rec : Ty → Val → Option (Val × Int)) (a : Ty) (b : Val) : Option (Val × Int) :=
  g_r11_to (g_r11_object (fun a0 a1 => rec a1 a0)) (fun a0 a1 => rec a1 a0) b a
noncomputable def t_r11_to (a0 : Val) (a1 : Ty) : Option (Val × Int) := tieF relT wfT t_r11_to_step a1 a0
theorem t_r11_to_ok (hb : Base E E0 G) (he : ∀ w, E w → EnvV w) (a0 : Val) (a1 : Ty) (r : Val × Int) (hq : t_r11_to a0 a1 = some r) : Pure E E0 Tryz.prog 87 [.agg (aV a0), .agg (aT a1)] (.tup [.agg (aV r.1), .cell (vi r.2)]) :=
  tieF_ok (C := fun a b r => Pure E E0 Tryz.prog 87 [.agg (aV b), .agg (aT a)] (.tup [.agg (aV r.1), .cell (vi r.2)])) (fun rec hr a b r hq => g_r11_to_ok hb he (g_r11_object (fun a0 a1 => rec a1 a0)) (fun a0 a1 => rec a1 a0) (g_r11_object_ok hb he (fun a0 a1 => rec a1 a0) (fun a0 a1 r e => hr a1 a0 r e)) (fun a0 a1 r e => hr a1 a0 r e) b a r hq) a1 a0 r hq
noncomputable def t_r11_object (a0 : Val) (a1 : Ty) : Option (Val × Int) := (g_r11_object t_r11_to) a0 a1
theorem t_r11_object_ok (hb : Base E E0 G) (he : ∀ w, E w → EnvV w) (a0 : Val) (a1 : Ty) (r : Val × Int) (hq : t_r11_object a0 a1 = some r) : Pure E E0 Tryz.prog 109 [.agg (aV a0), .agg (aT a1)] (.tup [.agg (aV r.1), .cell (vi r.2)]) :=
  g_r11_object_ok hb he t_r11_to (t_r11_to_ok hb he) a0 a1 r hq
noncomputable def g_r11_To  (v_ : Val) (t_ : Ty) : Option (Val × Int) :=
  (t_r11_to v_ t_).bind fun y1 => bif (!decide (y1.2 = 0)) then some ((Val.mk 0 0 eS [] []), y1.2) else (m_checkE y1.1).bind fun y3 => bif (!decide (y3 = 0)) then some ((Val.mk 0 0 eS [] []), y3) else some (y1.1, 0)
theorem g_r11_To_ok (hb : Base E E0 G) (he : ∀ w, E w → EnvV w)   (v_ : Val) (t_ : Ty) : ∀ r_ : Val × Int, g_r11_To v_ t_ = some r_ →
 Pure E E0 Tryz.prog 64 [.agg (aV v_), .agg (aT t_)] (.tup [.agg (aV r_.1), .cell (vi r_.2)]) := by
 refine fnE hb Tryz.func64 rfl fun r_ hq => ?_
 refine callE hb 11 hq (t_r11_to_ok hb he v_ t_) fun y1 hy1 hq => ?_
 refine ifE hb 13 [15] [] hq (fun hq _ => ?_) (fun hq _ => ?_)
 exact retE hb 8 (injO hq).symm
 refine callE hb 5 hq (rCheck_g hb he y1.1) fun y3 hy3 hq => ?_
 refine ifE hb 8 [21] [] hq (fun hq _ => ?_) (fun hq _ => ?_)
 exact retE hb 8 (injO hq).symm
 exact retE hb 8 (injO hq).symm
noncomputable def g_r21_count_L1 (y2 : Val × Int) (s1 : Int × List KeyG) : Option ((Int × List KeyG) ⊕ (List KeyG × Int)) :=
  bif (decide (s1.1 < y2.1.num)) then (app 32 s1.2 [(KeyG.mk 1 s1.1 eS)]).bind fun l8 => some (.inl ((IntKind.i64.wrap (s1.1 + 1)), l8)) else some (.inr (s1.2, 0))
noncomputable def g_r21_count  (v_ : Val) : Option (List KeyG × Int) :=
  bif (decide (v_.kind = 6)) then some ([], 11) else (g_r11_To v_ (Ty.mk 2 [] [])).bind fun y2 => bif (!decide (y2.2 = 0)) then some ([], 6) else bif (!decide (y2.1.kind = 2)) then some ([], 6) else bif (decide (y2.1.num < 0)) then some ([], 5) else bif (decide (y2.1.num > 256)) then some ([], 14) else loopO (g_r21_count_L1 y2) (0, [])
theorem g_r21_count_ok (hb : Base E E0 G) (he : ∀ w, E w → EnvV w)   (v_ : Val) : ∀ r_ : List KeyG × Int, g_r21_count v_ = some r_ →
 Pure E E0 Tryz.prog 31 [.agg (aV v_)] (.tup [.cell (vL flKeyG r_.1), .cell (vi r_.2)]) := by
 refine fnE hb Tryz.func31 rfl fun r_ hq => ?_
 refine ifE hb 13 [10] [] hq (fun hq _ => ?_) (fun hq _ => ?_)
 exact retE hb 6 (injO hq).symm
 refine callE hb 6 hq (g_r11_To_ok hb he v_ (Ty.mk 2 [] [])) fun y2 hy2 hq => ?_
 refine ifE hb 13 [18, 19] [] hq (fun hq _ => ?_) (fun hq _ => ?_)
 exact retE hb 11 (injO hq).symm
 refine ifE hb 5 [22, 23] [] hq (fun hq _ => ?_) (fun hq _ => ?_)
 exact retE hb 6 (injO hq).symm
 refine ifE hb 9 [26] [] hq (fun hq _ => ?_) (fun hq _ => ?_)
 exact retE hb 6 (injO hq).symm
 refine ifE hb 9 [29] [] hq (fun hq _ => ?_) (fun hq _ => ?_)
 exact retE hb 6 (injO hq).symm
 refine cpE hb 12 [4, 6, 7] (s' := ⟨none, [pick (bodyOf Tryz.f31) [1, 1, 1, 1, 1, 1, 1, 0, 1, 0]], [(0, [pick (bodyOf Tryz.f31) [1, 1, 1, 1, 1, 1, 1, 1]])], sl 42 [(4, pt 1), (6, c1 (vN)), (7, c1 (vi 0))], [bx (aV v_), bx (aV y2.1)]⟩) ?_
 refine ownTE hb 0 6 3 ?_
 refine loopE hb 0 (g_r21_count_L1 y2) (fun s1 => sl 42 [(4, pt 1), (6, c1 (vO flKeyG 2 s1.2)), (7, c1 (vi s1.1))]) (fun s1 => [none, bx (aV y2.1), some (arO true flKeyG.sz 0 (flKeyG.f s1.2))]) [4, 6, 7] [0] 3 (s0 := (0, [])) ⟨rfl, (by kernel_rfl), (under_arO _ _ _ _ _), trivial⟩ hq (fun s1 x1 hq hn1 he1 => ?_)
 refine ifE hb 8 [33] [] hq (fun hq _ => ?_) (fun hq _ => ?_)
 refine appOwnE flKeyG hb 9 2 true 0 (flKeyG.one (KeyG.mk 1 s1.1 eS)) hq fun l8 hl8 hq => ?_
 exact backE hb 8 [4, 6, 7] [] 3 (hn1 _ (injO hq)) ⟨rfl, (by kernel_rfl), (under_arO _ _ _ _ _), trivial⟩
 refine markE hb 8 2 true (sz := flKeyG.sz) (fr := 0) (cs := flKeyG.f s1.2) (by kernel_rfl) (Nat.zero_le _) ?_
 refine cellTE hb 0 2 (c := vO flKeyG 2 s1.2) (conv_own flKeyG (nb := true) (id := 2) (xs := s1.2) (by kernel_rfl)) ?_
 exact retE hb 0 (he1 _ (injO hq))
noncomputable def g_r21_names_L2 (v_ : Val) (s1 : Int × List ByteArray) (s2 : Int) : Option ((Int) ⊕ ((Int × List ByteArray) ⊕ (List ByteArray × Int))) :=
  bif (decide (s2 < s1.1)) then (idx s1.2 s2).bind fun x10 => (idx v_.items s1.1).bind fun x11 => bif (decide (x10 = x11.str)) then some (.inr (.inr ([], 8))) else some (.inl (IntKind.i64.wrap (s2 + 1))) else (idx v_.items s1.1).bind fun x13 => (app 16 s1.2 [x13.str]).bind fun l14 => some (.inr (.inl ((IntKind.i64.wrap (s1.1 + 1)), l14)))
noncomputable def g_r21_names_L1 (v_ : Val) (s1 : Int × List ByteArray) : Option ((Int × List ByteArray) ⊕ (List ByteArray × Int)) :=
  bif (decide (s1.1 < (v_.items.length : Int))) then (idx v_.items s1.1).bind fun x5 => bif (decide (x5.kind = 6)) then some (.inr ([], 11)) else (idx v_.items s1.1).bind fun x7 => bif (!decide (x7.kind = 3)) then some (.inr ([], 6)) else loopO (g_r21_names_L2 v_ s1) 0 else some (.inr (s1.2, 0))
noncomputable def g_r21_names  (v_ : Val) : Option (List ByteArray × Int) :=
  bif (decide (v_.kind = 6)) then some ([], 11) else bif (decide (v_.kind = 5)) then some (v_.keys, 0) else bif (!decide (v_.kind = 4)) then some ([], 6) else loopO (g_r21_names_L1 v_) (0, [])
theorem g_r21_names_ok (hb : Base E E0 G) (he : ∀ w, E w → EnvV w)   (v_ : Val) : ∀ r_ : List ByteArray × Int, g_r21_names v_ = some r_ →
 Pure E E0 Tryz.prog 32 [.agg (aV v_)] (.tup [.cell (vL flS r_.1), .cell (vi r_.2)]) := by
 refine fnE hb Tryz.func32 rfl fun r_ hq => ?_
 refine ifE hb 13 [9] [] hq (fun hq _ => ?_) (fun hq _ => ?_)
 exact retE hb 6 (injO hq).symm
 refine ifE hb 9 [12] [] hq (fun hq _ => ?_) (fun hq _ => ?_)
 exact retE hb 8 (injO hq).symm
 refine ifE hb 9 [17] [] hq (fun hq _ => ?_) (fun hq _ => ?_)
 exact retE hb 6 (injO hq).symm
 refine cpE hb 12 [1, 4, 5] (s' := ⟨none, [pick (bodyOf Tryz.f32) [1, 1, 1, 1, 1, 0, 1, 0]], [(0, [pick (bodyOf Tryz.f32) [1, 1, 1, 1, 1, 1]])], sl 65 [(1, pt 0), (4, c1 (vN)), (5, c1 (vi 0))], [bx (aV v_)]⟩) ?_
 refine ownTE hb 0 4 1 ?_
 refine loopE hb 0 (g_r21_names_L1 v_) (fun s1 => sl 65 [(1, pt 0), (4, c1 (vO flS 1 s1.2)), (5, c1 (vi s1.1))]) (fun s1 => [bx (aV v_), some (arO true flS.sz 0 (flS.f s1.2))]) [1, 4, 5] [] 2 (s0 := (0, [])) ⟨(by kernel_rfl), (under_arO _ _ _ _ _), trivial⟩ hq (fun s1 x1 hq hn1 he1 => ?_)
 refine ifE hb 9 [22] [] hq (fun hq _ => ?_) (fun hq _ => ?_)
 refine idxE hb flV 10 hq fun x5 hx5 hq => ?_
 refine ifE hb 4 [31] [] hq (fun hq _ => ?_) (fun hq _ => ?_)
 exact retE hb 6 (he1 _ (injO hq))
 refine idxE hb flV 8 hq fun x7 hx7 hq => ?_
 refine ifE hb 4 [38] [] hq (fun hq _ => ?_) (fun hq _ => ?_)
 exact retE hb 6 (he1 _ (injO hq))
 refine cpE hb 8 [1, 4, 5, 6] (s' := ⟨none, [pick (bodyOf Tryz.f32) [1, 1, 1, 1, 1, 0, 1, 0, 0, 1, 0, 0, 1, 1, 0, 1, 0]], [(2, [pick (bodyOf Tryz.f32) [1, 1, 1, 1, 1, 0, 1, 0, 0, 1, 0, 0, 1, 1, 1]]), (1, [pick (bodyOf Tryz.f32) [1, 1, 1, 1, 1, 0, 1, 0, 0, 1, 1], pick (bodyOf Tryz.f32) [1, 1, 1, 1, 1, 0, 1, 0]]), (0, [pick (bodyOf Tryz.f32) [1, 1, 1, 1, 1, 1]])], sl 65 [(1, pt 0), (4, c1 (vO flS 1 s1.2)), (5, c1 (vi s1.1)), (6, c1 (vi 0))], [bx (aV v_), some (arO true flS.sz 0 (flS.f s1.2))]⟩) ?_
 refine loopE hb 0 (g_r21_names_L2 v_ s1) (fun s2 => sl 65 [(1, pt 0), (4, c1 (vO flS 1 s1.2)), (5, c1 (vi s1.1)), (6, c1 (vi s2))]) (fun s2 => [bx (aV v_), some (arO true flS.sz 0 (flS.f s1.2))]) [1, 4, 5, 6] [] 2 (s0 := 0) ⟨(by kernel_rfl), (under_arO _ _ _ _ _), trivial⟩ hq (fun s2 x2 hq hn2 he2 => ?_)
 refine ifE hb 7 [41] [] hq (fun hq _ => ?_) (fun hq _ => ?_)
 refine drawE hb mixed 5 10 [] ?_
 refine idxOwnE flS hb 2 1 true 0 hq fun x10 hx10 hq => ?_
 refine loadOwn1E flS hb 0 1 true 0 hx10 rfl ?_
 refine idxE hb flV 3 hq fun x11 hx11 hq => ?_
 refine ifE hb 5 [54] [] hq (fun hq _ => ?_) (fun hq _ => ?_)
 exact retE hb 6 (he1 _ ((he2 _ (injO hq)).symm))
 exact backE hb 8 [1, 4, 5, 6] [] 2 (hn2 _ (injO hq)) ⟨(by kernel_rfl), (under_arO _ _ _ _ _), trivial⟩
 refine idxE hb flV 7 hq fun x13 hx13 hq => ?_
 refine appOwnE flS hb 3 1 true 0 (flS.one x13.str) hq fun l14 hl14 hq => ?_
 exact backE hb 8 [1, 4, 5] [] 2 (hn1 _ ((he2 _ (injO hq)).symm)) ⟨(by kernel_rfl), (under_arO _ _ _ _ _), trivial⟩
 refine markE hb 8 1 true (sz := flS.sz) (fr := 0) (cs := flS.f s1.2) (by kernel_rfl) (Nat.zero_le _) ?_
 refine cellTE hb 0 2 (c := vO flS 1 s1.2) (conv_own flS (nb := true) (id := 1) (xs := s1.2) (by kernel_rfl)) ?_
 exact retE hb 0 (he1 _ (injO hq))
noncomputable def g_r21_sorted_L2 (l_ : List ByteArray) (s1 : List ByteArray × Int) (s2 : Int) : Option ((Int) ⊕ ((List ByteArray × Int) ⊕ (List ByteArray))) :=
  bif (decide (s2 < (s1.1.length : Int))) then (idx s1.1 s2).bind fun x3 => (idx l_ s1.2).bind fun x4 => bif (Op.bytesLess x3.toList x4.toList) then some (.inl (IntKind.i64.wrap (s2 + 1))) else (slc s1.1 0 s2).bind fun x8 => (app 16 [] x8).bind fun l10 => (idx l_ s1.2).bind fun x11 => (app 16 l10 [x11]).bind fun l12 => (slc s1.1 s2 (s1.1.length : Int)).bind fun x13 => (app 16 l12 x13).bind fun l15 => some (.inr (.inl (l15, (IntKind.i64.wrap (s1.2 + 1))))) else (slc s1.1 0 s2).bind fun x18 => (app 16 [] x18).bind fun l20 => (idx l_ s1.2).bind fun x21 => (app 16 l20 [x21]).bind fun l22 => (slc s1.1 s2 (s1.1.length : Int)).bind fun x23 => (app 16 l22 x23).bind fun l25 => some (.inr (.inl (l25, (IntKind.i64.wrap (s1.2 + 1)))))
noncomputable def g_r21_sorted_L1 (l_ : List ByteArray) (s1 : List ByteArray × Int) : Option ((List ByteArray × Int) ⊕ (List ByteArray)) :=
  bif (decide (s1.2 < (l_.length : Int))) then loopO (g_r21_sorted_L2 l_ s1) 0 else some (.inr (s1.1))
noncomputable def g_r21_sorted  (l_ : List ByteArray) : Option (List ByteArray) :=
  loopO (g_r21_sorted_L1 l_) ([], 0)
theorem g_r21_sorted_ok (hb : Base E E0 G) (he : ∀ w, E w → EnvV w)   (l_ : List ByteArray) : ∀ r_ : List ByteArray, g_r21_sorted l_ = some r_ →
 Pure E E0 Tryz.prog 33 [.cell (vL flS l_)] (c1 (vL flS r_)) := by
 refine fnE hb Tryz.func33 rfl fun r_ hq => ?_
 refine cellTE hb 14 3 (c := vN) (conv_nil flS) ?_
 refine loopE hb 0 (g_r21_sorted_L1 l_) (fun s1 => sl 49 [(0, c1 (vL flS l_)), (3, c1 (vL flS s1.1)), (4, c1 (vi s1.2))]) (fun s1 => []) [0, 3, 4] [] 0 (s0 := ([], 0)) trivial hq (fun s1 x1 hq hn1 he1 => ?_)
 refine ifE hb 8 [10] [] hq (fun hq _ => ?_) (fun hq _ => ?_)
 refine cpE hb 10 [0, 3, 4, 5] (s' := ⟨none, [pick (bodyOf Tryz.f33) [1, 1, 0, 1, 0, 0, 1, 0, 0, 1, 0, 0]], [(2, [pick (bodyOf Tryz.f33) [1, 1, 0, 1, 0, 0, 1, 0, 0, 1, 1]]), (1, [pick (bodyOf Tryz.f33) [1, 1, 0, 1, 0, 0, 1, 1], pick (bodyOf Tryz.f33) [1, 1, 0, 1, 0]]), (0, [pick (bodyOf Tryz.f33) [1, 1, 1]])], sl 49 [(0, c1 (vL flS l_)), (3, c1 (vL flS s1.1)), (4, c1 (vi s1.2)), (5, c1 (vi 0))], []⟩) ?_
 refine loopE hb 0 (g_r21_sorted_L2 l_ s1) (fun s2 => sl 49 [(0, c1 (vL flS l_)), (3, c1 (vL flS s1.1)), (4, c1 (vi s1.2)), (5, c1 (vi s2))]) (fun s2 => []) [0, 3, 4, 5] [] 0 (s0 := 0) trivial hq (fun s2 x2 hq hn2 he2 => ?_)
 refine drawE hb mixed 2 13 [] ?_
 refine ifE hb 5 [16, 17] [] hq (fun hq _ => ?_) (fun hq _ => ?_)
 refine idxE hb flS 2 hq fun x3 hx3 hq => ?_
 refine idxE hb flS 3 hq fun x4 hx4 hq => ?_
 refine ifE hb 5 [26, 27] [] hq (fun hq _ => ?_) (fun hq _ => ?_)
 exact backE hb 9 [0, 3, 4, 5] [] 0 (hn2 _ (injO hq)) trivial
 refine ownTE hb 7 6 1 ?_
 refine slcE hb flS 4 hq fun x8 hx8 hq fb9 => ?_
 refine appOwnE flS hb 0 0 true 0 rfl hq fun l10 hl10 hq => ?_
 refine cpE hb 3 [0, 3, 4, 5, 6] (s' := ⟨none, [pick (bodyOf Tryz.f33) [1, 1, 0, 1, 0, 0, 1, 0, 0, 1, 1, 1, 1, 0], pick (bodyOf Tryz.f33) [1, 1, 0, 1, 0, 0, 1, 0, 0, 1, 1, 1, 1, 1]], [(1, [pick (bodyOf Tryz.f33) [1, 1, 0, 1, 0, 0, 1, 1], pick (bodyOf Tryz.f33) [1, 1, 0, 1, 0]]), (0, [pick (bodyOf Tryz.f33) [1, 1, 1]])], sl 49 [(0, c1 (vL flS l_)), (3, c1 (vL flS s1.1)), (4, c1 (vi s1.2)), (5, c1 (vi s2)), (6, c1 (vO flS 0 l10))], [some (arO true flS.sz 0 (flS.f l10))]⟩) ?_
 refine idxE hb flS 4 hq fun x11 hx11 hq => ?_
 refine appOwnE flS hb 2 0 true 0 (flS.one x11) hq fun l12 hl12 hq => ?_
 refine slcE hb flS 7 hq fun x13 hx13 hq fb14 => ?_
 refine appOwnE flS hb 0 0 true 0 rfl hq fun l15 hl15 hq => ?_
 refine markE hb 12 0 true (sz := flS.sz) (fr := 0) (cs := flS.f l15) (by kernel_rfl) (Nat.zero_le _) ?_
 refine cellTE hb 0 3 (c := vO flS 0 l15) (conv_own flS (nb := true) (id := 0) (xs := l15) (by kernel_rfl)) ?_
 exact backE hb 0 [0, 3, 4] [] 0 (hn1 _ ((he2 _ (injO hq)).symm)) trivial
 refine ownTE hb 19 6 1 ?_
 refine slcE hb flS 4 hq fun x18 hx18 hq fb19 => ?_
 refine appOwnE flS hb 0 0 true 0 rfl hq fun l20 hl20 hq => ?_
 refine idxE hb flS 7 hq fun x21 hx21 hq => ?_
 refine appOwnE flS hb 2 0 true 0 (flS.one x21) hq fun l22 hl22 hq => ?_
 refine cpE hb 3 [0, 3, 4, 5, 6] (s' := ⟨none, [pick (bodyOf Tryz.f33) [1, 1, 0, 1, 0, 0, 1, 0, 0, 1, 1, 1, 1, 1, 0], pick (bodyOf Tryz.f33) [1, 1, 0, 1, 0, 0, 1, 0, 0, 1, 1, 1, 1, 1, 1]], [(1, [pick (bodyOf Tryz.f33) [1, 1, 0, 1, 0, 0, 1, 1], pick (bodyOf Tryz.f33) [1, 1, 0, 1, 0]]), (0, [pick (bodyOf Tryz.f33) [1, 1, 1]])], sl 49 [(0, c1 (vL flS l_)), (3, c1 (vL flS s1.1)), (4, c1 (vi s1.2)), (5, c1 (vi s2)), (6, c1 (vO flS 0 l22))], [some (arO true flS.sz 0 (flS.f l22))]⟩) ?_
 refine slcE hb flS 4 hq fun x23 hx23 hq fb24 => ?_
 refine appOwnE flS hb 0 0 true 0 rfl hq fun l25 hl25 hq => ?_
 refine markE hb 12 0 true (sz := flS.sz) (fr := 0) (cs := flS.f l25) (by kernel_rfl) (Nat.zero_le _) ?_
 refine cellTE hb 0 3 (c := vO flS 0 l25) (conv_own flS (nb := true) (id := 0) (xs := l25) (by kernel_rfl)) ?_
 exact backE hb 0 [0, 3, 4] [] 0 (hn1 _ ((he2 _ (injO hq)).symm)) trivial
 exact retE hb 7 (he1 _ (injO hq))
noncomputable def g_r21_Keys_L1 (y8 : List ByteArray) (s1 : Int × List KeyG) : Option ((Int × List KeyG) ⊕ (List KeyG × Int)) :=
  bif (decide (s1.1 < (y8.length : Int))) then (idx y8 s1.1).bind fun x10 => (app 32 s1.2 [(KeyG.mk 2 0 x10)]).bind fun l11 => some (.inl ((IntKind.i64.wrap (s1.1 + 1)), l11)) else some (.inr (s1.2, 0))
noncomputable def g_r21_Keys  (rr_ : Int) (v_ : Val) : Option (List KeyG × Int) :=
  bif (decide (rr_ = 0)) then some ([(KeyG.mk 0 0 eS)], 0) else bif (decide (rr_ = 1)) then (g_r21_count v_).bind fun y3 => some (y3.1, y3.2) else bif (decide (rr_ = 2)) then (g_r21_names v_).bind fun y5 => bif (!decide (y5.2 = 0)) then some ([], y5.2) else bif (decide ((y5.1.length : Int) > 256)) then some ([], 14) else (g_r21_sorted y5.1).bind fun y8 => loopO (g_r21_Keys_L1 y8) (0, []) else some ([], 1)
theorem g_r21_Keys_ok (hb : Base E E0 G) (he : ∀ w, E w → EnvV w)   (rr_ : Int) (v_ : Val) : ∀ r_ : List KeyG × Int, g_r21_Keys rr_ v_ = some r_ →
 Pure E E0 Tryz.prog 12 [.cell (vi rr_), .agg (aV v_)] (.tup [.cell (vL flKeyG r_.1), .cell (vi r_.2)]) := by
 refine fnE hb Tryz.func12 rfl fun r_ hq => ?_
 refine ifE hb 17 [11, 12] [] hq (fun hq _ => ?_) (fun hq _ => ?_)
 refine cellTE hb 8 4 (c := .pv (.sl true 1 [pI .i64 0, pI .i64 0, pS eS])) (conv_lit flKeyG (flKeyG.one (KeyG.mk 0 0 eS)).symm) ?_
 exact retE hb 0 (injO hq).symm
 refine ifE hb 6 [15, 16] [] hq (fun hq _ => ?_) (fun hq _ => ?_)
 refine callE hb 4 hq (g_r21_count_ok hb he v_) fun y3 hy3 hq => ?_
 exact retE hb 5 (injO hq).symm
 refine ifE hb 6 [21, 22] [] hq (fun hq _ => ?_) (fun hq _ => ?_)
 refine callE hb 4 hq (g_r21_names_ok hb he v_) fun y5 hy5 hq => ?_
 refine ifE hb 12 [29] [] hq (fun hq _ => ?_) (fun hq _ => ?_)
 exact retE hb 7 (injO hq).symm
 refine ifE hb 9 [33] [] hq (fun hq _ => ?_) (fun hq _ => ?_)
 exact retE hb 6 (injO hq).symm
 refine callE hb 5 hq (g_r21_sorted_ok hb he y5.1) fun y8 hy8 hq => ?_
 refine cpE hb 3 [6] (s' := ⟨none, [pick (bodyOf Tryz.f12) [1, 0, 1, 0, 1, 1, 1, 1, 1, 0, 1, 1, 1, 1, 0], pick (bodyOf Tryz.f12) [1, 0, 1, 0, 1, 1, 1, 1, 1, 0, 1, 1, 1, 1, 1]], [(0, [pick (bodyOf Tryz.f12) [1, 1]])], sl 51 [(6, c1 (vL flS y8))], [bx (aV v_)]⟩) ?_
 refine ownTE hb 9 8 3 ?_
 refine loopE hb 0 (g_r21_Keys_L1 y8) (fun s1 => sl 51 [(6, c1 (vL flS y8)), (8, c1 (vO flKeyG 1 s1.2)), (9, c1 (vi s1.1))]) (fun s1 => [none, some (arO true flKeyG.sz 0 (flKeyG.f s1.2))]) [6, 8, 9] [0] 2 (s0 := (0, [])) ⟨rfl, (under_arO _ _ _ _ _), trivial⟩ hq (fun s1 x1 hq hn1 he1 => ?_)
 refine ifE hb 8 [39] [] hq (fun hq _ => ?_) (fun hq _ => ?_)
 refine idxE hb flS 8 hq fun x10 hx10 hq => ?_
 refine appOwnE flKeyG hb 3 1 true 0 (flKeyG.one (KeyG.mk 2 0 x10)) hq fun l11 hl11 hq => ?_
 exact backE hb 8 [6, 8, 9] [] 2 (hn1 _ (injO hq)) ⟨rfl, (under_arO _ _ _ _ _), trivial⟩
 refine markE hb 8 1 true (sz := flKeyG.sz) (fr := 0) (cs := flKeyG.f s1.2) (by kernel_rfl) (Nat.zero_le _) ?_
 refine cellTE hb 0 4 (c := vO flKeyG 1 s1.2) (conv_own flKeyG (nb := true) (id := 1) (xs := s1.2) (by kernel_rfl)) ?_
 exact retE hb 0 (he1 _ (injO hq))
 exact retE hb 8 (injO hq).symm
noncomputable def g_l21_keys_L1 (a_ : List KeyG) (b_ : List KeyG) (s1 : Int) : Option ((Int) ⊕ (Bool)) :=
  bif (decide (s1 < (a_.length : Int))) then (idx a_ s1).bind fun x3 => (idx b_ s1).bind fun x4 => bif (!(decide ((x3.kind : Int) = x4.kind) && (decide ((x3.num : Int) = x4.num) && (decide (x3.str = x4.str) && true)))) then some (.inr (false)) else some (.inl (IntKind.i64.wrap (s1 + 1))) else some (.inr (true))
noncomputable def g_l21_keys  (a_ : List KeyG) (b_ : List KeyG) : Option (Bool) :=
  bif (!decide ((a_.length : Int) = (b_.length : Int))) then some (false) else loopO (g_l21_keys_L1 a_ b_) 0
theorem g_l21_keys_ok (hb : Base E E0 G) (he : ∀ w, E w → EnvV w)   (a_ : List KeyG) (b_ : List KeyG) : ∀ r_ : Bool, g_l21_keys a_ b_ = some r_ →
 Pure E E0 Tryz.prog 13 [.cell (vL flKeyG a_), .cell (vL flKeyG b_)] (c1 (vB r_)) := by
 refine fnE hb Tryz.func13 rfl fun r_ hq => ?_
 refine ifE hb 13 [10] [] hq (fun hq _ => ?_) (fun hq _ => ?_)
 exact retE hb 5 (injO hq).symm
 refine loopE hb 8 (g_l21_keys_L1 a_ b_) (fun s1 => sl 26 [(0, c1 (vL flKeyG a_)), (1, c1 (vL flKeyG b_)), (5, c1 (vi s1))]) (fun s1 => []) [0, 1, 5] [] 0 (s0 := 0) trivial hq (fun s1 x1 hq hn1 he1 => ?_)
 refine ifE hb 8 [14] [] hq (fun hq _ => ?_) (fun hq _ => ?_)
 refine drawE hb mixed 5 8 [] ?_
 refine idxE hb flKeyG 2 hq fun x3 hx3 hq => ?_
 refine idxE hb flKeyG 3 hq fun x4 hx4 hq => ?_
 refine ifE hb 4 [25] [] hq (fun hq _ => ?_) (fun hq _ => ?_)
 exact retE hb 5 (he1 _ (injO hq))
 exact backE hb 8 [0, 1, 5] [] 0 (hn1 _ (injO hq)) trivial
 exact retE hb 6 (he1 _ (injO hq))
noncomputable def g_l21_InstancesKinds  (rr_ : Int) (v_ : Val) : Option (Bool) :=
  (g_l21_right v_).bind fun y1 => bif (!y1) then (g_l21_awake).bind fun y3 => some (y3) else (g_instances_Keys rr_ v_).bind fun y4 => (g_r21_Keys rr_ v_).bind fun y5 => bif (decide (y4.2 = y5.2)) then (g_l21_keys y4.1 y5.1).bind fun y7 => bif y7 then (g_l21_awake).bind fun y9 => some (y9) else some (false) else some (false)
theorem g_l21_InstancesKinds_ok (hb : Base E E0 G) (he : ∀ w, E w → EnvV w)   (rr_ : Int) (v_ : Val) : ∀ r_ : Bool, g_l21_InstancesKinds rr_ v_ = some r_ →
 Pure E E0 Tryz.prog 3 [.cell (vi rr_), .agg (aV v_)] (c1 (vB r_)) := by
 refine fnE hb Tryz.func3 rfl fun r_ hq => ?_
 refine callE hb 9 hq (g_l21_right_ok hb he v_) fun y1 hy1 hq => ?_
 refine ifE hb 2 [11] [] hq (fun hq _ => ?_) (fun hq _ => ?_)
 refine callE hb 3 hq (g_l21_awake_ok hb he ) fun y3 hy3 hq => ?_
 exact retE hb 2 (injO hq).symm
 refine callE hb 6 hq (g_instances_Keys_ok hb he rr_ v_) fun y4 hy4 hq => ?_
 refine callE hb 10 hq (g_r21_Keys_ok hb he rr_ v_) fun y5 hy5 hq => ?_
 refine ifE hb 12 [27, 28] [] hq (fun hq _ => ?_) (fun hq _ => ?_)
 refine callE hb 2 hq (g_l21_keys_ok hb he y4.1 y5.1) fun y7 hy7 hq => ?_
 refine ifE hb 2 [31, 32, 33] [] hq (fun hq _ => ?_) (fun hq _ => ?_)
 refine callE hb 0 hq (g_l21_awake_ok hb he ) fun y9 hy9 hq => ?_
 exact retE hb 3 (injO hq).symm
 exact retE hb 4 (injO hq).symm
 exact retE hb 9 (injO hq).symm
noncomputable def g_r21_one  (key_ : ByteArray) (x_ : Val) : Option (Val) :=
  some (Val.mk 5 0 eS [x_] [key_])
theorem g_r21_one_ok (hb : Base E E0 G) (he : ∀ w, E w → EnvV w)   (key_ : ByteArray) (x_ : Val) : ∀ r_ : Val, g_r21_one key_ x_ = some r_ →
 Pure E E0 Tryz.prog 39 [.cell (vS key_), .agg (aV x_)] (.one (.agg (aV r_))) := by
 refine fnE hb Tryz.func39 rfl fun r_ hq => ?_
 refine cellSE hb 14 1 3 (cs := [vi 5, vi 0, vS eS, .pv (.sl true 1 [pI .i64 x_.kind, pI .i64 x_.num, pS x_.str, pL flV x_.items, pL flS x_.keys]), .pv (.sl true 1 [pS key_])]) (c := .pv (.sl true 1 [pI .i64 x_.kind, pI .i64 x_.num, pS x_.str, pL flV x_.items, pL flS x_.keys])) (conv_lit flV (flV.one x_).symm) (by kernel_rfl) ?_
 refine cellSE hb 0 1 4 (cs := [vi 5, vi 0, vS eS, vL flV [x_], .pv (.sl true 1 [pS key_])]) (c := .pv (.sl true 1 [pS key_])) (conv_lit flS (flS.one key_).symm) (by kernel_rfl) ?_
 exact retE hb 0 (injO hq).symm
noncomputable def g_r21_Scope_L1 (rr_ : Int) (v_ : Val) (k_ : KeyG) (y1 : List KeyG × Int) (s1 : Bool × Int) : Option ((Bool × Int) ⊕ (Val × Int)) :=
  bif (decide (s1.2 < (y1.1.length : Int))) then bif s1.1 then some (.inl (true, (IntKind.i64.wrap (s1.2 + 1)))) else (idx y1.1 s1.2).bind fun x5 => some (.inl ((decide ((x5.kind : Int) = k_.kind) && (decide ((x5.num : Int) = k_.num) && (decide (x5.str = k_.str) && true))), (IntKind.i64.wrap (s1.2 + 1)))) else bif (!s1.1) then some (.inr ((Val.mk 0 0 eS [] []), 16)) else bif (decide (rr_ = 0)) then some (.inr ((Val.mk 5 0 eS [] []), 0)) else bif (decide (rr_ = 1)) then (g_r21_one (⟨#[105, 110, 100, 101, 120]⟩ : ByteArray) (Val.mk 2 k_.num eS [] [])).bind fun y9 => (g_r21_one (⟨#[99, 111, 117, 110, 116]⟩ : ByteArray) y9).bind fun y10 => some (.inr (y10, 0)) else bif (decide (v_.kind = 5)) then (g_r07_Get v_ k_.str).bind fun y12 => (g_r21_one (⟨#[101, 97, 99, 104]⟩ : ByteArray) (Val.mk 5 0 eS [(Val.mk 3 0 k_.str [] []), y12.1] [(⟨#[107, 101, 121]⟩ : ByteArray), (⟨#[118, 97, 108, 117, 101]⟩ : ByteArray)])).bind fun y13 => (m_checkE y13).bind fun y14 => bif (!decide (y14 = 0)) then some (.inr ((Val.mk 0 0 eS [] []), y14)) else some (.inr (y13, 0)) else (g_r21_one (⟨#[101, 97, 99, 104]⟩ : ByteArray) (Val.mk 5 0 eS [(Val.mk 3 0 k_.str [] []), (Val.mk 3 0 k_.str [] [])] [(⟨#[107, 101, 121]⟩ : ByteArray), (⟨#[118, 97, 108, 117, 101]⟩ : ByteArray)])).bind fun y16 => (m_checkE y16).bind fun y17 => bif (!decide (y17 = 0)) then some (.inr ((Val.mk 0 0 eS [] []), y17)) else some (.inr (y16, 0))
noncomputable def g_r21_Scope  (rr_ : Int) (v_ : Val) (k_ : KeyG) : Option (Val × Int) :=
  (g_r21_Keys rr_ v_).bind fun y1 => bif (!decide (y1.2 = 0)) then some ((Val.mk 0 0 eS [] []), y1.2) else loopO (g_r21_Scope_L1 rr_ v_ k_ y1) (false, 0)
theorem g_r21_Scope_ok (hb : Base E E0 G) (he : ∀ w, E w → EnvV w)   (rr_ : Int) (v_ : Val) (k_ : KeyG) : ∀ r_ : Val × Int, g_r21_Scope rr_ v_ k_ = some r_ →
 Pure E E0 Tryz.prog 15 [.cell (vi rr_), .agg (aV v_), .agg [vi k_.kind, vi k_.num, vS k_.str]] (.tup [.agg (aV r_.1), .cell (vi r_.2)]) := by
 refine fnE hb Tryz.func15 rfl fun r_ hq => ?_
 refine callE hb 11 hq (g_r21_Keys_ok hb he rr_ v_) fun y1 hy1 hq => ?_
 refine ifE hb 12 [22] [] hq (fun hq _ => ?_) (fun hq _ => ?_)
 exact retE hb 8 (injO hq).symm
 refine cpE hb 12 [0, 4, 5, 6, 8, 10, 11] (s' := ⟨none, [pick (bodyOf Tryz.f15) [1, 1, 1, 1, 0, 1, 0]], [(0, [pick (bodyOf Tryz.f15) [1, 1, 1, 1, 1]])], sl 81 [(0, c1 (vi rr_)), (4, pt 0), (5, pt 1), (6, pt 2), (8, c1 (vL flKeyG y1.1)), (10, c1 (vB false)), (11, c1 (vi 0))], [bx (aV v_), bx [vi k_.kind, vi k_.num, vS k_.str], bx zV]⟩) ?_
 refine loopE hb 0 (g_r21_Scope_L1 rr_ v_ k_ y1) (fun s1 => sl 81 [(0, c1 (vi rr_)), (4, pt 0), (5, pt 1), (6, pt 2), (8, c1 (vL flKeyG y1.1)), (10, c1 (vB s1.1)), (11, c1 (vi s1.2))]) (fun s1 => [bx (aV v_), bx [vi k_.kind, vi k_.num, vS k_.str], bx zV]) [0, 4, 5, 6, 8, 10, 11] [] 3 (s0 := (false, 0)) ⟨(by kernel_rfl), (by kernel_rfl), (by kernel_rfl), trivial⟩ hq (fun s1 x1 hq hn1 he1 => ?_)
 refine ifE hb 8 [28] [] hq (fun hq _ => ?_) (fun hq _ => ?_)
 refine drawE hb mixed 4 7 [] ?_
 refine ifE hb 2 [10, 31, 32] [] hq (fun hq _ => ?_) (fun hq _ => ?_)
 exact backE hb 16 [0, 4, 5, 6, 8, 10, 11] [] 3 (hn1 _ (injO hq)) ⟨(by kernel_rfl), (by kernel_rfl), (by kernel_rfl), trivial⟩
 refine idxE hb flKeyG 2 hq fun x5 hx5 hq => ?_
 exact backE hb 13 [0, 4, 5, 6, 8, 10, 11] [] 3 (hn1 _ (injO hq)) ⟨(by kernel_rfl), (by kernel_rfl), (by kernel_rfl), trivial⟩
 refine ifE hb 8 [41] [] hq (fun hq _ => ?_) (fun hq _ => ?_)
 exact retE hb 7 (he1 _ (injO hq))
 refine ifE hb 13 [44, 45] [] hq (fun hq _ => ?_) (fun hq _ => ?_)
 exact retE hb 7 (he1 _ (injO hq))
 refine ifE hb 6 [47, 48] [] hq (fun hq _ => ?_) (fun hq _ => ?_)
 refine callE hb 6 hq (g_r21_one_ok hb he (⟨#[105, 110, 100, 101, 120]⟩ : ByteArray) (Val.mk 2 k_.num eS [] [])) fun y9 hy9 hq => ?_
 refine callE hb 0 hq (g_r21_one_ok hb he (⟨#[99, 111, 117, 110, 116]⟩ : ByteArray) y9) fun y10 hy10 hq => ?_
 exact retE hb 3 (he1 _ (injO hq))
 refine ifE hb 24 [60] [] hq (fun hq _ => ?_) (fun hq _ => ?_)
 refine callE hb 5 hq (g_r07_Get_ok hb he v_ k_.str) fun y12 hy12 hq => ?_
 have hp := (g_r21_one_ok hb he (⟨#[101, 97, 99, 104]⟩ : ByteArray) (Val.mk 5 0 eS [(Val.mk 3 0 k_.str [] []), y12.1] [(⟨#[107, 101, 121]⟩ : ByteArray), (⟨#[118, 97, 108, 117, 101]⟩ : ByteArray)]))
 simp only [aV, aT, kind_mk, num_mk, str_mk, items_mk, keys_mk, Ty.kind_mk, Ty.elems_mk, Ty.names_mk, vL_one, vL_two, vL_three, vL_four, vL_five, vL_six] at hp
 refine callE hb 12 hq hp fun y13 hy13 hq => ?_
 refine cpE hb 4 [6, 14] (s' := ⟨none, [pick (bodyOf Tryz.f15) [1, 1, 1, 1, 1, 1, 1, 1, 1, 1, 1, 0], pick (bodyOf Tryz.f15) [1, 1, 1, 1, 1, 1, 1, 1, 1, 1, 1, 1]], [], sl 81 [(6, pt 2), (14, pt 5)], [bx (aV v_), bx [vi k_.kind, vi k_.num, vS k_.str], bx zV, bx [vi 3, vi 0, vS k_.str, vN, vN], bx (aV y12.1), bx (aV y13)]⟩) ?_
 refine callE hb 2 hq (rCheck_g hb he y13) fun y14 hy14 hq => ?_
 refine ifE hb 8 [77] [] hq (fun hq _ => ?_) (fun hq _ => ?_)
 exact retE hb 8 (he1 _ (injO hq))
 exact retE hb 8 (he1 _ (injO hq))
 have hp := (g_r21_one_ok hb he (⟨#[101, 97, 99, 104]⟩ : ByteArray) (Val.mk 5 0 eS [(Val.mk 3 0 k_.str [] []), (Val.mk 3 0 k_.str [] [])] [(⟨#[107, 101, 121]⟩ : ByteArray), (⟨#[118, 97, 108, 117, 101]⟩ : ByteArray)]))
 simp only [aV, aT, kind_mk, num_mk, str_mk, items_mk, keys_mk, Ty.kind_mk, Ty.elems_mk, Ty.names_mk, vL_one, vL_two, vL_three, vL_four, vL_five, vL_six] at hp
 refine callE hb 9 hq hp fun y16 hy16 hq => ?_
 refine callE hb 6 hq (rCheck_g hb he y16) fun y17 hy17 hq => ?_
 refine cpE hb 4 [6, 9, 14] (s' := ⟨none, [pick (bodyOf Tryz.f15) [1, 1, 1, 1, 1, 1, 1, 1, 1, 1, 1, 1, 0, 0], pick (bodyOf Tryz.f15) [1, 1, 1, 1, 1, 1, 1, 1, 1, 1, 1, 1, 0, 1], pick (bodyOf Tryz.f15) [1, 1, 1, 1, 1, 1, 1, 1, 1, 1, 1, 1, 1]], [], sl 81 [(6, pt 2), (9, c1 (vi y17)), (14, pt 5)], [bx (aV v_), bx [vi k_.kind, vi k_.num, vS k_.str], bx zV, bx [vi 3, vi 0, vS k_.str, vN, vN], bx [vi 3, vi 0, vS k_.str, vN, vN], bx (aV y16)]⟩) ?_
 refine ifE hb 4 [77] [] hq (fun hq _ => ?_) (fun hq _ => ?_)
 exact retE hb 8 (he1 _ (injO hq))
 exact retE hb 8 (he1 _ (injO hq))
noncomputable def g_r07_Equal_L2 (r_r07_Equal : Val → Val → Option (Bool)) (a_ : Val) (b_ : Val) (s2 : Int) : Option ((Int) ⊕ ((Int) ⊕ (Bool))) :=
  bif (decide (s2 < (a_.items.length : Int))) then (idx a_.items s2).bind fun x11 => (idx b_.items s2).bind fun x12 => (r_r07_Equal x11 x12).bind fun y13 => bif (!y13) then some (.inr (.inr (false))) else some (.inl (IntKind.i64.wrap (s2 + 1))) else some (.inr (.inr (true)))
noncomputable def g_r07_Equal_L1 (r_r07_Equal : Val → Val → Option (Bool)) (a_ : Val) (b_ : Val) (s1 : Int) : Option ((Int) ⊕ (Bool)) :=
  bif (decide (s1 < (a_.keys.length : Int))) then (idx a_.keys s1).bind fun x7 => (idx b_.keys s1).bind fun x8 => bif (!decide (x7 = x8)) then some (.inr (false)) else some (.inl (IntKind.i64.wrap (s1 + 1))) else loopO (g_r07_Equal_L2 r_r07_Equal a_ b_) 0
noncomputable def g_r07_Equal (r_r07_Equal : Val → Val → Option (Bool)) (a_ : Val) (b_ : Val) : Option (Bool) :=
  bif (!decide (a_.kind = b_.kind)) then some (false) else bif (!decide (a_.num = b_.num)) then some (false) else bif (!decide (a_.str = b_.str)) then some (false) else bif (!decide ((a_.items.length : Int) = (b_.items.length : Int))) then some (false) else bif (!decide ((a_.keys.length : Int) = (b_.keys.length : Int))) then some (false) else loopO (g_r07_Equal_L1 r_r07_Equal a_ b_) 0
theorem g_r07_Equal_ok (hb : Base E E0 G) (he : ∀ w, E w → EnvV w) (r_r07_Equal : Val → Val → Option (Bool)) (hr_r07_Equal : ∀ (a0 : Val) (a1 : Val) (r : Bool), r_r07_Equal a0 a1 = some r → Pure E E0 Tryz.prog 16 [.agg (aV a0), .agg (aV a1)] (c1 (vB r))) (a_ : Val) (b_ : Val) : ∀ r_ : Bool, g_r07_Equal r_r07_Equal a_ b_ = some r_ →
 Pure E E0 Tryz.prog 16 [.agg (aV a_), .agg (aV b_)] (c1 (vB r_)) := by
 refine fnE hb Tryz.func16 rfl fun r_ hq => ?_
 refine ifE hb 15 [11, 12] [] hq (fun hq _ => ?_) (fun hq _ => ?_)
 exact retE hb 37 (injO hq).symm
 refine ifE hb 7 [17, 18, 19] [] hq (fun hq _ => ?_) (fun hq _ => ?_)
 exact retE hb 30 (injO hq).symm
 refine ifE hb 7 [24, 25, 26] [] hq (fun hq _ => ?_) (fun hq _ => ?_)
 exact retE hb 23 (injO hq).symm
 refine ifE hb 9 [33, 34, 35] [] hq (fun hq _ => ?_) (fun hq _ => ?_)
 exact retE hb 14 (injO hq).symm
 refine ifE hb 9 [42, 43] [] hq (fun hq _ => ?_) (fun hq _ => ?_)
 exact retE hb 5 (injO hq).symm
 refine cpE hb 8 [2, 3, 5] (s' := ⟨none, [pick (bodyOf Tryz.f16) [1, 1, 0, 1, 0]], [(0, [pick (bodyOf Tryz.f16) [1, 1, 1]])], sl 81 [(2, pt 0), (3, pt 1), (5, c1 (vi 0))], [bx (aV a_), bx (aV b_)]⟩) ?_
 refine loopE hb 0 (g_r07_Equal_L1 r_r07_Equal a_ b_) (fun s1 => sl 81 [(2, pt 0), (3, pt 1), (5, c1 (vi s1))]) (fun s1 => [bx (aV a_), bx (aV b_)]) [2, 3, 5] [] 2 (s0 := 0) ⟨(by kernel_rfl), (by kernel_rfl), trivial⟩ hq (fun s1 x1 hq hn1 he1 => ?_)
 refine ifE hb 9 [48] [] hq (fun hq _ => ?_) (fun hq _ => ?_)
 refine drawE hb mixed 5 10 [] ?_
 refine idxE hb flS 3 hq fun x7 hx7 hq => ?_
 refine idxE hb flS 4 hq fun x8 hx8 hq => ?_
 refine ifE hb 4 [61] [] hq (fun hq _ => ?_) (fun hq _ => ?_)
 exact retE hb 5 (he1 _ (injO hq))
 exact backE hb 8 [2, 3, 5] [] 2 (hn1 _ (injO hq)) ⟨(by kernel_rfl), (by kernel_rfl), trivial⟩
 refine loopE hb 8 (g_r07_Equal_L2 r_r07_Equal a_ b_) (fun s2 => sl 81 [(2, pt 0), (3, pt 1), (6, c1 (vi s2))]) (fun s2 => [bx (aV a_), bx (aV b_)]) [2, 3, 6] [] 2 (s0 := 0) ⟨(by kernel_rfl), (by kernel_rfl), trivial⟩ hq (fun s2 x2 hq hn2 he2 => ?_)
 refine ifE hb 9 [66] [] hq (fun hq _ => ?_) (fun hq _ => ?_)
 refine drawE hb mixed 5 10 [] ?_
 refine idxE hb flV 3 hq fun x11 hx11 hq => ?_
 refine idxE hb flV 4 hq fun x12 hx12 hq => ?_
 refine callE hb 2 hq (hr_r07_Equal x11 x12) fun y13 hy13 hq => ?_
 refine ifE hb 2 [80] [] hq (fun hq _ => ?_) (fun hq _ => ?_)
 refine cpE hb 2 [] (s' := ⟨none, [pick (bodyOf Tryz.f16) [1, 1, 1, 0, 1, 0, 0, 1, 0, 0, 1, 0, 0], pick (bodyOf Tryz.f16) [1, 1, 1, 0, 1, 0, 0, 1, 0, 0, 1, 0, 1]], [(3, [pick (bodyOf Tryz.f16) [1, 1, 1, 0, 1, 0, 0, 1, 1], pick (bodyOf Tryz.f16) [1, 1, 1, 0, 1, 0]]), (2, [pick (bodyOf Tryz.f16) [1, 1, 1, 1]])], sl 81 [], [bx (aV a_), bx (aV b_)]⟩) ?_
 exact retE hb 3 (he1 _ ((he2 _ (injO hq)).symm))
 refine cpE hb 3 [2, 3, 6] (s' := ⟨none, [pick (bodyOf Tryz.f16) [1, 1, 1, 0, 1, 0, 0, 1, 1], pick (bodyOf Tryz.f16) [1, 1, 1, 0, 1, 0]], [(2, [pick (bodyOf Tryz.f16) [1, 1, 1, 1]])], sl 81 [(2, pt 0), (3, pt 1), (6, c1 (vi s2))], [bx (aV a_), bx (aV b_)]⟩) ?_
 exact backE hb 5 [2, 3, 6] [] 2 (hn2 _ (injO hq)) ⟨(by kernel_rfl), (by kernel_rfl), trivial⟩
 exact retE hb 6 (he1 _ ((he2 _ (injO hq)).symm))
noncomputable def t_r07_Equal_step (rec : Val → Val → Option (Bool)) (a : Val) (b : Val) : Option (Bool) :=
  g_r07_Equal (fun a0 a1 => rec a0 a1) a b
noncomputable def t_r07_Equal (a0 : Val) (a1 : Val) : Option (Bool) := tieF relV wfV t_r07_Equal_step a0 a1
theorem t_r07_Equal_ok (hb : Base E E0 G) (he : ∀ w, E w → EnvV w) (a0 : Val) (a1 : Val) (r : Bool) (hq : t_r07_Equal a0 a1 = some r) : Pure E E0 Tryz.prog 16 [.agg (aV a0), .agg (aV a1)] (c1 (vB r)) :=
  tieF_ok (C := fun a b r => Pure E E0 Tryz.prog 16 [.agg (aV a), .agg (aV b)] (c1 (vB r))) (fun rec hr a b r hq => g_r07_Equal_ok hb he (fun a0 a1 => rec a0 a1) (fun a0 a1 r e => hr a0 a1 r e) a b r hq) a0 a1 r hq
noncomputable def g_l21_InstancesScopes  (rr_ : Int) (v_ : Val) (k_ : KeyG) : Option (Bool) :=
  (g_l21_right v_).bind fun y1 => bif (!y1) then (g_l21_awake).bind fun y3 => some (y3) else (g_instances_Scope rr_ v_ k_).bind fun y4 => (g_r21_Scope rr_ v_ k_).bind fun y5 => bif (decide (y4.2 = y5.2)) then (t_r07_Equal y4.1 y5.1).bind fun y7 => bif y7 then (g_l21_awake).bind fun y9 => some (y9) else some (false) else some (false)
theorem g_l21_InstancesScopes_ok (hb : Base E E0 G) (he : ∀ w, E w → EnvV w)   (rr_ : Int) (v_ : Val) (k_ : KeyG) : ∀ r_ : Bool, g_l21_InstancesScopes rr_ v_ k_ = some r_ →
 Pure E E0 Tryz.prog 4 [.cell (vi rr_), .agg (aV v_), .agg [vi k_.kind, vi k_.num, vS k_.str]] (c1 (vB r_)) := by
 refine fnE hb Tryz.func4 rfl fun r_ hq => ?_
 refine callE hb 10 hq (g_l21_right_ok hb he v_) fun y1 hy1 hq => ?_
 refine ifE hb 2 [13] [] hq (fun hq _ => ?_) (fun hq _ => ?_)
 refine callE hb 3 hq (g_l21_awake_ok hb he ) fun y3 hy3 hq => ?_
 exact retE hb 2 (injO hq).symm
 refine callE hb 7 hq (g_instances_Scope_ok hb he rr_ v_ k_) fun y4 hy4 hq => ?_
 refine callE hb 12 hq (g_r21_Scope_ok hb he rr_ v_ k_) fun y5 hy5 hq => ?_
 refine ifE hb 13 [31, 32] [] hq (fun hq _ => ?_) (fun hq _ => ?_)
 refine callE hb 2 hq (t_r07_Equal_ok hb he y4.1 y5.1) fun y7 hy7 hq => ?_
 refine ifE hb 2 [35, 36, 37] [] hq (fun hq _ => ?_) (fun hq _ => ?_)
 refine callE hb 0 hq (g_l21_awake_ok hb he ) fun y9 hy9 hq => ?_
 exact retE hb 3 (injO hq).symm
 exact retE hb 4 (injO hq).symm
 exact retE hb 9 (injO hq).symm
noncomputable def g_r21_Collect_L1 (rr_ : Int) (keys_ : List KeyG) (items_ : List Val) (s1 : Int × List Val × List ByteArray) : Option ((Int × List Val × List ByteArray) ⊕ (Val × Int)) :=
  bif (decide (s1.1 < (keys_.length : Int))) then bif (decide (rr_ = 1)) then (idx keys_ s1.1).bind fun x12 => bif (!(decide ((x12.kind : Int) = 1) && (decide ((x12.num : Int) = s1.1) && (decide (x12.str = eS) && true)))) then some (.inr ((Val.mk 0 0 eS [] []), 1)) else (idx keys_ s1.1).bind fun x14 => bif (!decide (x14.kind = 2)) then some (.inr ((Val.mk 0 0 eS [] []), 1)) else (idx keys_ s1.1).bind fun x16 => bif (!decide (x16.num = 0)) then some (.inr ((Val.mk 0 0 eS [] []), 1)) else bif (decide (s1.1 > 0)) then (idx keys_ (IntKind.i64.wrap (s1.1 - 1))).bind fun x19 => (idx keys_ s1.1).bind fun x20 => bif (!Op.bytesLess x19.str.toList x20.str.toList) then some (.inr ((Val.mk 0 0 eS [] []), 1)) else (idx keys_ s1.1).bind fun x22 => (app 16 s1.2.2 [x22.str]).bind fun l23 => (idx items_ s1.1).bind fun x24 => (app 80 s1.2.1 [x24]).bind fun l25 => some (.inl ((IntKind.i64.wrap (s1.1 + 1)), l25, l23)) else (idx keys_ s1.1).bind fun x26 => (app 16 s1.2.2 [x26.str]).bind fun l27 => (idx items_ s1.1).bind fun x28 => (app 80 s1.2.1 [x28]).bind fun l29 => some (.inl ((IntKind.i64.wrap (s1.1 + 1)), l29, l27)) else (idx keys_ s1.1).bind fun x30 => bif (!decide (x30.kind = 2)) then some (.inr ((Val.mk 0 0 eS [] []), 1)) else (idx keys_ s1.1).bind fun x32 => bif (!decide (x32.num = 0)) then some (.inr ((Val.mk 0 0 eS [] []), 1)) else bif (decide (s1.1 > 0)) then (idx keys_ (IntKind.i64.wrap (s1.1 - 1))).bind fun x35 => (idx keys_ s1.1).bind fun x36 => bif (!Op.bytesLess x35.str.toList x36.str.toList) then some (.inr ((Val.mk 0 0 eS [] []), 1)) else (idx keys_ s1.1).bind fun x38 => (app 16 s1.2.2 [x38.str]).bind fun l39 => (idx items_ s1.1).bind fun x40 => (app 80 s1.2.1 [x40]).bind fun l41 => some (.inl ((IntKind.i64.wrap (s1.1 + 1)), l41, l39)) else (idx keys_ s1.1).bind fun x42 => (app 16 s1.2.2 [x42.str]).bind fun l43 => (idx items_ s1.1).bind fun x44 => (app 80 s1.2.1 [x44]).bind fun l45 => some (.inl ((IntKind.i64.wrap (s1.1 + 1)), l45, l43)) else (m_checkE (Val.mk 5 0 eS s1.2.1 s1.2.2)).bind fun y46 => bif (!decide (y46 = 0)) then some (.inr ((Val.mk 0 0 eS [] []), y46)) else some (.inr ((Val.mk 5 0 eS s1.2.1 s1.2.2), 0))
noncomputable def g_r21_Collect_L2 (rr_ : Int) (keys_ : List KeyG) (items_ : List Val) (s1 : Int × List Val) : Option ((Int × List Val) ⊕ (Val × Int)) :=
  bif (decide (s1.1 < (keys_.length : Int))) then bif (decide (rr_ = 1)) then (idx keys_ s1.1).bind fun x50 => bif (!(decide ((x50.kind : Int) = 1) && (decide ((x50.num : Int) = s1.1) && (decide (x50.str = eS) && true)))) then some (.inr ((Val.mk 0 0 eS [] []), 1)) else (idx items_ s1.1).bind fun x52 => (app 80 s1.2 [x52]).bind fun l53 => some (.inl ((IntKind.i64.wrap (s1.1 + 1)), l53)) else (idx items_ s1.1).bind fun x54 => (app 80 s1.2 [x54]).bind fun l55 => some (.inl ((IntKind.i64.wrap (s1.1 + 1)), l55)) else (m_checkE (Val.mk 4 0 eS s1.2 [])).bind fun y56 => bif (!decide (y56 = 0)) then some (.inr ((Val.mk 0 0 eS [] []), y56)) else some (.inr ((Val.mk 4 0 eS s1.2 []), 0))
noncomputable def g_r21_Collect  (rr_ : Int) (keys_ : List KeyG) (items_ : List Val) : Option (Val × Int) :=
  bif (!decide ((keys_.length : Int) = (items_.length : Int))) then some ((Val.mk 0 0 eS [] []), 1) else bif (decide (rr_ < 0)) then some ((Val.mk 0 0 eS [] []), 1) else bif (decide (rr_ > 2)) then some ((Val.mk 0 0 eS [] []), 1) else bif (decide (rr_ = 0)) then bif (!decide ((keys_.length : Int) = 1)) then some ((Val.mk 0 0 eS [] []), 1) else (idx keys_ 0).bind fun x6 => bif (!(decide ((x6.kind : Int) = 0) && (decide ((x6.num : Int) = 0) && (decide (x6.str = eS) && true)))) then some ((Val.mk 0 0 eS [] []), 1) else (idx items_ 0).bind fun x8 => some (x8, 0) else bif (decide (rr_ = 2)) then loopO (g_r21_Collect_L1 rr_ keys_ items_) (0, [], []) else loopO (g_r21_Collect_L2 rr_ keys_ items_) (0, [])
theorem g_r21_Collect_ok (hb : Base E E0 G) (he : ∀ w, E w → EnvV w)   (rr_ : Int) (keys_ : List KeyG) (items_ : List Val) : ∀ r_ : Val × Int, g_r21_Collect rr_ keys_ items_ = some r_ →
 Pure E E0 Tryz.prog 18 [.cell (vi rr_), .cell (vL flKeyG keys_), .cell (vL flV items_)] (.tup [.agg (aV r_.1), .cell (vi r_.2)]) := by
 refine fnE hb Tryz.func18 rfl fun r_ hq => ?_
 refine ifE hb 14 [15, 16] [] hq (fun hq _ => ?_) (fun hq _ => ?_)
 exact retE hb 31 (injO hq).symm
 refine ifE hb 4 [18, 19, 20] [] hq (fun hq _ => ?_) (fun hq _ => ?_)
 exact retE hb 27 (injO hq).symm
 refine ifE hb 4 [22, 23, 24] [] hq (fun hq _ => ?_) (fun hq _ => ?_)
 exact retE hb 23 (injO hq).symm
 refine ifE hb 3 [26, 27] [] hq (fun hq hc4 => ?_) (fun hq hc4 => ?_)
 refine ifE hb 4 [30, 31] [] hq (fun hq _ => ?_) (fun hq _ => ?_)
 exact retE hb 16 (injO hq).symm
 refine idxE hb flKeyG 1 hq fun x6 hx6 hq => ?_
 refine ifE hb 7 [36, 37, 38, 39] [] hq (fun hq _ => ?_) (fun hq _ => ?_)
 refine cpE hb 2 [6] (s' := ⟨none, [pick (bodyOf Tryz.f18) [1, 0, 1, 0, 0], pick (bodyOf Tryz.f18) [1, 0, 1, 0, 1], pick (bodyOf Tryz.f18) [1, 1]], [], sl 133 [(6, pt 0)], [bx zV]⟩) ?_
 exact retE hb 5 (injO hq).symm
 refine cpE hb 4 [0, 1, 2, 6] (s' := ⟨none, [pick (bodyOf Tryz.f18) [1, 1, 0, 0], pick (bodyOf Tryz.f18) [1, 1, 0, 1], pick (bodyOf Tryz.f18) [1, 1, 1]], [], sl 133 [(0, c1 (vi rr_)), (1, c1 (vL flKeyG keys_)), (2, c1 (vL flV items_)), (6, pt 0)], [bx zV]⟩) ?_
 refine knE hb 4 [42] [] (b := (decide (rr_ = 0))) (v := true) hc4 ?_
 refine idxE hb flV 4 hq fun x8 hx8 hq => ?_
 exact retE hb 4 (injO hq).symm
 refine knE hb 21 [42] [] (b := (decide (rr_ = 0))) (v := false) hc4 ?_
 refine ifE hb 14 [48] [] hq (fun hq hc9 => ?_) (fun hq hc9 => ?_)
 refine cpE hb 11 [0, 1, 2, 6, 8, 9] (s' := ⟨none, [pick (bodyOf Tryz.f18) [1, 1, 1, 1, 1, 0, 1, 0]], [(0, [pick (bodyOf Tryz.f18) [1, 1, 1, 1, 1, 1]])], sl 133 [(0, c1 (vi rr_)), (1, c1 (vL flKeyG keys_)), (2, c1 (vL flV items_)), (6, pt 0), (8, pt 1), (9, c1 (vi 0))], [bx zV, bx [vi 5, vi 0, vS eS, vN, vN]]⟩) ?_
 refine ownSE hb 0 1 3 5 (cs := [vi 5, vi 0, vS eS, vN, vN]) (by kernel_rfl) ?_
 refine ownSE hb 0 1 4 1 (cs := [vi 5, vi 0, vS eS, vO flV 2 [], vN]) (by kernel_rfl) ?_
 refine loopE hb 0 (g_r21_Collect_L1 rr_ keys_ items_) (fun s1 => sl 133 [(0, c1 (vi rr_)), (1, c1 (vL flKeyG keys_)), (2, c1 (vL flV items_)), (6, pt 0), (8, pt 1), (9, c1 (vi s1.1))]) (fun s1 => [bx zV, bx [vi 5, vi 0, vS eS, vO flV 2 s1.2.1, vO flS 3 s1.2.2], some (arO true flV.sz 0 (flV.f s1.2.1)), some (arO true flS.sz 0 (flS.f s1.2.2))]) [0, 1, 2, 6, 8, 9] [] 4 (s0 := (0, [], [])) ⟨(by kernel_rfl), (by kernel_rfl), (under_arO _ _ _ _ _), (under_arO _ _ _ _ _), trivial⟩ hq (fun s1 x1 hq hn1 he1 => ?_)
 refine ifE hb 8 [53] [] hq (fun hq _ => ?_) (fun hq _ => ?_)
 refine ifE hb 10 [57, 58] [] hq (fun hq _ => ?_) (fun hq _ => ?_)
 refine idxE hb flKeyG 2 hq fun x12 hx12 hq => ?_
 refine ifE hb 6 [65, 66] [] hq (fun hq _ => ?_) (fun hq _ => ?_)
 exact retE hb 7 (he1 _ (injO hq))
 refine drawE hb mixed 4 32 [] ?_
 refine knE hb 3 [69, 70] [] (b := (decide (rr_ = 2))) (v := true) hc9 ?_
 refine idxE hb flKeyG 2 hq fun x14 hx14 hq => ?_
 refine ifE hb 4 [76, 77] [] hq (fun hq _ => ?_) (fun hq _ => ?_)
 refine cpE hb 28 [0, 1, 2, 6, 8, 9, 103] (s' := ⟨none, [pick (bodyOf Tryz.f18) [1, 1, 1, 1, 1, 0, 1, 0, 0, 1, 0, 0, 1, 0, 1], pick (bodyOf Tryz.f18) [1, 1, 1, 1, 1, 0, 1, 0, 0, 1, 0, 0, 1, 1]], [(1, [pick (bodyOf Tryz.f18) [1, 1, 1, 1, 1, 0, 1, 0, 0, 1, 1], pick (bodyOf Tryz.f18) [1, 1, 1, 1, 1, 0, 1, 0]]), (0, [pick (bodyOf Tryz.f18) [1, 1, 1, 1, 1, 1]])], sl 133 [(0, c1 (vi rr_)), (1, c1 (vL flKeyG keys_)), (2, c1 (vL flV items_)), (6, pt 0), (8, pt 1), (9, c1 (vi s1.1)), (103, c1 (vB true))], [bx zV, bx [vi 5, vi 0, vS eS, vO flV 2 s1.2.1, vO flS 3 s1.2.2], some (arO true flV.sz 0 (flV.f s1.2.1)), some (arO true flS.sz 0 (flS.f s1.2.2))]⟩) ?_
 exact retE hb 7 (he1 _ (injO hq))
 refine idxE hb flKeyG 2 hq fun x16 hx16 hq => ?_
 refine ifE hb 5 [83, 84, 85] [] hq (fun hq _ => ?_) (fun hq _ => ?_)
 refine cpE hb 20 [0, 1, 2, 6, 8, 9, 103] (s' := ⟨none, [pick (bodyOf Tryz.f18) [1, 1, 1, 1, 1, 0, 1, 0, 0, 1, 0, 0, 1, 0, 1], pick (bodyOf Tryz.f18) [1, 1, 1, 1, 1, 0, 1, 0, 0, 1, 0, 0, 1, 1]], [(1, [pick (bodyOf Tryz.f18) [1, 1, 1, 1, 1, 0, 1, 0, 0, 1, 1], pick (bodyOf Tryz.f18) [1, 1, 1, 1, 1, 0, 1, 0]]), (0, [pick (bodyOf Tryz.f18) [1, 1, 1, 1, 1, 1]])], sl 133 [(0, c1 (vi rr_)), (1, c1 (vL flKeyG keys_)), (2, c1 (vL flV items_)), (6, pt 0), (8, pt 1), (9, c1 (vi s1.1)), (103, c1 (vB true))], [bx zV, bx [vi 5, vi 0, vS eS, vO flV 2 s1.2.1, vO flS 3 s1.2.2], some (arO true flV.sz 0 (flV.f s1.2.1)), some (arO true flS.sz 0 (flS.f s1.2.2))]⟩) ?_
 exact retE hb 7 (he1 _ (injO hq))
 refine ifE hb 3 [87, 88] [] hq (fun hq _ => ?_) (fun hq _ => ?_)
 refine idxE hb flKeyG 3 hq fun x19 hx19 hq => ?_
 refine idxE hb flKeyG 4 hq fun x20 hx20 hq => ?_
 refine cpE hb 8 [0, 1, 2, 6, 8, 9, 103] (s' := ⟨none, [pick (bodyOf Tryz.f18) [1, 1, 1, 1, 1, 0, 1, 0, 0, 1, 0, 0, 1, 0, 1], pick (bodyOf Tryz.f18) [1, 1, 1, 1, 1, 0, 1, 0, 0, 1, 0, 0, 1, 1]], [(1, [pick (bodyOf Tryz.f18) [1, 1, 1, 1, 1, 0, 1, 0, 0, 1, 1], pick (bodyOf Tryz.f18) [1, 1, 1, 1, 1, 0, 1, 0]]), (0, [pick (bodyOf Tryz.f18) [1, 1, 1, 1, 1, 1]])], sl 133 [(0, c1 (vi rr_)), (1, c1 (vL flKeyG keys_)), (2, c1 (vL flV items_)), (6, pt 0), (8, pt 1), (9, c1 (vi s1.1)), (103, c1 (vB (!Op.bytesLess x19.str.toList x20.str.toList)))], [bx zV, bx [vi 5, vi 0, vS eS, vO flV 2 s1.2.1, vO flS 3 s1.2.2], some (arO true flV.sz 0 (flV.f s1.2.1)), some (arO true flS.sz 0 (flS.f s1.2.2))]⟩) ?_
 refine ifE hb 0 [103] [] hq (fun hq _ => ?_) (fun hq _ => ?_)
 exact retE hb 7 (he1 _ (injO hq))
 refine knE hb 8 [106] [] (b := (decide (rr_ = 2))) (v := true) hc9 ?_
 refine drawE hb mixed 1 8 [] ?_
 refine idxE hb flKeyG 4 hq fun x22 hx22 hq => ?_
 refine appOwnE flS hb 4 3 true 0 (flS.one x22.str) hq fun l23 hl23 hq => ?_
 refine drawE hb mixed 3 7 [] ?_
 refine idxE hb flV 4 hq fun x24 hx24 hq => ?_
 refine appOwnE flV hb 3 2 true 0 (flV.one x24) hq fun l25 hl25 hq => ?_
 refine cpE hb 4 [0, 1, 2, 6, 8, 9] (s' := ⟨none, [pick (bodyOf Tryz.f18) [1, 1, 1, 1, 1, 0, 1, 0, 0, 1, 1], pick (bodyOf Tryz.f18) [1, 1, 1, 1, 1, 0, 1, 0]], [(0, [pick (bodyOf Tryz.f18) [1, 1, 1, 1, 1, 1]])], sl 133 [(0, c1 (vi rr_)), (1, c1 (vL flKeyG keys_)), (2, c1 (vL flV items_)), (6, pt 0), (8, pt 1), (9, c1 (vi s1.1))], [bx zV, bx [vi 5, vi 0, vS eS, vO flV 2 l25, vO flS 3 l23], some (arO true flV.sz 0 (flV.f l25)), some (arO true flS.sz 0 (flS.f l23))]⟩) ?_
 exact backE hb 5 [0, 1, 2, 6, 8, 9] [] 4 (hn1 _ (injO hq)) ⟨(by kernel_rfl), (by kernel_rfl), (under_arO _ _ _ _ _), (under_arO _ _ _ _ _), trivial⟩
 refine cpE hb 17 [0, 1, 2, 6, 8, 9, 103] (s' := ⟨none, [pick (bodyOf Tryz.f18) [1, 1, 1, 1, 1, 0, 1, 0, 0, 1, 0, 0, 1, 0, 1], pick (bodyOf Tryz.f18) [1, 1, 1, 1, 1, 0, 1, 0, 0, 1, 0, 0, 1, 1]], [(1, [pick (bodyOf Tryz.f18) [1, 1, 1, 1, 1, 0, 1, 0, 0, 1, 1], pick (bodyOf Tryz.f18) [1, 1, 1, 1, 1, 0, 1, 0]]), (0, [pick (bodyOf Tryz.f18) [1, 1, 1, 1, 1, 1]])], sl 133 [(0, c1 (vi rr_)), (1, c1 (vL flKeyG keys_)), (2, c1 (vL flV items_)), (6, pt 0), (8, pt 1), (9, c1 (vi s1.1)), (103, c1 (vB false))], [bx zV, bx [vi 5, vi 0, vS eS, vO flV 2 s1.2.1, vO flS 3 s1.2.2], some (arO true flV.sz 0 (flV.f s1.2.1)), some (arO true flS.sz 0 (flS.f s1.2.2))]⟩) ?_
 refine knE hb 8 [106] [] (b := (decide (rr_ = 2))) (v := true) hc9 ?_
 refine drawE hb mixed 1 8 [] ?_
 refine idxE hb flKeyG 4 hq fun x26 hx26 hq => ?_
 refine appOwnE flS hb 4 3 true 0 (flS.one x26.str) hq fun l27 hl27 hq => ?_
 refine drawE hb mixed 3 7 [] ?_
 refine idxE hb flV 4 hq fun x28 hx28 hq => ?_
 refine appOwnE flV hb 3 2 true 0 (flV.one x28) hq fun l29 hl29 hq => ?_
 refine cpE hb 4 [0, 1, 2, 6, 8, 9] (s' := ⟨none, [pick (bodyOf Tryz.f18) [1, 1, 1, 1, 1, 0, 1, 0, 0, 1, 1], pick (bodyOf Tryz.f18) [1, 1, 1, 1, 1, 0, 1, 0]], [(0, [pick (bodyOf Tryz.f18) [1, 1, 1, 1, 1, 1]])], sl 133 [(0, c1 (vi rr_)), (1, c1 (vL flKeyG keys_)), (2, c1 (vL flV items_)), (6, pt 0), (8, pt 1), (9, c1 (vi s1.1))], [bx zV, bx [vi 5, vi 0, vS eS, vO flV 2 l29, vO flS 3 l27], some (arO true flV.sz 0 (flV.f l29)), some (arO true flS.sz 0 (flS.f l27))]⟩) ?_
 exact backE hb 5 [0, 1, 2, 6, 8, 9] [] 4 (hn1 _ (injO hq)) ⟨(by kernel_rfl), (by kernel_rfl), (under_arO _ _ _ _ _), (under_arO _ _ _ _ _), trivial⟩
 refine drawE hb mixed 13 32 [] ?_
 refine knE hb 3 [69, 70] [] (b := (decide (rr_ = 2))) (v := true) hc9 ?_
 refine idxE hb flKeyG 2 hq fun x30 hx30 hq => ?_
 refine ifE hb 4 [76, 77] [] hq (fun hq _ => ?_) (fun hq _ => ?_)
 refine cpE hb 28 [0, 1, 2, 6, 8, 9, 103] (s' := ⟨none, [pick (bodyOf Tryz.f18) [1, 1, 1, 1, 1, 0, 1, 0, 0, 1, 0, 0, 1, 0, 1], pick (bodyOf Tryz.f18) [1, 1, 1, 1, 1, 0, 1, 0, 0, 1, 0, 0, 1, 1]], [(1, [pick (bodyOf Tryz.f18) [1, 1, 1, 1, 1, 0, 1, 0, 0, 1, 1], pick (bodyOf Tryz.f18) [1, 1, 1, 1, 1, 0, 1, 0]]), (0, [pick (bodyOf Tryz.f18) [1, 1, 1, 1, 1, 1]])], sl 133 [(0, c1 (vi rr_)), (1, c1 (vL flKeyG keys_)), (2, c1 (vL flV items_)), (6, pt 0), (8, pt 1), (9, c1 (vi s1.1)), (103, c1 (vB true))], [bx zV, bx [vi 5, vi 0, vS eS, vO flV 2 s1.2.1, vO flS 3 s1.2.2], some (arO true flV.sz 0 (flV.f s1.2.1)), some (arO true flS.sz 0 (flS.f s1.2.2))]⟩) ?_
 exact retE hb 7 (he1 _ (injO hq))
 refine idxE hb flKeyG 2 hq fun x32 hx32 hq => ?_
 refine ifE hb 5 [83, 84, 85] [] hq (fun hq _ => ?_) (fun hq _ => ?_)
 refine cpE hb 20 [0, 1, 2, 6, 8, 9, 103] (s' := ⟨none, [pick (bodyOf Tryz.f18) [1, 1, 1, 1, 1, 0, 1, 0, 0, 1, 0, 0, 1, 0, 1], pick (bodyOf Tryz.f18) [1, 1, 1, 1, 1, 0, 1, 0, 0, 1, 0, 0, 1, 1]], [(1, [pick (bodyOf Tryz.f18) [1, 1, 1, 1, 1, 0, 1, 0, 0, 1, 1], pick (bodyOf Tryz.f18) [1, 1, 1, 1, 1, 0, 1, 0]]), (0, [pick (bodyOf Tryz.f18) [1, 1, 1, 1, 1, 1]])], sl 133 [(0, c1 (vi rr_)), (1, c1 (vL flKeyG keys_)), (2, c1 (vL flV items_)), (6, pt 0), (8, pt 1), (9, c1 (vi s1.1)), (103, c1 (vB true))], [bx zV, bx [vi 5, vi 0, vS eS, vO flV 2 s1.2.1, vO flS 3 s1.2.2], some (arO true flV.sz 0 (flV.f s1.2.1)), some (arO true flS.sz 0 (flS.f s1.2.2))]⟩) ?_
 exact retE hb 7 (he1 _ (injO hq))
 refine ifE hb 3 [87, 88] [] hq (fun hq _ => ?_) (fun hq _ => ?_)
 refine idxE hb flKeyG 3 hq fun x35 hx35 hq => ?_
 refine idxE hb flKeyG 4 hq fun x36 hx36 hq => ?_
 refine cpE hb 8 [0, 1, 2, 6, 8, 9, 103] (s' := ⟨none, [pick (bodyOf Tryz.f18) [1, 1, 1, 1, 1, 0, 1, 0, 0, 1, 0, 0, 1, 0, 1], pick (bodyOf Tryz.f18) [1, 1, 1, 1, 1, 0, 1, 0, 0, 1, 0, 0, 1, 1]], [(1, [pick (bodyOf Tryz.f18) [1, 1, 1, 1, 1, 0, 1, 0, 0, 1, 1], pick (bodyOf Tryz.f18) [1, 1, 1, 1, 1, 0, 1, 0]]), (0, [pick (bodyOf Tryz.f18) [1, 1, 1, 1, 1, 1]])], sl 133 [(0, c1 (vi rr_)), (1, c1 (vL flKeyG keys_)), (2, c1 (vL flV items_)), (6, pt 0), (8, pt 1), (9, c1 (vi s1.1)), (103, c1 (vB (!Op.bytesLess x35.str.toList x36.str.toList)))], [bx zV, bx [vi 5, vi 0, vS eS, vO flV 2 s1.2.1, vO flS 3 s1.2.2], some (arO true flV.sz 0 (flV.f s1.2.1)), some (arO true flS.sz 0 (flS.f s1.2.2))]⟩) ?_
 refine ifE hb 0 [103] [] hq (fun hq _ => ?_) (fun hq _ => ?_)
 exact retE hb 7 (he1 _ (injO hq))
 refine knE hb 8 [106] [] (b := (decide (rr_ = 2))) (v := true) hc9 ?_
 refine drawE hb mixed 1 8 [] ?_
 refine idxE hb flKeyG 4 hq fun x38 hx38 hq => ?_
 refine appOwnE flS hb 4 3 true 0 (flS.one x38.str) hq fun l39 hl39 hq => ?_
 refine drawE hb mixed 3 7 [] ?_
 refine idxE hb flV 4 hq fun x40 hx40 hq => ?_
 refine appOwnE flV hb 3 2 true 0 (flV.one x40) hq fun l41 hl41 hq => ?_
 refine cpE hb 4 [0, 1, 2, 6, 8, 9] (s' := ⟨none, [pick (bodyOf Tryz.f18) [1, 1, 1, 1, 1, 0, 1, 0, 0, 1, 1], pick (bodyOf Tryz.f18) [1, 1, 1, 1, 1, 0, 1, 0]], [(0, [pick (bodyOf Tryz.f18) [1, 1, 1, 1, 1, 1]])], sl 133 [(0, c1 (vi rr_)), (1, c1 (vL flKeyG keys_)), (2, c1 (vL flV items_)), (6, pt 0), (8, pt 1), (9, c1 (vi s1.1))], [bx zV, bx [vi 5, vi 0, vS eS, vO flV 2 l41, vO flS 3 l39], some (arO true flV.sz 0 (flV.f l41)), some (arO true flS.sz 0 (flS.f l39))]⟩) ?_
 exact backE hb 5 [0, 1, 2, 6, 8, 9] [] 4 (hn1 _ (injO hq)) ⟨(by kernel_rfl), (by kernel_rfl), (under_arO _ _ _ _ _), (under_arO _ _ _ _ _), trivial⟩
 refine cpE hb 17 [0, 1, 2, 6, 8, 9, 103] (s' := ⟨none, [pick (bodyOf Tryz.f18) [1, 1, 1, 1, 1, 0, 1, 0, 0, 1, 0, 0, 1, 0, 1], pick (bodyOf Tryz.f18) [1, 1, 1, 1, 1, 0, 1, 0, 0, 1, 0, 0, 1, 1]], [(1, [pick (bodyOf Tryz.f18) [1, 1, 1, 1, 1, 0, 1, 0, 0, 1, 1], pick (bodyOf Tryz.f18) [1, 1, 1, 1, 1, 0, 1, 0]]), (0, [pick (bodyOf Tryz.f18) [1, 1, 1, 1, 1, 1]])], sl 133 [(0, c1 (vi rr_)), (1, c1 (vL flKeyG keys_)), (2, c1 (vL flV items_)), (6, pt 0), (8, pt 1), (9, c1 (vi s1.1)), (103, c1 (vB false))], [bx zV, bx [vi 5, vi 0, vS eS, vO flV 2 s1.2.1, vO flS 3 s1.2.2], some (arO true flV.sz 0 (flV.f s1.2.1)), some (arO true flS.sz 0 (flS.f s1.2.2))]⟩) ?_
 refine knE hb 8 [106] [] (b := (decide (rr_ = 2))) (v := true) hc9 ?_
 refine drawE hb mixed 1 8 [] ?_
 refine idxE hb flKeyG 4 hq fun x42 hx42 hq => ?_
 refine appOwnE flS hb 4 3 true 0 (flS.one x42.str) hq fun l43 hl43 hq => ?_
 refine drawE hb mixed 3 7 [] ?_
 refine idxE hb flV 4 hq fun x44 hx44 hq => ?_
 refine appOwnE flV hb 3 2 true 0 (flV.one x44) hq fun l45 hl45 hq => ?_
 refine cpE hb 4 [0, 1, 2, 6, 8, 9] (s' := ⟨none, [pick (bodyOf Tryz.f18) [1, 1, 1, 1, 1, 0, 1, 0, 0, 1, 1], pick (bodyOf Tryz.f18) [1, 1, 1, 1, 1, 0, 1, 0]], [(0, [pick (bodyOf Tryz.f18) [1, 1, 1, 1, 1, 1]])], sl 133 [(0, c1 (vi rr_)), (1, c1 (vL flKeyG keys_)), (2, c1 (vL flV items_)), (6, pt 0), (8, pt 1), (9, c1 (vi s1.1))], [bx zV, bx [vi 5, vi 0, vS eS, vO flV 2 l45, vO flS 3 l43], some (arO true flV.sz 0 (flV.f l45)), some (arO true flS.sz 0 (flS.f l43))]⟩) ?_
 exact backE hb 5 [0, 1, 2, 6, 8, 9] [] 4 (hn1 _ (injO hq)) ⟨(by kernel_rfl), (by kernel_rfl), (under_arO _ _ _ _ _), (under_arO _ _ _ _ _), trivial⟩
 refine callVE hb 5 (vs := [.agg [vi 5, vi 0, vS eS, vO flV 2 s1.2.1, vO flS 3 s1.2.2]]) hq (frz_cons (frz_agg (frzL_cons (by kernel_rfl) (frzL_cons (by kernel_rfl) (frzL_cons (by kernel_rfl) (frzL_cons (frz_own flV (b := true) (id := 2) (fr := 0) (xs := s1.2.1) (by kernel_rfl)) (frzL_cons (frz_own flS (b := true) (id := 3) (fr := 0) (xs := s1.2.2) (by kernel_rfl)) rfl)))))) rfl) (fun _ => rfl) (rCheck_g hb he (Val.mk 5 0 eS s1.2.1 s1.2.2)) fun y46 hy46 hq => ?_
 refine ifE hb 8 [129] [] hq (fun hq _ => ?_) (fun hq _ => ?_)
 exact retE hb 8 (he1 _ (injO hq))
 refine markE hb 8 2 true (sz := flV.sz) (fr := 0) (cs := flV.f s1.2.1) (by kernel_rfl) (Nat.zero_le _) ?_
 refine cellSE hb 0 0 3 (cs := [vi 5, vi 0, vS eS, vO flV 2 s1.2.1, vO flS 3 s1.2.2]) (c := vO flV 2 s1.2.1) (conv_own flV (nb := true) (id := 2) (xs := s1.2.1) (by kernel_rfl)) (by kernel_rfl) ?_
 refine markE hb 0 3 true (sz := flS.sz) (fr := 0) (cs := flS.f s1.2.2) (by kernel_rfl) (Nat.zero_le _) ?_
 refine cellSE hb 0 0 4 (cs := [vi 5, vi 0, vS eS, vL flV s1.2.1, vO flS 3 s1.2.2]) (c := vO flS 3 s1.2.2) (conv_own flS (nb := true) (id := 3) (xs := s1.2.2) (by kernel_rfl)) (by kernel_rfl) ?_
 exact retE hb 0 (he1 _ (injO hq))
 refine cpE hb 8 [0, 1, 2, 6, 8, 9] (s' := ⟨none, [pick (bodyOf Tryz.f18) [1, 1, 1, 1, 1, 0, 1, 0]], [(0, [pick (bodyOf Tryz.f18) [1, 1, 1, 1, 1, 1]])], sl 133 [(0, c1 (vi rr_)), (1, c1 (vL flKeyG keys_)), (2, c1 (vL flV items_)), (6, pt 0), (8, pt 1), (9, c1 (vi 0))], [bx zV, bx [vi 4, vi 0, vS eS, vN, vN]]⟩) ?_
 refine ownSE hb 0 1 3 5 (cs := [vi 4, vi 0, vS eS, vN, vN]) (by kernel_rfl) ?_
 refine loopE hb 0 (g_r21_Collect_L2 rr_ keys_ items_) (fun s1 => sl 133 [(0, c1 (vi rr_)), (1, c1 (vL flKeyG keys_)), (2, c1 (vL flV items_)), (6, pt 0), (8, pt 1), (9, c1 (vi s1.1))]) (fun s1 => [bx zV, bx [vi 4, vi 0, vS eS, vO flV 2 s1.2, vN], some (arO true flV.sz 0 (flV.f s1.2))]) [0, 1, 2, 6, 8, 9] [] 3 (s0 := (0, [])) ⟨(by kernel_rfl), (by kernel_rfl), (under_arO _ _ _ _ _), trivial⟩ hq (fun s1 x1 hq hn1 he1 => ?_)
 refine ifE hb 8 [53] [] hq (fun hq _ => ?_) (fun hq _ => ?_)
 refine ifE hb 10 [57, 58] [] hq (fun hq _ => ?_) (fun hq _ => ?_)
 refine idxE hb flKeyG 2 hq fun x50 hx50 hq => ?_
 refine ifE hb 6 [65, 66] [] hq (fun hq _ => ?_) (fun hq _ => ?_)
 exact retE hb 7 (he1 _ (injO hq))
 refine drawE hb mixed 4 32 [] ?_
 refine knE hb 3 [69, 70] [] (b := (decide (rr_ = 2))) (v := false) hc9 ?_
 refine cpE hb 35 [0, 1, 2, 6, 8, 9, 103] (s' := ⟨none, [pick (bodyOf Tryz.f18) [1, 1, 1, 1, 1, 0, 1, 0, 0, 1, 0, 0, 1, 0, 1], pick (bodyOf Tryz.f18) [1, 1, 1, 1, 1, 0, 1, 0, 0, 1, 0, 0, 1, 1]], [(1, [pick (bodyOf Tryz.f18) [1, 1, 1, 1, 1, 0, 1, 0, 0, 1, 1], pick (bodyOf Tryz.f18) [1, 1, 1, 1, 1, 0, 1, 0]]), (0, [pick (bodyOf Tryz.f18) [1, 1, 1, 1, 1, 1]])], sl 133 [(0, c1 (vi rr_)), (1, c1 (vL flKeyG keys_)), (2, c1 (vL flV items_)), (6, pt 0), (8, pt 1), (9, c1 (vi s1.1)), (103, c1 (vB false))], [bx zV, bx [vi 4, vi 0, vS eS, vO flV 2 s1.2, vN], some (arO true flV.sz 0 (flV.f s1.2))]⟩) ?_
 refine knE hb 8 [106] [] (b := (decide (rr_ = 2))) (v := false) hc9 ?_
 refine drawE hb mixed 2 7 [] ?_
 refine idxE hb flV 4 hq fun x52 hx52 hq => ?_
 refine appOwnE flV hb 3 2 true 0 (flV.one x52) hq fun l53 hl53 hq => ?_
 exact backE hb 9 [0, 1, 2, 6, 8, 9] [] 3 (hn1 _ (injO hq)) ⟨(by kernel_rfl), (by kernel_rfl), (under_arO _ _ _ _ _), trivial⟩
 refine drawE hb mixed 13 32 [] ?_
 refine knE hb 3 [69, 70] [] (b := (decide (rr_ = 2))) (v := false) hc9 ?_
 refine knE hb 43 [106] [] (b := (decide (rr_ = 2))) (v := false) hc9 ?_
 refine drawE hb mixed 2 7 [] ?_
 refine idxE hb flV 4 hq fun x54 hx54 hq => ?_
 refine appOwnE flV hb 3 2 true 0 (flV.one x54) hq fun l55 hl55 hq => ?_
 refine cpE hb 4 [0, 1, 2, 6, 8, 9] (s' := ⟨none, [pick (bodyOf Tryz.f18) [1, 1, 1, 1, 1, 0, 1, 0, 0, 1, 1], pick (bodyOf Tryz.f18) [1, 1, 1, 1, 1, 0, 1, 0]], [(0, [pick (bodyOf Tryz.f18) [1, 1, 1, 1, 1, 1]])], sl 133 [(0, c1 (vi rr_)), (1, c1 (vL flKeyG keys_)), (2, c1 (vL flV items_)), (6, pt 0), (8, pt 1), (9, c1 (vi s1.1))], [bx zV, bx [vi 4, vi 0, vS eS, vO flV 2 l55, vN], some (arO true flV.sz 0 (flV.f l55))]⟩) ?_
 exact backE hb 5 [0, 1, 2, 6, 8, 9] [] 3 (hn1 _ (injO hq)) ⟨(by kernel_rfl), (by kernel_rfl), (under_arO _ _ _ _ _), trivial⟩
 refine callVE hb 5 (vs := [.agg [vi 4, vi 0, vS eS, vO flV 2 s1.2, vN]]) hq (frz_cons (frz_agg (frzL_cons (by kernel_rfl) (frzL_cons (by kernel_rfl) (frzL_cons (by kernel_rfl) (frzL_cons (frz_own flV (b := true) (id := 2) (fr := 0) (xs := s1.2) (by kernel_rfl)) (frzL_cons (by kernel_rfl) rfl)))))) rfl) (fun _ => rfl) (rCheck_g hb he (Val.mk 4 0 eS s1.2 [])) fun y56 hy56 hq => ?_
 refine ifE hb 8 [129] [] hq (fun hq _ => ?_) (fun hq _ => ?_)
 exact retE hb 8 (he1 _ (injO hq))
 refine markE hb 8 2 true (sz := flV.sz) (fr := 0) (cs := flV.f s1.2) (by kernel_rfl) (Nat.zero_le _) ?_
 refine cellSE hb 0 0 3 (cs := [vi 4, vi 0, vS eS, vO flV 2 s1.2, vN]) (c := vO flV 2 s1.2) (conv_own flV (nb := true) (id := 2) (xs := s1.2) (by kernel_rfl)) (by kernel_rfl) ?_
 exact retE hb 0 (he1 _ (injO hq))
noncomputable def g_l21_InstancesCollects_L1 (rr_ : Int) (l_ : List KeyG) (items_ : List Val) (s1 : Int) : Option ((Int) ⊕ (Bool)) :=
  bif (decide (s1 < (items_.length : Int))) then (idx items_ s1).bind fun x6 => (g_l21_right x6).bind fun y7 => bif (!y7) then (g_l21_awake).bind fun y9 => some (.inr (y9)) else some (.inl (IntKind.i64.wrap (s1 + 1))) else (g_instances_Collect rr_ l_ items_).bind fun y10 => (g_r21_Collect rr_ l_ items_).bind fun y11 => bif (decide (y10.2 = y11.2)) then (t_r07_Equal y10.1 y11.1).bind fun y13 => bif y13 then (g_l21_awake).bind fun y15 => some (.inr (y15)) else some (.inr (false)) else some (.inr (false))
noncomputable def g_l21_InstancesCollects  (rr_ : Int) (l_ : List KeyG) (items_ : List Val) : Option (Bool) :=
  bif (decide ((l_.length : Int) > 300)) then (g_l21_awake).bind fun y2 => some (y2) else bif (decide ((items_.length : Int) > 300)) then (g_l21_awake).bind fun y4 => some (y4) else loopO (g_l21_InstancesCollects_L1 rr_ l_ items_) 0
theorem g_l21_InstancesCollects_ok (hb : Base E E0 G) (he : ∀ w, E w → EnvV w)   (rr_ : Int) (l_ : List KeyG) (items_ : List Val) : ∀ r_ : Bool, g_l21_InstancesCollects rr_ l_ items_ = some r_ →
 Pure E E0 Tryz.prog 5 [.cell (vi rr_), .cell (vL flKeyG l_), .cell (vL flV items_)] (c1 (vB r_)) := by
 refine fnE hb Tryz.func5 rfl fun r_ hq => ?_
 refine ifE hb 11 [14, 15] [] hq (fun hq _ => ?_) (fun hq _ => ?_)
 refine callE hb 8 hq (g_l21_awake_ok hb he ) fun y2 hy2 hq => ?_
 exact retE hb 2 (injO hq).symm
 refine ifE hb 5 [18, 19] [] hq (fun hq _ => ?_) (fun hq _ => ?_)
 refine callE hb 3 hq (g_l21_awake_ok hb he ) fun y4 hy4 hq => ?_
 exact retE hb 2 (injO hq).symm
 refine cpE hb 8 [0, 1, 2, 7] (s' := ⟨none, [pick (bodyOf Tryz.f5) [1, 1, 0, 1, 0]], [(0, [pick (bodyOf Tryz.f5) [1, 1, 1]])], sl 59 [(0, c1 (vi rr_)), (1, c1 (vL flKeyG l_)), (2, c1 (vL flV items_)), (7, c1 (vi 0))], []⟩) ?_
 refine loopE hb 0 (g_l21_InstancesCollects_L1 rr_ l_ items_) (fun s1 => sl 59 [(0, c1 (vi rr_)), (1, c1 (vL flKeyG l_)), (2, c1 (vL flV items_)), (7, c1 (vi s1))]) (fun s1 => []) [0, 1, 2, 7] [] 0 (s0 := 0) trivial hq (fun s1 x1 hq hn1 he1 => ?_)
 refine ifE hb 8 [24] [] hq (fun hq _ => ?_) (fun hq _ => ?_)
 refine idxE hb flV 8 hq fun x6 hx6 hq => ?_
 refine callE hb 1 hq (g_l21_right_ok hb he x6) fun y7 hy7 hq => ?_
 refine ifE hb 2 [32] [] hq (fun hq _ => ?_) (fun hq _ => ?_)
 refine callE hb 3 hq (g_l21_awake_ok hb he ) fun y9 hy9 hq => ?_
 exact retE hb 2 (he1 _ (injO hq))
 exact backE hb 8 [0, 1, 2, 7] [] 0 (hn1 _ (injO hq)) trivial
 refine callE hb 7 hq (g_instances_Collect_ok hb he rr_ l_ items_) fun y10 hy10 hq => ?_
 refine callE hb 12 hq (g_r21_Collect_ok hb he rr_ l_ items_) fun y11 hy11 hq => ?_
 refine ifE hb 13 [50, 51] [] hq (fun hq _ => ?_) (fun hq _ => ?_)
 refine callE hb 2 hq (t_r07_Equal_ok hb he y10.1 y11.1) fun y13 hy13 hq => ?_
 refine ifE hb 2 [54, 55, 56] [] hq (fun hq _ => ?_) (fun hq _ => ?_)
 refine callE hb 0 hq (g_l21_awake_ok hb he ) fun y15 hy15 hq => ?_
 exact retE hb 3 (he1 _ (injO hq))
 exact retE hb 4 (he1 _ (injO hq))
 exact retE hb 9 (he1 _ (injO hq))
end Abs
end Go.Proofs.YtodgepbihbcdbaaGreatDoor
