/-
  Ops: Go functions as functions over plain values, with the proof that the code computes them; printed by gen.py.
-/
import Derived.Test.YtjfcgdablmjmnaaGreatDoorCtC
import Derived.Test.YtjfcgdablmjmnaaGreatDoorAbsN
namespace Go.Proofs.YtjfcgdablmjmnaaGreatDoor
namespace Abs
open Go.RowKit
variable {E : World → Prop} {E0 : Nat} {G : Nat → Option (List PV)}
set_option maxRecDepth 100000
set_option linter.unusedVariables false
set_option linter.unusedSimpArgs false
attribute [local irreducible] adv J KE KO mPut mSto mBool mFrm mDraw hedS unl Pure Ok sl loopO awpL awp asq asqD asqX asqF
structure CallG where
  kind : Int
  op : Int
  name : ByteArray
  a : Val
  b : Val
  c : Val

structure Arr3Val where
  x0 : Val
  x1 : Val
  x2 : Val

def flCallG : Fl CallG := Fl.of (fun x => [pI .i64 x.kind, pI .i64 x.op, pS x.name, pI .i64 x.a.kind, pI .i64 x.a.num, pS x.a.str, pL flV x.a.items, pL flS x.a.keys, pI .i64 x.b.kind, pI .i64 x.b.num, pS x.b.str, pL flV x.b.items, pL flS x.b.keys, pI .i64 x.c.kind, pI .i64 x.c.num, pS x.c.str, pL flV x.c.items, pL flS x.c.keys]) 18 (by decide) (fun _ => rfl)

def flArr3Val : Fl Arr3Val := Fl.of (fun x => [pI .i64 x.x0.kind, pI .i64 x.x0.num, pS x.x0.str, pL flV x.x0.items, pL flS x.x0.keys, pI .i64 x.x1.kind, pI .i64 x.x1.num, pS x.x1.str, pL flV x.x1.items, pL flS x.x1.keys, pI .i64 x.x2.kind, pI .i64 x.x2.num, pS x.x2.str, pL flV x.x2.items, pL flS x.x2.keys]) 15 (by decide) (fun _ => rfl)

noncomputable def g_l19_valid_L1 (l_ : List Val) (s1 : Int) : Option ((Int) ⊕ (Bool)) :=
  bif (decide (s1 < (l_.length : Int))) then (idx l_ s1).bind fun x2 => (m_small x2 300).bind fun y3 => bif (!y3) then some (.inr (false)) else (idx l_ s1).bind fun x5 => (m_checkE x5).bind fun y6 => bif (!decide (y6 = 0)) then some (.inr (false)) else some (.inl (IntKind.i64.wrap (s1 + 1))) else some (.inr (true))
noncomputable def g_l19_valid  (l_ : List Val) : Option (Bool) :=
  loopO (g_l19_valid_L1 l_) 0
theorem g_l19_valid_ok (hb : Base E E0 G) (he : ∀ w, E w → EnvV w)   (l_ : List Val) : ∀ r_ : Bool, g_l19_valid l_ = some r_ →
 Pure E E0 Tryz.prog 9 [.cell (vL flV l_)] (c1 (vB r_)) := by
 refine fnE hb Tryz.func9 rfl fun r_ hq => ?_
 refine loopE hb 10 (g_l19_valid_L1 l_) (fun s1 => sl 24 [(0, c1 (vL flV l_)), (3, c1 (vi s1))]) (fun s1 => []) [0, 3] [] 0 (s0 := 0) trivial hq (fun s1 x1 hq hn1 he1 => ?_)
 refine ifE hb 8 [7] [] hq (fun hq _ => ?_) (fun hq _ => ?_)
 refine idxE hb flV 8 hq fun x2 hx2 hq => ?_
 refine callE hb 1 hq (rSmall_g hb he x2 300) fun y3 hy3 hq => ?_
 refine ifE hb 2 [15, 16] [] hq (fun hq _ => ?_) (fun hq _ => ?_)
 exact retE hb 13 (he1 _ (injO hq))
 refine idxE hb flV 2 hq fun x5 hx5 hq => ?_
 refine callE hb 1 hq (rCheck_g hb he x5) fun y6 hy6 hq => ?_
 refine ifE hb 3 [22, 23] [] hq (fun hq _ => ?_) (fun hq _ => ?_)
 refine cpE hb 2 [] (s' := ⟨none, [pick (bodyOf Tryz.f9) [1, 0, 1, 0, 0, 1, 0, 0, 1, 0, 0], pick (bodyOf Tryz.f9) [1, 0, 1, 0, 0, 1, 0, 0, 1, 0, 1]], [(1, [pick (bodyOf Tryz.f9) [1, 0, 1, 0, 0, 1, 1], pick (bodyOf Tryz.f9) [1, 0, 1, 0]]), (0, [pick (bodyOf Tryz.f9) [1, 1]])], sl 24 [], []⟩) ?_
 exact retE hb 3 (he1 _ (injO hq))
 refine cpE hb 3 [0, 3] (s' := ⟨none, [pick (bodyOf Tryz.f9) [1, 0, 1, 0, 0, 1, 1], pick (bodyOf Tryz.f9) [1, 0, 1, 0]], [(0, [pick (bodyOf Tryz.f9) [1, 1]])], sl 24 [(0, c1 (vL flV l_)), (3, c1 (vi s1))], []⟩) ?_
 exact backE hb 5 [0, 3] [] 0 (hn1 _ (injO hq)) trivial
 exact retE hb 6 (he1 _ (injO hq))
noncomputable def g_r07_Equal_L2 (r_r07_Equal : Val → Val → Option (Bool)) (a_ : Val) (b_ : Val) (s2 : Int) : Option ((Int) ⊕ ((Int) ⊕ (Bool))) :=
  bif (decide (s2 < (a_.items.length : Int))) then (idx a_.items s2).bind fun x11 => (idx b_.items s2).bind fun x12 => (r_r07_Equal x11 x12).bind fun y13 => bif (!y13) then some (.inr (.inr (false))) else some (.inl (IntKind.i64.wrap (s2 + 1))) else some (.inr (.inr (true)))
noncomputable def g_r07_Equal_L1 (r_r07_Equal : Val → Val → Option (Bool)) (a_ : Val) (b_ : Val) (s1 : Int) : Option ((Int) ⊕ (Bool)) :=
  bif (decide (s1 < (a_.keys.length : Int))) then (idx a_.keys s1).bind fun x7 => (idx b_.keys s1).bind fun x8 => bif (!decide (x7 = x8)) then some (.inr (false)) else some (.inl (IntKind.i64.wrap (s1 + 1))) else loopO (g_r07_Equal_L2 r_r07_Equal a_ b_) 0
noncomputable def g_r07_Equal (r_r07_Equal : Val → Val → Option (Bool)) (a_ : Val) (b_ : Val) : Option (Bool) :=
  bif (!decide (a_.kind = b_.kind)) then some (false) else bif (!decide (a_.num = b_.num)) then some (false) else bif (!decide (a_.str = b_.str)) then some (false) else bif (!decide ((a_.items.length : Int) = (b_.items.length : Int))) then some (false) else bif (!decide ((a_.keys.length : Int) = (b_.keys.length : Int))) then some (false) else loopO (g_r07_Equal_L1 r_r07_Equal a_ b_) 0
theorem g_r07_Equal_ok (hb : Base E E0 G) (he : ∀ w, E w → EnvV w) (r_r07_Equal : Val → Val → Option (Bool)) (hr_r07_Equal : ∀ (a0 : Val) (a1 : Val) (r : Bool), r_r07_Equal a0 a1 = some r → Pure E E0 Tryz.prog 13 [.agg (aV a0), .agg (aV a1)] (c1 (vB r))) (a_ : Val) (b_ : Val) : ∀ r_ : Bool, g_r07_Equal r_r07_Equal a_ b_ = some r_ →
 Pure E E0 Tryz.prog 13 [.agg (aV a_), .agg (aV b_)] (c1 (vB r_)) := by
 refine fnE hb Tryz.func13 rfl fun r_ hq => ?_
 refine ifE hb 15 [11, 12] [] hq (fun hq _ => ?_) (fun hq _ => ?_)
 exact retE hb 37 (injO hq).symm
 refine ifE hb 7 [17, 18, 19] [] hq (fun hq _ => ?_) (fun hq _ => ?_)
 exact retE hb 30 (injO hq).symm
 refine ifE hb 7 [24, 25, 26] [] hq (fun hq _ => ?_) (fun hq _ => ?_)
 exact retE hb 23 (injO hq).symm
 refine ifE hb 9 [33, 34, 35] [] hq (fun hq _ => ?_) (fun hq _ => ?_)
 exact retE hb 14 (injO hq).symm
 refine ifE hb 9 [42, 43] [] hq (fun hq _ => ?_) (fun hq _ => ?_)
 exact retE hb 5 (injO hq).symm
 refine cpE hb 8 [2, 3, 5] (s' := ⟨none, [pick (bodyOf Tryz.f13) [1, 1, 0, 1, 0]], [(0, [pick (bodyOf Tryz.f13) [1, 1, 1]])], sl 81 [(2, pt 0), (3, pt 1), (5, c1 (vi 0))], [bx (aV a_), bx (aV b_)]⟩) ?_
 refine loopE hb 0 (g_r07_Equal_L1 r_r07_Equal a_ b_) (fun s1 => sl 81 [(2, pt 0), (3, pt 1), (5, c1 (vi s1))]) (fun s1 => [bx (aV a_), bx (aV b_)]) [2, 3, 5] [] 2 (s0 := 0) ⟨(by kernel_rfl), (by kernel_rfl), trivial⟩ hq (fun s1 x1 hq hn1 he1 => ?_)
 refine ifE hb 9 [48] [] hq (fun hq _ => ?_) (fun hq _ => ?_)
 refine drawE hb mixed 5 10 [] ?_
 refine idxE hb flS 3 hq fun x7 hx7 hq => ?_
 refine idxE hb flS 4 hq fun x8 hx8 hq => ?_
 refine ifE hb 4 [61] [] hq (fun hq _ => ?_) (fun hq _ => ?_)
 exact retE hb 5 (he1 _ (injO hq))
 exact backE hb 8 [2, 3, 5] [] 2 (hn1 _ (injO hq)) ⟨(by kernel_rfl), (by kernel_rfl), trivial⟩
 refine loopE hb 8 (g_r07_Equal_L2 r_r07_Equal a_ b_) (fun s2 => sl 81 [(2, pt 0), (3, pt 1), (6, c1 (vi s2))]) (fun s2 => [bx (aV a_), bx (aV b_)]) [2, 3, 6] [] 2 (s0 := 0) ⟨(by kernel_rfl), (by kernel_rfl), trivial⟩ hq (fun s2 x2 hq hn2 he2 => ?_)
 refine ifE hb 9 [66] [] hq (fun hq _ => ?_) (fun hq _ => ?_)
 refine drawE hb mixed 5 10 [] ?_
 refine idxE hb flV 3 hq fun x11 hx11 hq => ?_
 refine idxE hb flV 4 hq fun x12 hx12 hq => ?_
 refine callE hb 2 hq (hr_r07_Equal x11 x12) fun y13 hy13 hq => ?_
 refine ifE hb 2 [80] [] hq (fun hq _ => ?_) (fun hq _ => ?_)
 refine cpE hb 2 [] (s' := ⟨none, [pick (bodyOf Tryz.f13) [1, 1, 1, 0, 1, 0, 0, 1, 0, 0, 1, 0, 0], pick (bodyOf Tryz.f13) [1, 1, 1, 0, 1, 0, 0, 1, 0, 0, 1, 0, 1]], [(3, [pick (bodyOf Tryz.f13) [1, 1, 1, 0, 1, 0, 0, 1, 1], pick (bodyOf Tryz.f13) [1, 1, 1, 0, 1, 0]]), (2, [pick (bodyOf Tryz.f13) [1, 1, 1, 1]])], sl 81 [], [bx (aV a_), bx (aV b_)]⟩) ?_
 exact retE hb 3 (he1 _ ((he2 _ (injO hq)).symm))
 refine cpE hb 3 [2, 3, 6] (s' := ⟨none, [pick (bodyOf Tryz.f13) [1, 1, 1, 0, 1, 0, 0, 1, 1], pick (bodyOf Tryz.f13) [1, 1, 1, 0, 1, 0]], [(2, [pick (bodyOf Tryz.f13) [1, 1, 1, 1]])], sl 81 [(2, pt 0), (3, pt 1), (6, c1 (vi s2))], [bx (aV a_), bx (aV b_)]⟩) ?_
 exact backE hb 5 [2, 3, 6] [] 2 (hn2 _ (injO hq)) ⟨(by kernel_rfl), (by kernel_rfl), trivial⟩
 exact retE hb 6 (he1 _ ((he2 _ (injO hq)).symm))
noncomputable def t_r07_Equal_step (rec : Val → Val → Option (Bool)) (a : Val) (b : Val) : Option (Bool) :=
  g_r07_Equal (fun a0 a1 => rec a0 a1) a b
noncomputable def t_r07_Equal (a0 : Val) (a1 : Val) : Option (Bool) := tieF relV wfV t_r07_Equal_step a0 a1
theorem t_r07_Equal_ok (hb : Base E E0 G) (he : ∀ w, E w → EnvV w) (a0 : Val) (a1 : Val) (r : Bool) (hq : t_r07_Equal a0 a1 = some r) : Pure E E0 Tryz.prog 13 [.agg (aV a0), .agg (aV a1)] (c1 (vB r)) :=
  tieF_ok (C := fun a b r => Pure E E0 Tryz.prog 13 [.agg (aV a), .agg (aV b)] (c1 (vB r))) (fun rec hr a b r hq => g_r07_Equal_ok hb he (fun a0 a1 => rec a0 a1) (fun a0 a1 r e => hr a0 a1 r e) a b r hq) a0 a1 r hq
noncomputable def g_r07_Null   : Option (Val) :=
  some (Val.mk 0 0 eS [] [])
theorem g_r07_Null_ok (hb : Base E E0 G) (he : ∀ w, E w → EnvV w)    : ∀ r_ : Val, g_r07_Null = some r_ →
 Pure E E0 Tryz.prog 15 [] (.one (.agg (aV r_))) := by
 refine fnE hb Tryz.func15 rfl fun r_ hq => ?_
 exact retE hb 9 (injO hq).symm
noncomputable def g_value_Unknown   : Option (Val) :=
  some (Val.mk 6 0 eS [] [])
theorem g_value_Unknown_ok (hb : Base E E0 G) (he : ∀ w, E w → EnvV w)    : ∀ r_ : Val, g_value_Unknown = some r_ →
 Pure E E0 Tryz.prog 45 [] (.one (.agg (aV r_))) := by
 refine fnE hb Tryz.func45 rfl fun r_ hq => ?_
 exact retE hb 9 (injO hq).symm
noncomputable def g_value_Bool  (b_ : Bool) : Option (Val) :=
  bif b_ then some (Val.mk 1 1 eS [] []) else some (Val.mk 1 0 eS [] [])
theorem g_value_Bool_ok (hb : Base E E0 G) (he : ∀ w, E w → EnvV w)   (b_ : Bool) : ∀ r_ : Val, g_value_Bool b_ = some r_ →
 Pure E E0 Tryz.prog 46 [.cell (vB b_)] (.one (.agg (aV r_))) := by
 refine fnE hb Tryz.func46 rfl fun r_ hq => ?_
 refine ifE hb 15 [0, 5] [] hq (fun hq _ => ?_) (fun hq _ => ?_)
 exact retE hb 10 (injO hq).symm
 exact retE hb 7 (injO hq).symm
noncomputable def g_convert_toBool  (v_ : Val) : Option (Val × Int) :=
  bif (decide (v_.kind = 1)) then some (v_, 0) else bif (decide (v_.kind = 3)) then bif (decide (v_.str = (⟨#[116, 114, 117, 101]⟩ : ByteArray))) then (g_value_Bool true).bind fun y4 => some (y4, 0) else bif (decide (v_.str = (⟨#[102, 97, 108, 115, 101]⟩ : ByteArray))) then (g_value_Bool false).bind fun y6 => some (y6, 0) else some ((Val.mk 0 0 eS [] []), 6) else some ((Val.mk 0 0 eS [] []), 6)
theorem g_convert_toBool_ok (hb : Base E E0 G) (he : ∀ w, E w → EnvV w)   (v_ : Val) : ∀ r_ : Val × Int, g_convert_toBool v_ = some r_ →
 Pure E E0 Tryz.prog 111 [.agg (aV v_)] (.tup [.agg (aV r_.1), .cell (vi r_.2)]) := by
 refine fnE hb Tryz.func111 rfl fun r_ hq => ?_
 refine ifE hb 15 [4, 7] [] hq (fun hq _ => ?_) (fun hq _ => ?_)
 exact retE hb 7 (injO hq).symm
 refine ifE hb 7 [12, 13] [] hq (fun hq hc2 => ?_) (fun hq hc2 => ?_)
 refine ifE hb 6 [9, 16, 17] [] hq (fun hq _ => ?_) (fun hq _ => ?_)
 refine callE hb 3 hq (g_value_Bool_ok hb he true) fun y4 hy4 hq => ?_
 exact retE hb 3 (injO hq).symm
 refine knE hb 7 [22, 23] [] (b := (decide (v_.kind = 3))) (v := true) hc2 ?_
 refine ifE hb 6 [19, 26, 27] [] hq (fun hq _ => ?_) (fun hq _ => ?_)
 refine callE hb 3 hq (g_value_Bool_ok hb he false) fun y6 hy6 hq => ?_
 exact retE hb 3 (injO hq).symm
 exact retE hb 9 (injO hq).symm
 refine knE hb 13 [22, 23] [] (b := (decide (v_.kind = 3))) (v := false) hc2 ?_
 exact retE hb 15 (injO hq).symm
noncomputable def g_value_Number  (n_ : Int) : Option (Val) :=
  some (Val.mk 2 n_ eS [] [])
theorem g_value_Number_ok (hb : Base E E0 G) (he : ∀ w, E w → EnvV w)   (n_ : Int) : ∀ r_ : Val, g_value_Number n_ = some r_ →
 Pure E E0 Tryz.prog 50 [.cell (vi n_)] (.one (.agg (aV r_))) := by
 refine fnE hb Tryz.func50 rfl fun r_ hq => ?_
 exact retE hb 10 (injO hq).symm
noncomputable def g_convert_toNumber  (v_ : Val) : Option (Val × Int) :=
  bif (decide (v_.kind = 2)) then some (v_, 0) else bif (!decide (v_.kind = 3)) then some ((Val.mk 0 0 eS [] []), 6) else (m_parse v_.str).bind fun y3 => bif (!decide (y3.2 = 0)) then some ((Val.mk 0 0 eS [] []), 6) else (g_value_Number y3.1).bind fun y5 => some (y5, 0)
theorem g_convert_toNumber_ok (hb : Base E E0 G) (he : ∀ w, E w → EnvV w)   (v_ : Val) : ∀ r_ : Val × Int, g_convert_toNumber v_ = some r_ →
 Pure E E0 Tryz.prog 112 [.agg (aV v_)] (.tup [.agg (aV r_.1), .cell (vi r_.2)]) := by
 refine fnE hb Tryz.func112 rfl fun r_ hq => ?_
 refine ifE hb 13 [8] [] hq (fun hq _ => ?_) (fun hq _ => ?_)
 exact retE hb 7 (injO hq).symm
 refine ifE hb 9 [12] [] hq (fun hq _ => ?_) (fun hq _ => ?_)
 exact retE hb 7 (injO hq).symm
 refine callE hb 6 hq (parse_g hb he v_.str) fun y3 hy3 hq => ?_
 refine ifE hb 12 [21] [] hq (fun hq _ => ?_) (fun hq _ => ?_)
 exact retE hb 7 (injO hq).symm
 refine callE hb 5 hq (g_value_Number_ok hb he y3.1) fun y5 hy5 hq => ?_
 exact retE hb 3 (injO hq).symm
noncomputable def g_value_String  (s_ : ByteArray) : Option (Val) :=
  some (Val.mk 3 0 s_ [] [])
theorem g_value_String_ok (hb : Base E E0 G) (he : ∀ w, E w → EnvV w)   (s_ : ByteArray) : ∀ r_ : Val, g_value_String s_ = some r_ →
 Pure E E0 Tryz.prog 53 [.cell (vS s_)] (.one (.agg (aV r_))) := by
 refine fnE hb Tryz.func53 rfl fun r_ hq => ?_
 exact retE hb 10 (injO hq).symm
noncomputable def g_convert_toString  (v_ : Val) : Option (Val × Int) :=
  bif (decide (v_.kind = 3)) then some (v_, 0) else bif (decide (v_.kind = 2)) then (m_format v_.num).bind fun y3 => (g_value_String y3).bind fun y4 => some (y4, 0) else bif (decide (v_.kind = 1)) then bif (decide (v_.num = 1)) then (g_value_String (⟨#[116, 114, 117, 101]⟩ : ByteArray)).bind fun y7 => some (y7, 0) else (g_value_String (⟨#[102, 97, 108, 115, 101]⟩ : ByteArray)).bind fun y8 => some (y8, 0) else some ((Val.mk 0 0 eS [] []), 6)
theorem g_convert_toString_ok (hb : Base E E0 G) (he : ∀ w, E w → EnvV w)   (v_ : Val) : ∀ r_ : Val × Int, g_convert_toString v_ = some r_ →
 Pure E E0 Tryz.prog 113 [.agg (aV v_)] (.tup [.agg (aV r_.1), .cell (vi r_.2)]) := by
 refine fnE hb Tryz.func113 rfl fun r_ hq => ?_
 refine ifE hb 15 [4, 7] [] hq (fun hq _ => ?_) (fun hq _ => ?_)
 exact retE hb 7 (injO hq).symm
 refine ifE hb 8 [9, 12] [] hq (fun hq _ => ?_) (fun hq _ => ?_)
 refine callE hb 5 hq (format_g hb he v_.num) fun y3 hy3 hq => ?_
 refine callE hb 0 hq (g_value_String_ok hb he y3) fun y4 hy4 hq => ?_
 exact retE hb 3 (injO hq).symm
 refine ifE hb 7 [20, 21] [] hq (fun hq hc5 => ?_) (fun hq hc5 => ?_)
 refine ifE hb 6 [17, 24, 25] [] hq (fun hq _ => ?_) (fun hq _ => ?_)
 refine callE hb 3 hq (g_value_String_ok hb he (⟨#[116, 114, 117, 101]⟩ : ByteArray)) fun y7 hy7 hq => ?_
 exact retE hb 3 (injO hq).symm
 refine knE hb 8 [27, 30] [] (b := (decide (v_.kind = 1))) (v := true) hc5 ?_
 refine callE hb 3 hq (g_value_String_ok hb he (⟨#[102, 97, 108, 115, 101]⟩ : ByteArray)) fun y8 hy8 hq => ?_
 exact retE hb 3 (injO hq).symm
 refine knE hb 14 [27, 30] [] (b := (decide (v_.kind = 1))) (v := false) hc5 ?_
 exact retE hb 9 (injO hq).symm
noncomputable def g_cmp_isNaN  (x_ : ByteArray) : Option (Bool) :=
  some (!decide (x_ = x_))
theorem g_cmp_isNaN_ok (hb : Base E E0 G) (he : ∀ w, E w → EnvV w)   (x_ : ByteArray) : ∀ r_ : Bool, g_cmp_isNaN x_ = some r_ →
 Pure E E0 Tryz.prog 118 [.cell (vS x_)] (c1 (vB r_)) := by
 refine fnE hb Tryz.func118 rfl fun r_ hq => ?_
 exact retE hb 11 (injO hq).symm
noncomputable def g_cmp_Less  (x_ : ByteArray) (y_ : ByteArray) : Option (Bool) :=
  (g_cmp_isNaN x_).bind fun y1 => bif y1 then (g_cmp_isNaN y_).bind fun y3 => bif (!y3) then some (true) else some (Op.bytesLess x_.toList y_.toList) else some (Op.bytesLess x_.toList y_.toList)
theorem g_cmp_Less_ok (hb : Base E E0 G) (he : ∀ w, E w → EnvV w)   (x_ : ByteArray) (y_ : ByteArray) : ∀ r_ : Bool, g_cmp_Less x_ y_ = some r_ →
 Pure E E0 Tryz.prog 98 [.cell (vS x_), .cell (vS y_)] (c1 (vB r_)) := by
 refine fnE hb Tryz.func98 rfl fun r_ hq => ?_
 refine callE hb 7 hq (g_cmp_isNaN_ok hb he x_) fun y1 hy1 hq => ?_
 refine ifE hb 1 [6, 7] [] hq (fun hq _ => ?_) (fun hq _ => ?_)
 refine callE hb 1 hq (g_cmp_isNaN_ok hb he y_) fun y3 hy3 hq => ?_
 refine ifE hb 3 [10, 11, 12] [] hq (fun hq _ => ?_) (fun hq _ => ?_)
 exact retE hb 6 (injO hq).symm
 exact retE hb 6 (injO hq).symm
 exact retE hb 11 (injO hq).symm
noncomputable def g_slices_isNaN  (x_ : ByteArray) : Option (Bool) :=
  some (!decide (x_ = x_))
theorem g_slices_isNaN_ok (hb : Base E E0 G) (he : ∀ w, E w → EnvV w)   (x_ : ByteArray) : ∀ r_ : Bool, g_slices_isNaN x_ = some r_ →
 Pure E E0 Tryz.prog 99 [.cell (vS x_)] (c1 (vB r_)) := by
 refine fnE hb Tryz.func99 rfl fun r_ hq => ?_
 exact retE hb 11 (injO hq).symm
noncomputable def g_slices_BinarySearch_L1 (x_ : List ByteArray) (target_ : ByteArray) (s1 : Int × Int) : Option ((Int × Int) ⊕ (Int × Bool)) :=
  bif (decide (s1.1 < s1.2)) then (idx x_ (IntKind.i64.wrap (Int.fdiv (IntKind.u64.wrap (IntKind.i64.wrap (s1.1 + s1.2))) (2 ^ (min (1 : Int).toNat IntKind.u64.bits))))).bind fun x2 => (g_cmp_Less x2 target_).bind fun y3 => bif y3 then some (.inl ((IntKind.i64.wrap ((IntKind.i64.wrap (Int.fdiv (IntKind.u64.wrap (IntKind.i64.wrap (s1.1 + s1.2))) (2 ^ (min (1 : Int).toNat IntKind.u64.bits)))) + 1)), s1.2)) else some (.inl (s1.1, (IntKind.i64.wrap (Int.fdiv (IntKind.u64.wrap (IntKind.i64.wrap (s1.1 + s1.2))) (2 ^ (min (1 : Int).toNat IntKind.u64.bits)))))) else bif (decide (s1.1 < (x_.length : Int))) then (idx x_ s1.1).bind fun x6 => bif (decide (x6 = target_)) then some (.inr (s1.1, true)) else (idx x_ s1.1).bind fun x8 => (g_slices_isNaN x8).bind fun y9 => bif y9 then (g_slices_isNaN target_).bind fun y11 => some (.inr (s1.1, y11)) else some (.inr (s1.1, false)) else some (.inr (s1.1, false))
noncomputable def g_slices_BinarySearch  (x_ : List ByteArray) (target_ : ByteArray) : Option (Int × Bool) :=
  loopO (g_slices_BinarySearch_L1 x_ target_) (0, (x_.length : Int))
theorem g_slices_BinarySearch_ok (hb : Base E E0 G) (he : ∀ w, E w → EnvV w)   (x_ : List ByteArray) (target_ : ByteArray) : ∀ r_ : Int × Bool, g_slices_BinarySearch x_ target_ = some r_ →
 Pure E E0 Tryz.prog 79 [.cell (vL flS x_), .cell (vS target_)] (.tup [.cell (vi r_.1), .cell (vB r_.2)]) := by
 refine fnE hb Tryz.func79 rfl fun r_ hq => ?_
 refine loopE hb 19 (g_slices_BinarySearch_L1 x_ target_) (fun s1 => sl 54 [(0, c1 (vL flS x_)), (1, c1 (vS target_)), (6, c1 (vi (x_.length : Int))), (7, c1 (vi s1.1)), (8, c1 (vi s1.2))]) (fun s1 => []) [0, 1, 6, 7, 8] [] 0 (s0 := (0, (x_.length : Int))) trivial hq (fun s1 x1 hq hn1 he1 => ?_)
 refine ifE hb 7 [15] [] hq (fun hq _ => ?_) (fun hq _ => ?_)
 refine idxE hb flS 17 hq fun x2 hx2 hq => ?_
 refine callE hb 2 hq (g_cmp_Less_ok hb he x2 target_) fun y3 hy3 hq => ?_
 refine ifE hb 1 [27] [] hq (fun hq _ => ?_) (fun hq _ => ?_)
 exact backE hb 7 [0, 1, 6, 7, 8] [] 0 (hn1 _ (injO hq)) trivial
 exact backE hb 6 [0, 1, 6, 7, 8] [] 0 (hn1 _ (injO hq)) trivial
 refine ifE hb 9 [34, 35] [] hq (fun hq _ => ?_) (fun hq _ => ?_)
 refine idxE hb flS 2 hq fun x6 hx6 hq => ?_
 refine ifE hb 4 [41, 42] [] hq (fun hq _ => ?_) (fun hq _ => ?_)
 exact retE hb 14 (he1 _ (injO hq))
 refine idxE hb flS 2 hq fun x8 hx8 hq => ?_
 refine callE hb 1 hq (g_slices_isNaN_ok hb he x8) fun y9 hy9 hq => ?_
 refine ifE hb 1 [47, 48] [] hq (fun hq _ => ?_) (fun hq _ => ?_)
 refine callE hb 1 hq (g_slices_isNaN_ok hb he target_) fun y11 hy11 hq => ?_
 exact retE hb 6 (he1 _ (injO hq))
 exact retE hb 8 (he1 _ (injO hq))
 exact retE hb 21 (he1 _ (injO hq))
noncomputable def g_value_copies_L1 (r_value_copied : Val → Option (Val)) (l_ : List Val) (s1 : Int × List Val) : Option ((Int × List Val) ⊕ (List Val)) :=
  bif (decide (s1.1 < (l_.length : Int))) then (idx l_ s1.1).bind fun x4 => (r_value_copied x4).bind fun y5 => (app 80 s1.2 [y5]).bind fun l6 => some (.inl ((IntKind.i64.wrap (s1.1 + 1)), l6)) else some (.inr (s1.2))
noncomputable def g_value_copies (r_value_copied : Val → Option (Val)) (l_ : List Val) : Option (List Val) :=
  bif (decide ((l_.length : Int) = 0)) then some ([]) else (mkc 80 (l_.length : Int)).bind fun u2 => loopO (g_value_copies_L1 r_value_copied l_) (0, [])
theorem g_value_copies_ok (hb : Base E E0 G) (he : ∀ w, E w → EnvV w) (r_value_copied : Val → Option (Val)) (hr_value_copied : ∀ (a0 : Val) (r : Val), r_value_copied a0 = some r → Pure E E0 Tryz.prog 80 [.agg (aV a0)] (.one (.agg (aV r)))) (l_ : List Val) : ∀ r_ : List Val, g_value_copies r_value_copied l_ = some r_ →
 Pure E E0 Tryz.prog 100 [.cell (vL flV l_)] (c1 (vL flV r_)) := by
 refine fnE hb Tryz.func100 rfl fun r_ hq => ?_
 refine ifE hb 11 [8] [] hq (fun hq _ => ?_) (fun hq _ => ?_)
 exact retE hb 5 (injO hq).symm
 refine mk0E flV hb 6 hq fun u2 hu2 hq => ?_
 refine cpE hb 10 [3, 12, 13, 14] (s' := ⟨none, [pick (bodyOf Tryz.f100) [1, 1, 1, 0, 1, 0]], [(0, [pick (bodyOf Tryz.f100) [1, 1, 1, 1]])], sl 25 [(3, c1 (vO flV 0 [])), (12, c1 (vL flV l_)), (13, c1 (vi (l_.length : Int))), (14, c1 (vi 0))], [some (arO false flV.sz 0 (flV.f []))]⟩) ?_
 refine markE hb 0 0 false (sz := flV.sz) (fr := 0) (cs := flV.f []) (by kernel_rfl) (Nat.zero_le _) ?_
 refine loopE hb 0 (g_value_copies_L1 r_value_copied l_) (fun s1 => sl 25 [(3, c1 (vO flV 0 s1.2)), (12, c1 (vL flV l_)), (13, c1 (vi (l_.length : Int))), (14, c1 (vi s1.1))]) (fun s1 => [some (arO false flV.sz ((flV.f s1.2).length) (flV.f s1.2))]) [3, 12, 13, 14] [] 1 (s0 := (0, [])) ⟨(under_arO _ _ _ _ _), trivial⟩ hq (fun s1 x1 hq hn1 he1 => ?_)
 refine ifE hb 5 [15] [] hq (fun hq _ => ?_) (fun hq _ => ?_)
 refine idxE hb flV 6 hq fun x4 hx4 hq => ?_
 refine callE hb 7 hq (hr_value_copied x4) fun y5 hy5 hq => ?_
 refine appOwnE flV hb 1 0 false ((flV.f s1.2).length) (flV.one y5) hq fun l6 hl6 hq => ?_
 refine markE hb 7 0 false (sz := flV.sz) (fr := (flV.f s1.2).length) (cs := flV.f l6) (by kernel_rfl) (app_le flV hl6) ?_
 exact backE hb 0 [3, 12, 13, 14] [] 1 (hn1 _ (injO hq)) ⟨(under_arO _ _ _ _ _), trivial⟩
 refine cellTE hb 7 2 (c := vO flV 0 s1.2) (conv_own flV (nb := false) (id := 0) (xs := s1.2) (by kernel_rfl)) ?_
 exact retE hb 0 (he1 _ (injO hq))
noncomputable def g_value_copied (r_value_copies : List Val → Option (List Val)) (v_ : Val) : Option (Val) :=
  (clone 16 v_.keys).bind fun y1 => (r_value_copies v_.items).bind fun y2 => some (Val.mk v_.kind v_.num v_.str y2 y1)
theorem g_value_copied_ok (hb : Base E E0 G) (he : ∀ w, E w → EnvV w) (r_value_copies : List Val → Option (List Val)) (hr_value_copies : ∀ (a0 : List Val) (r : List Val), r_value_copies a0 = some r → Pure E E0 Tryz.prog 100 [.cell (vL flV a0)] (c1 (vL flV r))) (v_ : Val) : ∀ r_ : Val, g_value_copied r_value_copies v_ = some r_ →
 Pure E E0 Tryz.prog 80 [.agg (aV v_)] (.one (.agg (aV r_))) := by
 refine fnE hb Tryz.func80 rfl fun r_ hq => ?_
 refine callE hb 9 hq (cloneK_g hb he v_.keys) fun y1 hy1 hq => ?_
 refine callE hb 7 hq (hr_value_copies v_.items) fun y2 hy2 hq => ?_
 exact retE hb 8 (injO hq).symm
noncomputable def t_value_copied_step (rec : Val → Unit → Option (Val)) (a : Val) (b : Unit) : Option (Val) :=
  g_value_copied (g_value_copies (fun a0 => rec a0 ())) a
noncomputable def t_value_copied (a0 : Val) : Option (Val) := tieF relV wfV t_value_copied_step a0 ()
theorem t_value_copied_ok (hb : Base E E0 G) (he : ∀ w, E w → EnvV w) (a0 : Val) (r : Val) (hq : t_value_copied a0 = some r) : Pure E E0 Tryz.prog 80 [.agg (aV a0)] (.one (.agg (aV r))) :=
  tieF_ok (C := fun a b r => Pure E E0 Tryz.prog 80 [.agg (aV a)] (.one (.agg (aV r)))) (fun rec hr a b r hq => g_value_copied_ok hb he (g_value_copies (fun a0 => rec a0 ())) (g_value_copies_ok hb he (fun a0 => rec a0 ()) (fun a0 r e => hr a0 () r e)) a r hq) a0 () r hq
noncomputable def t_value_copies (a0 : List Val) : Option (List Val) := (g_value_copies t_value_copied) a0
theorem t_value_copies_ok (hb : Base E E0 G) (he : ∀ w, E w → EnvV w) (a0 : List Val) (r : List Val) (hq : t_value_copies a0 = some r) : Pure E E0 Tryz.prog 100 [.cell (vL flV a0)] (c1 (vL flV r)) :=
  g_value_copies_ok hb he t_value_copied (t_value_copied_ok hb he) a0 r hq
noncomputable def g_value_Get  (v_ : Val) (key_ : ByteArray) : Option (Val × Bool) :=
  (g_slices_BinarySearch v_.keys key_).bind fun y1 => bif (!decide (v_.kind = 5)) then some ((Val.mk 0 0 eS [] []), false) else bif (!y1.2) then some ((Val.mk 0 0 eS [] []), false) else bif (decide (y1.1 ≥ (v_.items.length : Int))) then some ((Val.mk 0 0 eS [] []), false) else (idx v_.items y1.1).bind fun x5 => (t_value_copied x5).bind fun y6 => some (y6, true)
theorem g_value_Get_ok (hb : Base E E0 G) (he : ∀ w, E w → EnvV w)   (v_ : Val) (key_ : ByteArray) : ∀ r_ : Val × Bool, g_value_Get v_ key_ = some r_ →
 Pure E E0 Tryz.prog 59 [.agg (aV v_), .cell (vS key_)] (.tup [.agg (aV r_.1), .cell (vB r_.2)]) := by
 refine fnE hb Tryz.func59 rfl fun r_ hq => ?_
 refine callE hb 11 hq (g_slices_BinarySearch_ok hb he v_.keys key_) fun y1 hy1 hq => ?_
 refine ifE hb 13 [17, 18] [] hq (fun hq _ => ?_) (fun hq _ => ?_)
 exact retE hb 18 (injO hq).symm
 refine ifE hb 4 [20, 21, 22] [] hq (fun hq _ => ?_) (fun hq _ => ?_)
 exact retE hb 14 (injO hq).symm
 refine ifE hb 7 [27, 28] [] hq (fun hq _ => ?_) (fun hq _ => ?_)
 exact retE hb 7 (injO hq).symm
 refine idxE hb flV 7 hq fun x5 hx5 hq => ?_
 refine callE hb 1 hq (t_value_copied_ok hb he x5) fun y6 hy6 hq => ?_
 exact retE hb 3 (injO hq).symm
noncomputable def g_slices_Index_L1 (s_ : List ByteArray) (v_ : ByteArray) (s1 : Int) : Option ((Int) ⊕ (Int)) :=
  bif (decide (s1 < (s_.length : Int))) then (idx s_ s1).bind fun x2 => bif (decide (v_ = x2)) then some (.inr (s1)) else some (.inl (IntKind.i64.wrap (s1 + 1))) else some (.inr (-1))
noncomputable def g_slices_Index  (s_ : List ByteArray) (v_ : ByteArray) : Option (Int) :=
  loopO (g_slices_Index_L1 s_ v_) 0
theorem g_slices_Index_ok (hb : Base E E0 G) (he : ∀ w, E w → EnvV w)   (s_ : List ByteArray) (v_ : ByteArray) : ∀ r_ : Int, g_slices_Index s_ v_ = some r_ →
 Pure E E0 Tryz.prog 136 [.cell (vL flS s_), .cell (vS v_)] (c1 (vi r_)) := by
 refine fnE hb Tryz.func136 rfl fun r_ hq => ?_
 refine loopE hb 12 (g_slices_Index_L1 s_ v_) (fun s1 => sl 19 [(0, c1 (vL flS s_)), (1, c1 (vS v_)), (7, c1 (vi (s_.length : Int))), (8, c1 (vi s1))]) (fun s1 => []) [0, 1, 7, 8] [] 0 (s0 := 0) trivial hq (fun s1 x1 hq hn1 he1 => ?_)
 refine ifE hb 5 [9] [] hq (fun hq _ => ?_) (fun hq _ => ?_)
 refine idxE hb flS 14 hq fun x2 hx2 hq => ?_
 refine ifE hb 3 [16] [] hq (fun hq _ => ?_) (fun hq _ => ?_)
 exact retE hb 6 (he1 _ (injO hq))
 exact backE hb 7 [0, 1, 7, 8] [] 0 (hn1 _ (injO hq)) trivial
 exact retE hb 6 (he1 _ (injO hq))
noncomputable def g_slices_Contains  (s_ : List ByteArray) (v_ : ByteArray) : Option (Bool) :=
  (g_slices_Index s_ v_).bind fun y1 => some (decide (y1 ≥ 0))
theorem g_slices_Contains_ok (hb : Base E E0 G) (he : ∀ w, E w → EnvV w)   (s_ : List ByteArray) (v_ : ByteArray) : ∀ r_ : Bool, g_slices_Contains s_ v_ = some r_ →
 Pure E E0 Tryz.prog 126 [.cell (vL flS s_), .cell (vS v_)] (c1 (vB r_)) := by
 refine fnE hb Tryz.func126 rfl fun r_ hq => ?_
 refine callE hb 8 hq (g_slices_Index_ok hb he s_ v_) fun y1 hy1 hq => ?_
 exact retE hb 3 (injO hq).symm
noncomputable def g_convert_each_L1 (r_convert_to : Val → Ty → Option (Val × Int)) (v_ : Val) (t_ : Ty) (y1 : List ByteArray) (s1 : Int × List Val) : Option ((Int × List Val) ⊕ (Val × Int)) :=
  bif (decide (s1.1 < (v_.items.length : Int))) then (idx v_.items s1.1).bind fun x3 => (r_convert_to x3 t_).bind fun y4 => bif (!decide (y4.2 = 0)) then some (.inr ((Val.mk 0 0 eS [] []), y4.2)) else (app 80 s1.2 [y4.1]).bind fun l6 => some (.inl ((IntKind.i64.wrap (s1.1 + 1)), l6)) else some (.inr ((Val.mk v_.kind 0 eS s1.2 y1), 0))
noncomputable def g_convert_each (r_convert_to : Val → Ty → Option (Val × Int)) (v_ : Val) (t_ : Ty) : Option (Val × Int) :=
  (clone 16 v_.keys).bind fun y1 => loopO (g_convert_each_L1 r_convert_to v_ t_ y1) (0, [])
theorem g_convert_each_ok (hb : Base E E0 G) (he : ∀ w, E w → EnvV w) (r_convert_to : Val → Ty → Option (Val × Int)) (hr_convert_to : ∀ (a0 : Val) (a1 : Ty) (r : Val × Int), r_convert_to a0 a1 = some r → Pure E E0 Tryz.prog 96 [.agg (aV a0), .agg (aT a1)] (.tup [.agg (aV r.1), .cell (vi r.2)])) (v_ : Val) (t_ : Ty) : ∀ r_ : Val × Int, g_convert_each r_convert_to v_ t_ = some r_ →
 Pure E E0 Tryz.prog 114 [.agg (aV v_), .agg (aT t_)] (.tup [.agg (aV r_.1), .cell (vi r_.2)]) := by
 refine fnE hb Tryz.func114 rfl fun r_ hq => ?_
 refine drawE hb mixed 8 7 [] ?_
 refine callE hb 4 hq (cloneK_g hb he v_.keys) fun y1 hy1 hq => ?_
 refine cpE hb 14 [3, 4, 6, 18, 19, 20] (s' := ⟨none, [pick (bodyOf Tryz.f114) [1, 1, 0, 1, 0]], [(0, [pick (bodyOf Tryz.f114) [1, 1, 1]])], sl 42 [(3, pt 1), (4, pt 2), (6, pt 3), (18, c1 (vL flV v_.items)), (19, c1 (vi (v_.items.length : Int))), (20, c1 (vi 0))], [bx (aV v_), bx (aT t_), bx zV, bx [vi v_.kind, vi 0, vS eS, vN, vL flS y1]]⟩) ?_
 refine ownSE hb 0 3 3 5 (cs := [vi v_.kind, vi 0, vS eS, vN, vL flS y1]) (by kernel_rfl) ?_
 refine loopE hb 0 (g_convert_each_L1 r_convert_to v_ t_ y1) (fun s1 => sl 42 [(3, pt 1), (4, pt 2), (6, pt 3), (18, c1 (vL flV v_.items)), (19, c1 (vi (v_.items.length : Int))), (20, c1 (vi s1.1))]) (fun s1 => [none, bx (aT t_), bx zV, bx [vi v_.kind, vi 0, vS eS, vO flV 4 s1.2, vL flS y1], some (arO true flV.sz ((flV.f s1.2).length) (flV.f s1.2))]) [3, 4, 6, 18, 19, 20] [0] 5 (s0 := (0, [])) ⟨rfl, (by kernel_rfl), (by kernel_rfl), (by kernel_rfl), (under_arO _ _ _ _ _), trivial⟩ hq (fun s1 x1 hq hn1 he1 => ?_)
 refine ifE hb 5 [21] [] hq (fun hq _ => ?_) (fun hq _ => ?_)
 refine idxE hb flV 6 hq fun x3 hx3 hq => ?_
 refine callE hb 8 hq (hr_convert_to x3 t_) fun y4 hy4 hq => ?_
 refine ifE hb 13 [31] [] hq (fun hq _ => ?_) (fun hq _ => ?_)
 exact retE hb 8 (he1 _ (injO hq))
 refine appOwnE flV hb 7 4 true ((flV.f s1.2).length) (flV.one y4.1) hq fun l6 hl6 hq => ?_
 refine markE hb 8 4 true (sz := flV.sz) (fr := (flV.f s1.2).length) (cs := flV.f l6) (by kernel_rfl) (app_le flV hl6) ?_
 exact backE hb 0 [3, 4, 6, 18, 19, 20] [] 5 (hn1 _ (injO hq)) ⟨rfl, (by kernel_rfl), (by kernel_rfl), (by kernel_rfl), (under_arO _ _ _ _ _), trivial⟩
 refine cellSE hb 8 2 3 (cs := [vi v_.kind, vi 0, vS eS, vO flV 4 s1.2, vL flS y1]) (c := vO flV 4 s1.2) (conv_own flV (nb := true) (id := 4) (xs := s1.2) (by kernel_rfl)) (by kernel_rfl) ?_
 exact retE hb 0 (he1 _ (injO hq))
noncomputable def g_convert_toObject_L2 (r_convert_to : Val → Ty → Option (Val × Int)) (v_ : Val) (t_ : Ty) (y5 : List ByteArray) (s2 : Int × List Val) : Option ((Int × List Val) ⊕ ((Int) ⊕ (Val × Int))) :=
  bif (decide (s2.1 < (t_.names.length : Int))) then (idx t_.names s2.1).bind fun x7 => (g_value_Get v_ x7).bind fun y8 => (idx t_.elems s2.1).bind fun x9 => (r_convert_to y8.1 x9).bind fun y10 => bif (!decide (y10.2 = 0)) then some (.inr (.inr ((Val.mk 0 0 eS [] []), y10.2))) else (app 80 s2.2 [y10.1]).bind fun l12 => some (.inl ((IntKind.i64.wrap (s2.1 + 1)), l12)) else some (.inr (.inr ((Val.mk 5 0 eS s2.2 y5), 0)))
noncomputable def g_convert_toObject_L1 (r_convert_to : Val → Ty → Option (Val × Int)) (v_ : Val) (t_ : Ty) (s1 : Int) : Option ((Int) ⊕ (Val × Int)) :=
  bif (decide (s1 < (v_.keys.length : Int))) then (idx v_.keys s1).bind fun x2 => (g_slices_Contains t_.names x2).bind fun y3 => bif (!y3) then some (.inr ((Val.mk 0 0 eS [] []), 13)) else some (.inl (IntKind.i64.wrap (s1 + 1))) else (clone 16 t_.names).bind fun y5 => loopO (g_convert_toObject_L2 r_convert_to v_ t_ y5) (0, [])
noncomputable def g_convert_toObject (r_convert_to : Val → Ty → Option (Val × Int)) (v_ : Val) (t_ : Ty) : Option (Val × Int) :=
  loopO (g_convert_toObject_L1 r_convert_to v_ t_) 0
theorem g_convert_toObject_ok (hb : Base E E0 G) (he : ∀ w, E w → EnvV w) (r_convert_to : Val → Ty → Option (Val × Int)) (hr_convert_to : ∀ (a0 : Val) (a1 : Ty) (r : Val × Int), r_convert_to a0 a1 = some r → Pure E E0 Tryz.prog 96 [.agg (aV a0), .agg (aT a1)] (.tup [.agg (aV r.1), .cell (vi r.2)])) (v_ : Val) (t_ : Ty) : ∀ r_ : Val × Int, g_convert_toObject r_convert_to v_ t_ = some r_ →
 Pure E E0 Tryz.prog 115 [.agg (aV v_), .agg (aT t_)] (.tup [.agg (aV r_.1), .cell (vi r_.2)]) := by
 refine fnE hb Tryz.func115 rfl fun r_ hq => ?_
 refine loopE hb 16 (g_convert_toObject_L1 r_convert_to v_ t_) (fun s1 => sl 69 [(2, pt 0), (3, pt 1), (4, pt 2), (16, c1 (vL flS v_.keys)), (17, c1 (vi (v_.keys.length : Int))), (18, c1 (vi s1))]) (fun s1 => [bx (aV v_), bx (aT t_), bx zV]) [2, 3, 4, 16, 17, 18] [] 3 (s0 := 0) ⟨(by kernel_rfl), (by kernel_rfl), (by kernel_rfl), trivial⟩ hq (fun s1 x1 hq hn1 he1 => ?_)
 refine ifE hb 5 [19] [] hq (fun hq _ => ?_) (fun hq _ => ?_)
 refine idxE hb flS 6 hq fun x2 hx2 hq => ?_
 refine callE hb 8 hq (g_slices_Contains_ok hb he t_.names x2) fun y3 hy3 hq => ?_
 refine ifE hb 2 [26] [] hq (fun hq _ => ?_) (fun hq _ => ?_)
 exact retE hb 7 (he1 _ (injO hq))
 exact backE hb 7 [2, 3, 4, 16, 17, 18] [] 3 (hn1 _ (injO hq)) ⟨(by kernel_rfl), (by kernel_rfl), (by kernel_rfl), trivial⟩
 refine callE hb 6 hq (cloneK_g hb he t_.names) fun y5 hy5 hq => ?_
 refine cpE hb 13 [2, 3, 4, 8, 34, 35, 36] (s' := ⟨none, [pick (bodyOf Tryz.f115) [1, 1, 1, 0, 1, 0]], [(2, [pick (bodyOf Tryz.f115) [1, 1, 1, 1]])], sl 69 [(2, pt 0), (3, pt 1), (4, pt 2), (8, pt 3), (34, c1 (vL flS t_.names)), (35, c1 (vi (t_.names.length : Int))), (36, c1 (vi 0))], [bx (aV v_), bx (aT t_), bx zV, bx [vi 5, vi 0, vS eS, vN, vL flS y5]]⟩) ?_
 refine ownSE hb 0 3 3 5 (cs := [vi 5, vi 0, vS eS, vN, vL flS y5]) (by kernel_rfl) ?_
 refine loopE hb 0 (g_convert_toObject_L2 r_convert_to v_ t_ y5) (fun s2 => sl 69 [(2, pt 0), (3, pt 1), (4, pt 2), (8, pt 3), (34, c1 (vL flS t_.names)), (35, c1 (vi (t_.names.length : Int))), (36, c1 (vi s2.1))]) (fun s2 => [bx (aV v_), bx (aT t_), bx zV, bx [vi 5, vi 0, vS eS, vO flV 4 s2.2, vL flS y5], some (arO true flV.sz ((flV.f s2.2).length) (flV.f s2.2))]) [2, 3, 4, 8, 34, 35, 36] [] 5 (s0 := (0, [])) ⟨(by kernel_rfl), (by kernel_rfl), (by kernel_rfl), (by kernel_rfl), (under_arO _ _ _ _ _), trivial⟩ hq (fun s2 x2 hq hn2 he2 => ?_)
 refine ifE hb 5 [37] [] hq (fun hq _ => ?_) (fun hq _ => ?_)
 refine idxE hb flS 7 hq fun x7 hx7 hq => ?_
 refine callE hb 8 hq (g_value_Get_ok hb he v_ x7) fun y8 hy8 hq => ?_
 refine drawE hb mixed 8 11 [9] ?_
 refine idxE hb flT 4 hq fun x9 hx9 hq => ?_
 refine callE hb 1 hq (hr_convert_to y8.1 x9) fun y10 hy10 hq => ?_
 refine cpE hb 10 [2, 3, 4, 8, 13, 14, 34, 35, 36] (s' := ⟨none, [pick (bodyOf Tryz.f115) [1, 1, 1, 0, 1, 0, 0, 1, 1, 0, 0, 1, 1, 1, 0, 0], pick (bodyOf Tryz.f115) [1, 1, 1, 0, 1, 0, 0, 1, 1, 0, 0, 1, 1, 1, 0, 1], pick (bodyOf Tryz.f115) [1, 1, 1, 0, 1, 0, 0, 1, 1, 0, 0, 1, 1, 1, 1]], [(3, [pick (bodyOf Tryz.f115) [1, 1, 1, 0, 1, 0, 0, 1, 1, 1], pick (bodyOf Tryz.f115) [1, 1, 1, 0, 1, 0]]), (2, [pick (bodyOf Tryz.f115) [1, 1, 1, 1]])], sl 69 [(2, pt 0), (3, pt 1), (4, pt 2), (8, pt 3), (13, pt 6), (14, c1 (vi y10.2)), (34, c1 (vL flS t_.names)), (35, c1 (vi (t_.names.length : Int))), (36, c1 (vi s2.1))], [bx (aV v_), bx (aT t_), bx zV, bx [vi 5, vi 0, vS eS, vO flV 4 s2.2, vL flS y5], some (arO true flV.sz ((flV.f s2.2).length) (flV.f s2.2)), bx (aV y8.1), bx (aV y10.1)]⟩) ?_
 refine ifE hb 4 [58] [] hq (fun hq _ => ?_) (fun hq _ => ?_)
 exact retE hb 8 (he1 _ ((he2 _ (injO hq)).symm))
 refine appOwnE flV hb 7 4 true ((flV.f s2.2).length) (flV.one y10.1) hq fun l12 hl12 hq => ?_
 refine markE hb 8 4 true (sz := flV.sz) (fr := (flV.f s2.2).length) (cs := flV.f l12) (by kernel_rfl) (app_le flV hl12) ?_
 exact backE hb 0 [2, 3, 4, 8, 34, 35, 36] [] 5 (hn2 _ (injO hq)) ⟨(by kernel_rfl), (by kernel_rfl), (by kernel_rfl), (by kernel_rfl), (under_arO _ _ _ _ _), trivial⟩
 refine cellSE hb 8 2 3 (cs := [vi 5, vi 0, vS eS, vO flV 4 s2.2, vL flS y5]) (c := vO flV 4 s2.2) (conv_own flV (nb := true) (id := 4) (xs := s2.2) (by kernel_rfl)) (by kernel_rfl) ?_
 exact retE hb 0 (he1 _ ((he2 _ (injO hq)).symm))
noncomputable def g_convert_to (r_convert_toObject : Val → Ty → Option (Val × Int)) (r_convert_each : Val → Ty → Option (Val × Int)) (v_ : Val) (t_ : Ty) : Option (Val × Int) :=
  bif (decide (t_.kind = 0)) then (cpy v_).bind fun y2 => some (y2, 0) else bif (decide (v_.kind = 0)) then (cpy v_).bind fun y4 => some (y4, 0) else bif (decide (v_.kind = 6)) then (cpy v_).bind fun y6 => some (y6, 0) else bif (decide (t_.kind = 1)) then (g_convert_toBool v_).bind fun y8 => some (y8.1, y8.2) else bif (decide (t_.kind = 2)) then (g_convert_toNumber v_).bind fun y10 => some (y10.1, y10.2) else bif (decide (t_.kind = 3)) then (g_convert_toString v_).bind fun y12 => some (y12.1, y12.2) else bif (decide (t_.kind = 4)) then bif (decide (v_.kind = 4)) then (idx t_.elems 0).bind fun x15 => (r_convert_each v_ x15).bind fun y16 => some (y16.1, y16.2) else some ((Val.mk 0 0 eS [] []), 6) else bif (decide (t_.kind = 5)) then bif (decide (v_.kind = 5)) then (idx t_.elems 0).bind fun x19 => (r_convert_each v_ x19).bind fun y20 => some (y20.1, y20.2) else some ((Val.mk 0 0 eS [] []), 6) else bif (decide (t_.kind = 6)) then bif (decide (v_.kind = 5)) then (r_convert_toObject v_ t_).bind fun y23 => some (y23.1, y23.2) else some ((Val.mk 0 0 eS [] []), 6) else some ((Val.mk 0 0 eS [] []), 6)
theorem g_convert_to_ok (hb : Base E E0 G) (he : ∀ w, E w → EnvV w) (r_convert_toObject : Val → Ty → Option (Val × Int)) (r_convert_each : Val → Ty → Option (Val × Int)) (hr_convert_toObject : ∀ (a0 : Val) (a1 : Ty) (r : Val × Int), r_convert_toObject a0 a1 = some r → Pure E E0 Tryz.prog 115 [.agg (aV a0), .agg (aT a1)] (.tup [.agg (aV r.1), .cell (vi r.2)])) (hr_convert_each : ∀ (a0 : Val) (a1 : Ty) (r : Val × Int), r_convert_each a0 a1 = some r → Pure E E0 Tryz.prog 114 [.agg (aV a0), .agg (aT a1)] (.tup [.agg (aV r.1), .cell (vi r.2)])) (v_ : Val) (t_ : Ty) : ∀ r_ : Val × Int, g_convert_to r_convert_toObject r_convert_each v_ t_ = some r_ →
 Pure E E0 Tryz.prog 96 [.agg (aV v_), .agg (aT t_)] (.tup [.agg (aV r_.1), .cell (vi r_.2)]) := by
 refine fnE hb Tryz.func96 rfl fun r_ hq => ?_
 refine ifE hb 14 [8, 9] [] hq (fun hq _ => ?_) (fun hq _ => ?_)
 refine callE hb 14 hq (copied_convert_g hb he v_) fun y2 hy2 hq => ?_
 exact retE hb 3 (injO hq).symm
 refine ifE hb 5 [12, 13, 14] [] hq (fun hq _ => ?_) (fun hq _ => ?_)
 refine callE hb 9 hq (copied_convert_g hb he v_) fun y4 hy4 hq => ?_
 exact retE hb 3 (injO hq).symm
 refine ifE hb 5 [17, 18] [] hq (fun hq _ => ?_) (fun hq _ => ?_)
 refine callE hb 4 hq (copied_convert_g hb he v_) fun y6 hy6 hq => ?_
 exact retE hb 3 (injO hq).symm
 refine ifE hb 14 [23, 24] [] hq (fun hq _ => ?_) (fun hq _ => ?_)
 refine callE hb 4 hq (g_convert_toBool_ok hb he v_) fun y8 hy8 hq => ?_
 exact retE hb 5 (injO hq).symm
 refine ifE hb 6 [29, 30] [] hq (fun hq _ => ?_) (fun hq _ => ?_)
 refine callE hb 4 hq (g_convert_toNumber_ok hb he v_) fun y10 hy10 hq => ?_
 exact retE hb 5 (injO hq).symm
 refine ifE hb 6 [35, 36] [] hq (fun hq _ => ?_) (fun hq _ => ?_)
 refine callE hb 4 hq (g_convert_toString_ok hb he v_) fun y12 hy12 hq => ?_
 exact retE hb 5 (injO hq).symm
 refine ifE hb 6 [41, 42] [] hq (fun hq _ => ?_) (fun hq _ => ?_)
 refine cpE hb 2 [2, 3, 4] (s' := ⟨none, [pick (bodyOf Tryz.f96) [1, 1, 0, 1, 0, 1, 1, 1, 1, 1, 1, 1, 0, 0], pick (bodyOf Tryz.f96) [1, 1, 0, 1, 0, 1, 1, 1, 1, 1, 1, 1, 0, 1]], [(0, [pick (bodyOf Tryz.f96) [1, 1, 1]])], sl 78 [(2, pt 0), (3, pt 1), (4, pt 2)], [bx (aV v_), bx (aT t_), bx zV]⟩) ?_
 refine ifE hb 5 [45] [] hq (fun hq _ => ?_) (fun hq _ => ?_)
 refine drawE hb mixed 2 7 [6] ?_
 refine idxE hb flT 3 hq fun x15 hx15 hq => ?_
 refine callE hb 1 hq (hr_convert_each v_ x15) fun y16 hy16 hq => ?_
 exact retE hb 6 (injO hq).symm
 exact retE hb 9 (injO hq).symm
 refine cpE hb 2 [2, 3, 4, 22] (s' := ⟨none, [pick (bodyOf Tryz.f96) [1, 1, 0, 1, 0, 1, 1, 1, 1, 1, 1, 1, 1, 0], pick (bodyOf Tryz.f96) [1, 1, 0, 1, 0, 1, 1, 1, 1, 1, 1, 1, 1, 1]], [(0, [pick (bodyOf Tryz.f96) [1, 1, 1]])], sl 78 [(2, pt 0), (3, pt 1), (4, pt 2), (22, c1 (vi t_.kind))], [bx (aV v_), bx (aT t_), bx zV]⟩) ?_
 refine ifE hb 4 [54, 55] [] hq (fun hq _ => ?_) (fun hq _ => ?_)
 refine ifE hb 7 [58] [] hq (fun hq _ => ?_) (fun hq _ => ?_)
 refine drawE hb mixed 2 7 [6] ?_
 refine idxE hb flT 3 hq fun x19 hx19 hq => ?_
 refine callE hb 1 hq (hr_convert_each v_ x19) fun y20 hy20 hq => ?_
 exact retE hb 6 (injO hq).symm
 exact retE hb 9 (injO hq).symm
 refine ifE hb 6 [67, 68] [] hq (fun hq _ => ?_) (fun hq _ => ?_)
 refine ifE hb 7 [71] [] hq (fun hq _ => ?_) (fun hq _ => ?_)
 refine callE hb 5 hq (hr_convert_toObject v_ t_) fun y23 hy23 hq => ?_
 exact retE hb 5 (injO hq).symm
 exact retE hb 9 (injO hq).symm
 exact retE hb 9 (injO hq).symm
noncomputable def t_convert_to_step (rec : Ty → Val → Option (Val × Int)) (a : Ty) (b : Val) : Option (Val × Int) :=
  g_convert_to (g_convert_toObject (fun a0 a1 => rec a1 a0)) (g_convert_each (fun a0 a1 => rec a1 a0)) b a
noncomputable def t_convert_to (a0 : Val) (a1 : Ty) : Option (Val × Int) := tieF relT wfT t_convert_to_step a1 a0
theorem t_convert_to_ok (hb : Base E E0 G) (he : ∀ w, E w → EnvV w) (a0 : Val) (a1 : Ty) (r : Val × Int) (hq : t_convert_to a0 a1 = some r) : Pure E E0 Tryz.prog 96 [.agg (aV a0), .agg (aT a1)] (.tup [.agg (aV r.1), .cell (vi r.2)]) :=
  tieF_ok (C := fun a b r => Pure E E0 Tryz.prog 96 [.agg (aV b), .agg (aT a)] (.tup [.agg (aV r.1), .cell (vi r.2)])) (fun rec hr a b r hq => g_convert_to_ok hb he (g_convert_toObject (fun a0 a1 => rec a1 a0)) (g_convert_each (fun a0 a1 => rec a1 a0)) (g_convert_toObject_ok hb he (fun a0 a1 => rec a1 a0) (fun a0 a1 r e => hr a1 a0 r e)) (g_convert_each_ok hb he (fun a0 a1 => rec a1 a0) (fun a0 a1 r e => hr a1 a0 r e)) b a r hq) a1 a0 r hq
noncomputable def t_convert_each (a0 : Val) (a1 : Ty) : Option (Val × Int) := (g_convert_each t_convert_to) a0 a1
theorem t_convert_each_ok (hb : Base E E0 G) (he : ∀ w, E w → EnvV w) (a0 : Val) (a1 : Ty) (r : Val × Int) (hq : t_convert_each a0 a1 = some r) : Pure E E0 Tryz.prog 114 [.agg (aV a0), .agg (aT a1)] (.tup [.agg (aV r.1), .cell (vi r.2)]) :=
  g_convert_each_ok hb he t_convert_to (t_convert_to_ok hb he) a0 a1 r hq
noncomputable def t_convert_toObject (a0 : Val) (a1 : Ty) : Option (Val × Int) := (g_convert_toObject t_convert_to) a0 a1
theorem t_convert_toObject_ok (hb : Base E E0 G) (he : ∀ w, E w → EnvV w) (a0 : Val) (a1 : Ty) (r : Val × Int) (hq : t_convert_toObject a0 a1 = some r) : Pure E E0 Tryz.prog 115 [.agg (aV a0), .agg (aT a1)] (.tup [.agg (aV r.1), .cell (vi r.2)]) :=
  g_convert_toObject_ok hb he t_convert_to (t_convert_to_ok hb he) a0 a1 r hq
noncomputable def g_convert_To  (v_ : Val) (t_ : Ty) : Option (Val × Int) :=
  (t_convert_to v_ t_).bind fun y1 => bif (decide (y1.2 = 0)) then (m_checkE y1.1).bind fun y3 => bif (!decide (y3 = 0)) then some ((Val.mk 0 0 eS [] []), y3) else some (y1.1, 0) else some ((Val.mk 0 0 eS [] []), y1.2)
theorem g_convert_To_ok (hb : Base E E0 G) (he : ∀ w, E w → EnvV w)   (v_ : Val) (t_ : Ty) : ∀ r_ : Val × Int, g_convert_To v_ t_ = some r_ →
 Pure E E0 Tryz.prog 76 [.agg (aV v_), .agg (aT t_)] (.tup [.agg (aV r_.1), .cell (vi r_.2)]) := by
 refine fnE hb Tryz.func76 rfl fun r_ hq => ?_
 refine callE hb 11 hq (t_convert_to_ok hb he v_ t_) fun y1 hy1 hq => ?_
 refine ifE hb 13 [15] [] hq (fun hq _ => ?_) (fun hq hc2 => ?_)
 refine callE hb 3 hq (pCheck_g hb he y1.1) fun y3 hy3 hq => ?_
 refine ifE hb 8 [19] [] hq (fun hq _ => ?_) (fun hq _ => ?_)
 exact retE hb 8 (injO hq).symm
 exact retE hb 8 (injO hq).symm
 refine knE hb 8 [19] [] (b := (!decide (y1.2 = 0))) (v := true) (congrArg (fun z => !z) hc2) ?_
 exact retE hb 8 (injO hq).symm
noncomputable def g_convert_simple  (v_ : Val) (k_ : Int) : Option (Val × Int) :=
  bif (decide (v_.kind = 0)) then some ((Val.mk 0 0 eS [] []), 6) else (g_convert_To v_ (Ty.mk k_ [] [])).bind fun y2 => some (y2.1, y2.2)
theorem g_convert_simple_ok (hb : Base E E0 G) (he : ∀ w, E w → EnvV w)   (v_ : Val) (k_ : Int) : ∀ r_ : Val × Int, g_convert_simple v_ k_ = some r_ →
 Pure E E0 Tryz.prog 73 [.agg (aV v_), .cell (vi k_)] (.tup [.agg (aV r_.1), .cell (vi r_.2)]) := by
 refine fnE hb Tryz.func73 rfl fun r_ hq => ?_
 refine ifE hb 13 [8] [] hq (fun hq _ => ?_) (fun hq _ => ?_)
 exact retE hb 7 (injO hq).symm
 refine callE hb 7 hq (g_convert_To_ok hb he v_ (Ty.mk k_ [] [])) fun y2 hy2 hq => ?_
 exact retE hb 5 (injO hq).symm
noncomputable def g_convert_Truth  (v_ : Val) : Option (Val × Int) :=
  (g_convert_simple v_ 1).bind fun y1 => some (y1.1, y1.2)
theorem g_convert_Truth_ok (hb : Base E E0 G) (he : ∀ w, E w → EnvV w)   (v_ : Val) : ∀ r_ : Val × Int, g_convert_Truth v_ = some r_ →
 Pure E E0 Tryz.prog 47 [.agg (aV v_)] (.tup [.agg (aV r_.1), .cell (vi r_.2)]) := by
 refine fnE hb Tryz.func47 rfl fun r_ hq => ?_
 refine callE hb 9 hq (g_convert_simple_ok hb he v_ 1) fun y1 hy1 hq => ?_
 exact retE hb 5 (injO hq).symm
noncomputable def g_ops_open_1  (v_ : Val) : Option (Bool) :=
  some (decide (v_.kind = 6))
theorem g_ops_open_1_ok (hb : Base E E0 G) (he : ∀ w, E w → EnvV w)   (v_ : Val) : ∀ r_ : Bool, g_ops_open_1 v_ = some r_ →
 Pure E E0 Tryz.prog 75 [.agg (aV v_)] (c1 (vB r_)) := by
 refine fnE hb Tryz.func75 rfl fun r_ hq => ?_
 exact retE hb 12 (injO hq).symm
noncomputable def g_slices_IndexFunc_ops_open_1_L1 (s_ : List Val) (s1 : Int) : Option ((Int) ⊕ (Int)) :=
  bif (decide (s1 < (s_.length : Int))) then (idx s_ s1).bind fun x2 => (g_ops_open_1 x2).bind fun y3 => bif y3 then some (.inr (s1)) else some (.inl (IntKind.i64.wrap (s1 + 1))) else some (.inr (-1))
noncomputable def g_slices_IndexFunc_ops_open_1  (s_ : List Val) : Option (Int) :=
  loopO (g_slices_IndexFunc_ops_open_1_L1 s_) 0
theorem g_slices_IndexFunc_ops_open_1_ok (hb : Base E E0 G) (he : ∀ w, E w → EnvV w)   (s_ : List Val) : ∀ r_ : Int, g_slices_IndexFunc_ops_open_1 s_ = some r_ →
 Pure E E0 Tryz.prog 95 [.cell (vL flV s_), .cell (.pv (.sc (.func (.func 75) #[] #[])))] (c1 (vi r_)) := by
 refine fnE hb Tryz.func95 rfl fun r_ hq => ?_
 refine loopE hb 12 (g_slices_IndexFunc_ops_open_1_L1 s_) (fun s1 => sl 19 [(0, c1 (vL flV s_)), (1, c1 (.pv (.sc (.func (.func 75) #[] #[])))), (7, c1 (vi (s_.length : Int))), (8, c1 (vi s1))]) (fun s1 => []) [0, 1, 7, 8] [] 0 (s0 := 0) trivial hq (fun s1 x1 hq hn1 he1 => ?_)
 refine ifE hb 5 [9] [] hq (fun hq _ => ?_) (fun hq _ => ?_)
 refine idxE hb flV 14 hq fun x2 hx2 hq => ?_
 refine callE hb 1 hq (g_ops_open_1_ok hb he x2) fun y3 hy3 hq => ?_
 refine ifE hb 1 [16] [] hq (fun hq _ => ?_) (fun hq _ => ?_)
 exact retE hb 6 (he1 _ (injO hq))
 exact backE hb 7 [0, 1, 7, 8] [] 0 (hn1 _ (injO hq)) trivial
 exact retE hb 6 (he1 _ (injO hq))
noncomputable def g_slices_ContainsFunc_ops_open_1  (s_ : List Val) : Option (Bool) :=
  (g_slices_IndexFunc_ops_open_1 s_).bind fun y1 => some (decide (y1 ≥ 0))
theorem g_slices_ContainsFunc_ops_open_1_ok (hb : Base E E0 G) (he : ∀ w, E w → EnvV w)   (s_ : List Val) : ∀ r_ : Bool, g_slices_ContainsFunc_ops_open_1 s_ = some r_ →
 Pure E E0 Tryz.prog 74 [.cell (vL flV s_), .cell (.pv (.sc (.func (.func 75) #[] #[])))] (c1 (vB r_)) := by
 refine fnE hb Tryz.func74 rfl fun r_ hq => ?_
 refine callE hb 8 hq (g_slices_IndexFunc_ops_open_1_ok hb he s_) fun y1 hy1 hq => ?_
 exact retE hb 3 (injO hq).symm
noncomputable def g_ops_open  (l_ : List Val) : Option (Bool) :=
  (g_slices_ContainsFunc_ops_open_1 l_).bind fun y1 => some (y1)
theorem g_ops_open_ok (hb : Base E E0 G) (he : ∀ w, E w → EnvV w)   (l_ : List Val) : ∀ r_ : Bool, g_ops_open l_ = some r_ →
 Pure E E0 Tryz.prog 48 [.cell (vL flV l_)] (c1 (vB r_)) := by
 refine fnE hb Tryz.func48 rfl fun r_ hq => ?_
 refine callE hb 7 hq (g_slices_ContainsFunc_ops_open_1_ok hb he l_) fun y1 hy1 hq => ?_
 exact retE hb 2 (injO hq).symm
noncomputable def g_ops_logic  (a_ : Val) (b_ : Val) (stop_ : Int) : Option (Val × Int) :=
  (g_convert_Truth a_).bind fun y1 => bif (!decide (y1.2 = 0)) then some ((Val.mk 0 0 eS [] []), y1.2) else (g_convert_Truth b_).bind fun y3 => bif (!decide (y3.2 = 0)) then some ((Val.mk 0 0 eS [] []), y3.2) else (g_ops_open [y1.1]).bind fun y5 => bif (!y5) then bif (decide (y1.1.num = stop_)) then (g_value_Bool (decide (stop_ = 1))).bind fun y8 => some (y8, 0) else (g_ops_open [y3.1]).bind fun y9 => bif (!y9) then bif (decide (y3.1.num = stop_)) then (g_value_Bool (decide (stop_ = 1))).bind fun y12 => some (y12, 0) else (g_ops_open [y1.1, y3.1]).bind fun y13 => bif y13 then (g_value_Unknown).bind fun y15 => some (y15, 0) else (g_value_Bool (decide (stop_ = 0))).bind fun y16 => some (y16, 0) else (g_ops_open [y1.1, y3.1]).bind fun y17 => bif y17 then (g_value_Unknown).bind fun y19 => some (y19, 0) else (g_value_Bool (decide (stop_ = 0))).bind fun y20 => some (y20, 0) else (g_ops_open [y3.1]).bind fun y21 => bif (!y21) then bif (decide (y3.1.num = stop_)) then (g_value_Bool (decide (stop_ = 1))).bind fun y24 => some (y24, 0) else (g_ops_open [y1.1, y3.1]).bind fun y25 => bif y25 then (g_value_Unknown).bind fun y27 => some (y27, 0) else (g_value_Bool (decide (stop_ = 0))).bind fun y28 => some (y28, 0) else (g_ops_open [y1.1, y3.1]).bind fun y29 => bif y29 then (g_value_Unknown).bind fun y31 => some (y31, 0) else (g_value_Bool (decide (stop_ = 0))).bind fun y32 => some (y32, 0)
theorem g_ops_logic_ok (hb : Base E E0 G) (he : ∀ w, E w → EnvV w)   (a_ : Val) (b_ : Val) (stop_ : Int) : ∀ r_ : Val × Int, g_ops_logic a_ b_ stop_ = some r_ →
 Pure E E0 Tryz.prog 42 [.agg (aV a_), .agg (aV b_), .cell (vi stop_)] (.tup [.agg (aV r_.1), .cell (vi r_.2)]) := by
 refine fnE hb Tryz.func42 rfl fun r_ hq => ?_
 refine callE hb 10 hq (g_convert_Truth_ok hb he a_) fun y1 hy1 hq => ?_
 refine ifE hb 13 [17] [] hq (fun hq _ => ?_) (fun hq _ => ?_)
 exact retE hb 8 (injO hq).symm
 refine callE hb 5 hq (g_convert_Truth_ok hb he b_) fun y3 hy3 hq => ?_
 refine ifE hb 13 [26] [] hq (fun hq _ => ?_) (fun hq _ => ?_)
 exact retE hb 8 (injO hq).symm
 have hp := (g_ops_open_ok hb he [y1.1])
 simp only [aV, aT, kind_mk, num_mk, str_mk, items_mk, keys_mk, Ty.kind_mk, Ty.elems_mk, Ty.names_mk, vL_one, vL_two, vL_three, vL_four, vL_five, vL_six] at hp
 refine callE hb 8 hq hp fun y5 hy5 hq => ?_
 refine ifE hb 2 [33, 34] [] hq (fun hq _ => ?_) (fun hq _ => ?_)
 refine ifE hb 6 [38, 39, 40] [] hq (fun hq _ => ?_) (fun hq _ => ?_)
 refine cpE hb 13 [2, 6, 8, 10, 29] (s' := ⟨none, [pick (bodyOf Tryz.f42) [1, 1, 1, 1, 1, 0, 0, 1]], [(0, [pick (bodyOf Tryz.f42) [1, 1, 1, 1, 1, 1]])], sl 64 [(2, c1 (vi stop_)), (6, pt 2), (8, pt 3), (10, pt 4), (29, c1 (vB true))], [bx (aV a_), bx (aV b_), bx zV, bx (aV y1.1), bx (aV y3.1)]⟩) ?_
 refine callE hb 5 hq (g_value_Bool_ok hb he (decide (stop_ = 1))) fun y8 hy8 hq => ?_
 exact retE hb 3 (injO hq).symm
 have hp := (g_ops_open_ok hb he [y3.1])
 simp only [aV, aT, kind_mk, num_mk, str_mk, items_mk, keys_mk, Ty.kind_mk, Ty.elems_mk, Ty.names_mk, vL_one, vL_two, vL_three, vL_four, vL_five, vL_six] at hp
 refine callE hb 2 hq hp fun y9 hy9 hq => ?_
 refine ifE hb 2 [44, 45] [] hq (fun hq _ => ?_) (fun hq _ => ?_)
 refine cpE hb 8 [2, 6, 8, 10, 29] (s' := ⟨none, [pick (bodyOf Tryz.f42) [1, 1, 1, 1, 1, 0, 0, 1]], [(0, [pick (bodyOf Tryz.f42) [1, 1, 1, 1, 1, 1]])], sl 64 [(2, c1 (vi stop_)), (6, pt 2), (8, pt 3), (10, pt 4), (29, c1 (vB (decide (y3.1.num = stop_))))], [bx (aV a_), bx (aV b_), bx zV, bx (aV y1.1), bx (aV y3.1)]⟩) ?_
 refine ifE hb 0 [29] [] hq (fun hq _ => ?_) (fun hq _ => ?_)
 refine callE hb 5 hq (g_value_Bool_ok hb he (decide (stop_ = 1))) fun y12 hy12 hq => ?_
 exact retE hb 3 (injO hq).symm
 have hp := (g_ops_open_ok hb he [y1.1, y3.1])
 simp only [aV, aT, kind_mk, num_mk, str_mk, items_mk, keys_mk, Ty.kind_mk, Ty.elems_mk, Ty.names_mk, vL_one, vL_two, vL_three, vL_four, vL_five, vL_six] at hp
 refine callE hb 6 hq hp fun y13 hy13 hq => ?_
 refine ifE hb 2 [55, 59] [] hq (fun hq _ => ?_) (fun hq _ => ?_)
 refine callE hb 3 hq (g_value_Unknown_ok hb he ) fun y15 hy15 hq => ?_
 exact retE hb 3 (injO hq).symm
 refine callE hb 7 hq (g_value_Bool_ok hb he (decide (stop_ = 0))) fun y16 hy16 hq => ?_
 exact retE hb 3 (injO hq).symm
 refine cpE hb 8 [2, 6, 8, 10, 29] (s' := ⟨none, [pick (bodyOf Tryz.f42) [1, 1, 1, 1, 1, 0, 0, 1]], [(0, [pick (bodyOf Tryz.f42) [1, 1, 1, 1, 1, 1]])], sl 64 [(2, c1 (vi stop_)), (6, pt 2), (8, pt 3), (10, pt 4), (29, c1 (vB false))], [bx (aV a_), bx (aV b_), bx zV, bx (aV y1.1), bx (aV y3.1)]⟩) ?_
 have hp := (g_ops_open_ok hb he [y1.1, y3.1])
 simp only [aV, aT, kind_mk, num_mk, str_mk, items_mk, keys_mk, Ty.kind_mk, Ty.elems_mk, Ty.names_mk, vL_one, vL_two, vL_three, vL_four, vL_five, vL_six] at hp
 refine callE hb 6 hq hp fun y17 hy17 hq => ?_
 refine ifE hb 2 [55, 59] [] hq (fun hq _ => ?_) (fun hq _ => ?_)
 refine callE hb 3 hq (g_value_Unknown_ok hb he ) fun y19 hy19 hq => ?_
 exact retE hb 3 (injO hq).symm
 refine callE hb 7 hq (g_value_Bool_ok hb he (decide (stop_ = 0))) fun y20 hy20 hq => ?_
 exact retE hb 3 (injO hq).symm
 have hp := (g_ops_open_ok hb he [y3.1])
 simp only [aV, aT, kind_mk, num_mk, str_mk, items_mk, keys_mk, Ty.kind_mk, Ty.elems_mk, Ty.names_mk, vL_one, vL_two, vL_three, vL_four, vL_five, vL_six] at hp
 refine callE hb 8 hq hp fun y21 hy21 hq => ?_
 refine ifE hb 2 [44, 45] [] hq (fun hq _ => ?_) (fun hq _ => ?_)
 refine cpE hb 8 [2, 6, 8, 10, 29] (s' := ⟨none, [pick (bodyOf Tryz.f42) [1, 1, 1, 1, 1, 0, 0, 1]], [(0, [pick (bodyOf Tryz.f42) [1, 1, 1, 1, 1, 1]])], sl 64 [(2, c1 (vi stop_)), (6, pt 2), (8, pt 3), (10, pt 4), (29, c1 (vB (decide (y3.1.num = stop_))))], [bx (aV a_), bx (aV b_), bx zV, bx (aV y1.1), bx (aV y3.1)]⟩) ?_
 refine ifE hb 0 [29] [] hq (fun hq _ => ?_) (fun hq _ => ?_)
 refine callE hb 5 hq (g_value_Bool_ok hb he (decide (stop_ = 1))) fun y24 hy24 hq => ?_
 exact retE hb 3 (injO hq).symm
 have hp := (g_ops_open_ok hb he [y1.1, y3.1])
 simp only [aV, aT, kind_mk, num_mk, str_mk, items_mk, keys_mk, Ty.kind_mk, Ty.elems_mk, Ty.names_mk, vL_one, vL_two, vL_three, vL_four, vL_five, vL_six] at hp
 refine callE hb 6 hq hp fun y25 hy25 hq => ?_
 refine ifE hb 2 [55, 59] [] hq (fun hq _ => ?_) (fun hq _ => ?_)
 refine callE hb 3 hq (g_value_Unknown_ok hb he ) fun y27 hy27 hq => ?_
 exact retE hb 3 (injO hq).symm
 refine callE hb 7 hq (g_value_Bool_ok hb he (decide (stop_ = 0))) fun y28 hy28 hq => ?_
 exact retE hb 3 (injO hq).symm
 refine cpE hb 8 [2, 6, 8, 10, 29] (s' := ⟨none, [pick (bodyOf Tryz.f42) [1, 1, 1, 1, 1, 0, 0, 1]], [(0, [pick (bodyOf Tryz.f42) [1, 1, 1, 1, 1, 1]])], sl 64 [(2, c1 (vi stop_)), (6, pt 2), (8, pt 3), (10, pt 4), (29, c1 (vB false))], [bx (aV a_), bx (aV b_), bx zV, bx (aV y1.1), bx (aV y3.1)]⟩) ?_
 have hp := (g_ops_open_ok hb he [y1.1, y3.1])
 simp only [aV, aT, kind_mk, num_mk, str_mk, items_mk, keys_mk, Ty.kind_mk, Ty.elems_mk, Ty.names_mk, vL_one, vL_two, vL_three, vL_four, vL_five, vL_six] at hp
 refine callE hb 6 hq hp fun y29 hy29 hq => ?_
 refine ifE hb 2 [55, 59] [] hq (fun hq _ => ?_) (fun hq _ => ?_)
 refine callE hb 3 hq (g_value_Unknown_ok hb he ) fun y31 hy31 hq => ?_
 exact retE hb 3 (injO hq).symm
 refine callE hb 7 hq (g_value_Bool_ok hb he (decide (stop_ = 0))) fun y32 hy32 hq => ?_
 exact retE hb 3 (injO hq).symm
noncomputable def g_ops_asNumber  (v_ : Val) : Option (Val × Int) :=
  bif (decide (v_.kind = 0)) then some ((Val.mk 0 0 eS [] []), 6) else (g_convert_To v_ (Ty.mk 2 [] [])).bind fun y2 => some (y2.1, y2.2)
theorem g_ops_asNumber_ok (hb : Base E E0 G) (he : ∀ w, E w → EnvV w)   (v_ : Val) : ∀ r_ : Val × Int, g_ops_asNumber v_ = some r_ →
 Pure E E0 Tryz.prog 49 [.agg (aV v_)] (.tup [.agg (aV r_.1), .cell (vi r_.2)]) := by
 refine fnE hb Tryz.func49 rfl fun r_ hq => ?_
 refine ifE hb 13 [6] [] hq (fun hq _ => ?_) (fun hq _ => ?_)
 exact retE hb 7 (injO hq).symm
 refine callE hb 6 hq (g_convert_To_ok hb he v_ (Ty.mk 2 [] [])) fun y2 hy2 hq => ?_
 exact retE hb 5 (injO hq).symm
noncomputable def g_ops_compared  (op_ : Int) (a_ : Int) (b_ : Int) : Option (Bool) :=
  bif (decide (op_ = 7)) then some (decide (a_ < b_)) else bif (decide (op_ = 8)) then some (decide (a_ ≤ b_)) else bif (decide (op_ = 9)) then some (decide (a_ > b_)) else some (decide (a_ ≥ b_))
theorem g_ops_compared_ok (hb : Base E E0 G) (he : ∀ w, E w → EnvV w)   (op_ : Int) (a_ : Int) (b_ : Int) : ∀ r_ : Bool, g_ops_compared op_ a_ b_ = some r_ →
 Pure E E0 Tryz.prog 70 [.cell (vi op_), .cell (vi a_), .cell (vi b_)] (c1 (vB r_)) := by
 refine fnE hb Tryz.func70 rfl fun r_ hq => ?_
 refine ifE hb 15 [8, 9] [] hq (fun hq _ => ?_) (fun hq _ => ?_)
 exact retE hb 8 (injO hq).symm
 refine ifE hb 6 [13, 14] [] hq (fun hq _ => ?_) (fun hq _ => ?_)
 exact retE hb 8 (injO hq).symm
 refine ifE hb 6 [18, 19] [] hq (fun hq _ => ?_) (fun hq _ => ?_)
 exact retE hb 8 (injO hq).symm
 exact retE hb 10 (injO hq).symm
noncomputable def g_ops_computed  (op_ : Int) (a_ : Int) (b_ : Int) : Option (Int × Int) :=
  bif (decide (op_ = 11)) then (m_add a_ b_).bind fun y2 => some (y2.1, y2.2) else bif (decide (op_ = 12)) then (m_sub a_ b_).bind fun y4 => some (y4.1, y4.2) else bif (decide (op_ = 13)) then (m_mul a_ b_).bind fun y6 => some (y6.1, y6.2) else bif (decide (op_ = 14)) then (m_div a_ b_).bind fun y8 => some (y8.1, y8.2) else (m_mod a_ b_).bind fun y9 => some (y9.1, y9.2)
theorem g_ops_computed_ok (hb : Base E E0 G) (he : ∀ w, E w → EnvV w)   (op_ : Int) (a_ : Int) (b_ : Int) : ∀ r_ : Int × Int, g_ops_computed op_ a_ b_ = some r_ →
 Pure E E0 Tryz.prog 71 [.cell (vi op_), .cell (vi a_), .cell (vi b_)] (.tup [.cell (vi r_.1), .cell (vi r_.2)]) := by
 refine fnE hb Tryz.func71 rfl fun r_ hq => ?_
 refine ifE hb 16 [9, 10] [] hq (fun hq _ => ?_) (fun hq _ => ?_)
 refine callE hb 5 hq (nAdd_g hb he a_ b_) fun y2 hy2 hq => ?_
 exact retE hb 5 (injO hq).symm
 refine ifE hb 6 [16, 17] [] hq (fun hq _ => ?_) (fun hq _ => ?_)
 refine callE hb 5 hq (nSub_g hb he a_ b_) fun y4 hy4 hq => ?_
 exact retE hb 5 (injO hq).symm
 refine ifE hb 6 [23, 24] [] hq (fun hq _ => ?_) (fun hq _ => ?_)
 refine callE hb 5 hq (nMul_g hb he a_ b_) fun y6 hy6 hq => ?_
 exact retE hb 5 (injO hq).symm
 refine ifE hb 6 [30, 31] [] hq (fun hq _ => ?_) (fun hq _ => ?_)
 refine callE hb 5 hq (nDiv_g hb he a_ b_) fun y8 hy8 hq => ?_
 exact retE hb 5 (injO hq).symm
 refine callE hb 7 hq (nMod_g hb he a_ b_) fun y9 hy9 hq => ?_
 exact retE hb 5 (injO hq).symm
noncomputable def g_ops_numeric  (op_ : Int) (a_ : Val) (b_ : Val) : Option (Val × Int) :=
  (g_ops_asNumber a_).bind fun y1 => bif (!decide (y1.2 = 0)) then some ((Val.mk 0 0 eS [] []), y1.2) else (g_ops_asNumber b_).bind fun y3 => bif (!decide (y3.2 = 0)) then some ((Val.mk 0 0 eS [] []), y3.2) else (g_ops_open [y1.1, y3.1]).bind fun y5 => bif y5 then (g_value_Unknown).bind fun y7 => some (y7, 0) else bif (decide (op_ ≤ 10)) then (g_ops_compared op_ y1.1.num y3.1.num).bind fun y9 => (g_value_Bool y9).bind fun y10 => some (y10, 0) else (g_ops_computed op_ y1.1.num y3.1.num).bind fun y11 => bif (!decide (y11.2 = 0)) then some ((Val.mk 0 0 eS [] []), y11.2) else (g_value_Number y11.1).bind fun y13 => some (y13, 0)
theorem g_ops_numeric_ok (hb : Base E E0 G) (he : ∀ w, E w → EnvV w)   (op_ : Int) (a_ : Val) (b_ : Val) : ∀ r_ : Val × Int, g_ops_numeric op_ a_ b_ = some r_ →
 Pure E E0 Tryz.prog 43 [.cell (vi op_), .agg (aV a_), .agg (aV b_)] (.tup [.agg (aV r_.1), .cell (vi r_.2)]) := by
 refine fnE hb Tryz.func43 rfl fun r_ hq => ?_
 refine callE hb 10 hq (g_ops_asNumber_ok hb he a_) fun y1 hy1 hq => ?_
 refine ifE hb 13 [18] [] hq (fun hq _ => ?_) (fun hq _ => ?_)
 exact retE hb 8 (injO hq).symm
 refine callE hb 5 hq (g_ops_asNumber_ok hb he b_) fun y3 hy3 hq => ?_
 refine ifE hb 13 [27] [] hq (fun hq _ => ?_) (fun hq _ => ?_)
 exact retE hb 8 (injO hq).symm
 have hp := (g_ops_open_ok hb he [y1.1, y3.1])
 simp only [aV, aT, kind_mk, num_mk, str_mk, items_mk, keys_mk, Ty.kind_mk, Ty.elems_mk, Ty.names_mk, vL_one, vL_two, vL_three, vL_four, vL_five, vL_six] at hp
 refine callE hb 8 hq hp fun y5 hy5 hq => ?_
 refine ifE hb 1 [33] [] hq (fun hq _ => ?_) (fun hq _ => ?_)
 refine callE hb 3 hq (g_value_Unknown_ok hb he ) fun y7 hy7 hq => ?_
 exact retE hb 3 (injO hq).symm
 refine ifE hb 8 [36] [] hq (fun hq _ => ?_) (fun hq _ => ?_)
 refine cpE hb 2 [0, 6, 8, 10] (s' := ⟨none, [pick (bodyOf Tryz.f43) [1, 1, 1, 1, 1, 1, 0, 1, 0, 0], pick (bodyOf Tryz.f43) [1, 1, 1, 1, 1, 1, 0, 1, 0, 1], pick (bodyOf Tryz.f43) [1, 1, 1, 1, 1, 1, 1]], [], sl 59 [(0, c1 (vi op_)), (6, pt 2), (8, pt 3), (10, pt 4)], [bx (aV a_), bx (aV b_), bx zV, bx (aV y1.1), bx (aV y3.1)]⟩) ?_
 refine callE hb 6 hq (g_ops_compared_ok hb he op_ y1.1.num y3.1.num) fun y9 hy9 hq => ?_
 refine callE hb 0 hq (g_value_Bool_ok hb he y9) fun y10 hy10 hq => ?_
 exact retE hb 3 (injO hq).symm
 refine cpE hb 3 [0, 6, 8, 10] (s' := ⟨none, [pick (bodyOf Tryz.f43) [1, 1, 1, 1, 1, 1, 1, 0], pick (bodyOf Tryz.f43) [1, 1, 1, 1, 1, 1, 1, 1]], [], sl 59 [(0, c1 (vi op_)), (6, pt 2), (8, pt 3), (10, pt 4)], [bx (aV a_), bx (aV b_), bx zV, bx (aV y1.1), bx (aV y3.1)]⟩) ?_
 refine callE hb 6 hq (g_ops_computed_ok hb he op_ y1.1.num y3.1.num) fun y11 hy11 hq => ?_
 refine ifE hb 12 [54] [] hq (fun hq _ => ?_) (fun hq _ => ?_)
 exact retE hb 8 (injO hq).symm
 refine callE hb 5 hq (g_value_Number_ok hb he y11.1) fun y13 hy13 hq => ?_
 exact retE hb 3 (injO hq).symm
noncomputable def g_slices_Equal_L1 (s1_ : List ByteArray) (s2_ : List ByteArray) (s1 : Int) : Option ((Int) ⊕ (Bool)) :=
  bif (decide (s1 < (s1_.length : Int))) then (idx s1_ s1).bind fun x3 => (idx s2_ s1).bind fun x4 => bif (!decide (x3 = x4)) then some (.inr (false)) else some (.inl (IntKind.i64.wrap (s1 + 1))) else some (.inr (true))
noncomputable def g_slices_Equal  (s1_ : List ByteArray) (s2_ : List ByteArray) : Option (Bool) :=
  bif (!decide ((s1_.length : Int) = (s2_.length : Int))) then some (false) else loopO (g_slices_Equal_L1 s1_ s2_) 0
theorem g_slices_Equal_ok (hb : Base E E0 G) (he : ∀ w, E w → EnvV w)   (s1_ : List ByteArray) (s2_ : List ByteArray) : ∀ r_ : Bool, g_slices_Equal s1_ s2_ = some r_ →
 Pure E E0 Tryz.prog 72 [.cell (vL flS s1_), .cell (vL flS s2_)] (c1 (vB r_)) := by
 refine fnE hb Tryz.func72 rfl fun r_ hq => ?_
 refine ifE hb 13 [10] [] hq (fun hq _ => ?_) (fun hq _ => ?_)
 exact retE hb 5 (injO hq).symm
 refine loopE hb 10 (g_slices_Equal_L1 s1_ s2_) (fun s1 => sl 26 [(0, c1 (vL flS s1_)), (1, c1 (vL flS s2_)), (12, c1 (vi (s1_.length : Int))), (13, c1 (vi s1))]) (fun s1 => []) [0, 1, 12, 13] [] 0 (s0 := 0) trivial hq (fun s1 x1 hq hn1 he1 => ?_)
 refine ifE hb 5 [14] [] hq (fun hq _ => ?_) (fun hq _ => ?_)
 refine drawE hb mixed 10 8 [] ?_
 refine idxE hb flS 2 hq fun x3 hx3 hq => ?_
 refine idxE hb flS 3 hq fun x4 hx4 hq => ?_
 refine ifE hb 4 [24] [] hq (fun hq _ => ?_) (fun hq _ => ?_)
 exact retE hb 5 (he1 _ (injO hq))
 exact backE hb 7 [0, 1, 12, 13] [] 0 (hn1 _ (injO hq)) trivial
 exact retE hb 6 (he1 _ (injO hq))
noncomputable def g_ops_equality_L1 (r_ops_equality : Val → Val → Option (Bool × Bool)) (a_ : Val) (b_ : Val) (s1 : Bool × Int) : Option ((Bool × Int) ⊕ (Bool × Bool)) :=
  bif (decide (s1.2 < (a_.items.length : Int))) then (idx a_.items s1.2).bind fun x10 => (idx b_.items s1.2).bind fun x11 => (r_ops_equality x10 x11).bind fun y12 => bif y12.2 then bif (!y12.1) then some (.inr (false, true)) else bif s1.1 then some (.inl (true, (IntKind.i64.wrap (s1.2 + 1)))) else some (.inl (false, (IntKind.i64.wrap (s1.2 + 1)))) else bif s1.1 then some (.inl (false, (IntKind.i64.wrap (s1.2 + 1)))) else some (.inl (false, (IntKind.i64.wrap (s1.2 + 1)))) else some (.inr (s1.1, s1.1))
noncomputable def g_ops_equality (r_ops_equality : Val → Val → Option (Bool × Bool)) (a_ : Val) (b_ : Val) : Option (Bool × Bool) :=
  (g_ops_open [a_, b_]).bind fun y1 => bif y1 then some (false, false) else bif (!decide (a_.kind = b_.kind)) then some (false, true) else bif (!decide (a_.num = b_.num)) then some (false, true) else bif (!decide (a_.str = b_.str)) then some (false, true) else bif (!decide ((a_.items.length : Int) = (b_.items.length : Int))) then some (false, true) else (g_slices_Equal a_.keys b_.keys).bind fun y7 => bif (!y7) then some (false, true) else loopO (g_ops_equality_L1 r_ops_equality a_ b_) (true, 0)
theorem g_ops_equality_ok (hb : Base E E0 G) (he : ∀ w, E w → EnvV w) (r_ops_equality : Val → Val → Option (Bool × Bool)) (hr_ops_equality : ∀ (a0 : Val) (a1 : Val) (r : Bool × Bool), r_ops_equality a0 a1 = some r → Pure E E0 Tryz.prog 44 [.agg (aV a0), .agg (aV a1)] (.tup [.cell (vB r.1), .cell (vB r.2)])) (a_ : Val) (b_ : Val) : ∀ r_ : Bool × Bool, g_ops_equality r_ops_equality a_ b_ = some r_ →
 Pure E E0 Tryz.prog 44 [.agg (aV a_), .agg (aV b_)] (.tup [.cell (vB r_.1), .cell (vB r_.2)]) := by
 refine fnE hb Tryz.func44 rfl fun r_ hq => ?_
 have hp := (g_ops_open_ok hb he [a_, b_])
 simp only [aV, aT, kind_mk, num_mk, str_mk, items_mk, keys_mk, Ty.kind_mk, Ty.elems_mk, Ty.names_mk, vL_one, vL_two, vL_three, vL_four, vL_five, vL_six] at hp
 refine callE hb 13 hq hp fun y1 hy1 hq => ?_
 refine ifE hb 1 [12] [] hq (fun hq _ => ?_) (fun hq _ => ?_)
 exact retE hb 6 (injO hq).symm
 refine ifE hb 11 [17, 18] [] hq (fun hq _ => ?_) (fun hq _ => ?_)
 exact retE hb 37 (injO hq).symm
 refine ifE hb 7 [23, 24, 25] [] hq (fun hq _ => ?_) (fun hq _ => ?_)
 exact retE hb 30 (injO hq).symm
 refine ifE hb 7 [30, 31, 32] [] hq (fun hq _ => ?_) (fun hq _ => ?_)
 exact retE hb 23 (injO hq).symm
 refine ifE hb 9 [39, 40, 41] [] hq (fun hq _ => ?_) (fun hq _ => ?_)
 exact retE hb 14 (injO hq).symm
 refine callE hb 4 hq (g_slices_Equal_ok hb he a_.keys b_.keys) fun y7 hy7 hq => ?_
 refine cpE hb 3 [2, 3, 48] (s' := ⟨none, [pick (bodyOf Tryz.f44) [1, 1, 0, 1], pick (bodyOf Tryz.f44) [1, 1, 1]], [], sl 81 [(2, pt 0), (3, pt 1), (48, c1 (vB (!y7)))], [bx (aV a_), bx (aV b_)]⟩) ?_
 refine ifE hb 0 [48] [] hq (fun hq _ => ?_) (fun hq _ => ?_)
 exact retE hb 6 (injO hq).symm
 refine loopE hb 15 (g_ops_equality_L1 r_ops_equality a_ b_) (fun s1 => sl 81 [(2, pt 0), (3, pt 1), (5, c1 (vB s1.1)), (51, c1 (vi (a_.items.length : Int))), (52, c1 (vi s1.2))]) (fun s1 => [bx (aV a_), bx (aV b_)]) [2, 3, 5, 51, 52] [] 2 (s0 := (true, 0)) ⟨(by kernel_rfl), (by kernel_rfl), trivial⟩ hq (fun s1 x1 hq hn1 he1 => ?_)
 refine ifE hb 5 [53] [] hq (fun hq _ => ?_) (fun hq _ => ?_)
 refine drawE hb mixed 10 14 [13] ?_
 refine idxE hb flV 3 hq fun x10 hx10 hq => ?_
 refine idxE hb flV 4 hq fun x11 hx11 hq => ?_
 refine callE hb 1 hq (hr_ops_equality x10 x11) fun y12 hy12 hq => ?_
 refine ifE hb 12 [8, 68, 69, 70] [] hq (fun hq _ => ?_) (fun hq _ => ?_)
 refine cpE hb 4 [2, 3, 5, 8, 51, 52, 73] (s' := ⟨none, [pick (bodyOf Tryz.f44) [1, 1, 1, 1, 0, 1, 0, 0, 1, 1, 0, 0, 1, 1, 0, 1], pick (bodyOf Tryz.f44) [1, 1, 1, 1, 0, 1, 0, 0, 1, 1, 0, 0, 1, 1, 1]], [(1, [pick (bodyOf Tryz.f44) [1, 1, 1, 1, 0, 1, 0, 0, 1, 1, 1], pick (bodyOf Tryz.f44) [1, 1, 1, 1, 0, 1, 0]]), (0, [pick (bodyOf Tryz.f44) [1, 1, 1, 1, 1]])], sl 81 [(2, pt 0), (3, pt 1), (5, c1 (vB s1.1)), (8, c1 (vB true)), (51, c1 (vi (a_.items.length : Int))), (52, c1 (vi s1.2)), (73, c1 (vB (!y12.1)))], [bx (aV a_), bx (aV b_)]⟩) ?_
 refine ifE hb 0 [73] [] hq (fun hq _ => ?_) (fun hq _ => ?_)
 exact retE hb 6 (he1 _ (injO hq))
 refine ifE hb 5 [5, 74, 75] [] hq (fun hq _ => ?_) (fun hq _ => ?_)
 exact backE hb 9 [2, 3, 5, 51, 52] [] 2 (hn1 _ (injO hq)) ⟨(by kernel_rfl), (by kernel_rfl), trivial⟩
 exact backE hb 9 [2, 3, 5, 51, 52] [] 2 (hn1 _ (injO hq)) ⟨(by kernel_rfl), (by kernel_rfl), trivial⟩
 refine cpE hb 4 [2, 3, 5, 8, 51, 52, 73] (s' := ⟨none, [pick (bodyOf Tryz.f44) [1, 1, 1, 1, 0, 1, 0, 0, 1, 1, 0, 0, 1, 1, 0, 1], pick (bodyOf Tryz.f44) [1, 1, 1, 1, 0, 1, 0, 0, 1, 1, 0, 0, 1, 1, 1]], [(1, [pick (bodyOf Tryz.f44) [1, 1, 1, 1, 0, 1, 0, 0, 1, 1, 1], pick (bodyOf Tryz.f44) [1, 1, 1, 1, 0, 1, 0]]), (0, [pick (bodyOf Tryz.f44) [1, 1, 1, 1, 1]])], sl 81 [(2, pt 0), (3, pt 1), (5, c1 (vB s1.1)), (8, c1 (vB false)), (51, c1 (vi (a_.items.length : Int))), (52, c1 (vi s1.2)), (73, c1 (vB false))], [bx (aV a_), bx (aV b_)]⟩) ?_
 refine ifE hb 5 [5, 74, 75] [] hq (fun hq _ => ?_) (fun hq _ => ?_)
 exact backE hb 9 [2, 3, 5, 51, 52] [] 2 (hn1 _ (injO hq)) ⟨(by kernel_rfl), (by kernel_rfl), trivial⟩
 exact backE hb 9 [2, 3, 5, 51, 52] [] 2 (hn1 _ (injO hq)) ⟨(by kernel_rfl), (by kernel_rfl), trivial⟩
 exact retE hb 9 (he1 _ (injO hq))
noncomputable def t_ops_equality_step (rec : Val → Val → Option (Bool × Bool)) (a : Val) (b : Val) : Option (Bool × Bool) :=
  g_ops_equality (fun a0 a1 => rec a0 a1) a b
noncomputable def t_ops_equality (a0 : Val) (a1 : Val) : Option (Bool × Bool) := tieF relV wfV t_ops_equality_step a0 a1
theorem t_ops_equality_ok (hb : Base E E0 G) (he : ∀ w, E w → EnvV w) (a0 : Val) (a1 : Val) (r : Bool × Bool) (hq : t_ops_equality a0 a1 = some r) : Pure E E0 Tryz.prog 44 [.agg (aV a0), .agg (aV a1)] (.tup [.cell (vB r.1), .cell (vB r.2)]) :=
  tieF_ok (C := fun a b r => Pure E E0 Tryz.prog 44 [.agg (aV a), .agg (aV b)] (.tup [.cell (vB r.1), .cell (vB r.2)])) (fun rec hr a b r hq => g_ops_equality_ok hb he (fun a0 a1 => rec a0 a1) (fun a0 a1 r e => hr a0 a1 r e) a b r hq) a0 a1 r hq
noncomputable def g_ops_Binary  (op_ : Int) (a_ : Val) (b_ : Val) : Option (Val × Int) :=
  bif (decide (op_ < 3)) then some ((Val.mk 0 0 eS [] []), 1) else bif (decide (op_ > 15)) then some ((Val.mk 0 0 eS [] []), 1) else bif (decide (op_ = 3)) then (g_ops_logic a_ b_ 1).bind fun y4 => some (y4.1, y4.2) else bif (decide (op_ = 4)) then (g_ops_logic a_ b_ 0).bind fun y6 => some (y6.1, y6.2) else bif (decide (op_ > 6)) then (g_ops_numeric op_ a_ b_).bind fun y8 => some (y8.1, y8.2) else (t_ops_equality a_ b_).bind fun y9 => bif (!y9.2) then (g_value_Unknown).bind fun y11 => some (y11, 0) else (g_value_Bool (y9.1 == (decide (op_ = 5)))).bind fun y12 => some (y12, 0)
theorem g_ops_Binary_ok (hb : Base E E0 G) (he : ∀ w, E w → EnvV w)   (op_ : Int) (a_ : Val) (b_ : Val) : ∀ r_ : Val × Int, g_ops_Binary op_ a_ b_ = some r_ →
 Pure E E0 Tryz.prog 20 [.cell (vi op_), .agg (aV a_), .agg (aV b_)] (.tup [.agg (aV r_.1), .cell (vi r_.2)]) := by
 refine fnE hb Tryz.func20 rfl fun r_ hq => ?_
 refine ifE hb 14 [12, 13] [] hq (fun hq _ => ?_) (fun hq _ => ?_)
 exact retE hb 12 (injO hq).symm
 refine ifE hb 5 [10, 15, 16] [] hq (fun hq _ => ?_) (fun hq _ => ?_)
 exact retE hb 7 (injO hq).symm
 refine ifE hb 7 [18, 20] [] hq (fun hq _ => ?_) (fun hq _ => ?_)
 refine callE hb 5 hq (g_ops_logic_ok hb he a_ b_ 1) fun y4 hy4 hq => ?_
 exact retE hb 5 (injO hq).symm
 refine ifE hb 7 [26, 28] [] hq (fun hq _ => ?_) (fun hq _ => ?_)
 refine callE hb 5 hq (g_ops_logic_ok hb he a_ b_ 0) fun y6 hy6 hq => ?_
 exact retE hb 5 (injO hq).symm
 refine ifE hb 7 [34, 36] [] hq (fun hq _ => ?_) (fun hq _ => ?_)
 refine callE hb 6 hq (g_ops_numeric_ok hb he op_ a_ b_) fun y8 hy8 hq => ?_
 exact retE hb 5 (injO hq).symm
 refine callE hb 7 hq (t_ops_equality_ok hb he a_ b_) fun y9 hy9 hq => ?_
 refine ifE hb 12 [50] [] hq (fun hq _ => ?_) (fun hq _ => ?_)
 refine cpE hb 2 [6] (s' := ⟨none, [pick (bodyOf Tryz.f20) [1, 1, 1, 0, 1, 0, 0], pick (bodyOf Tryz.f20) [1, 1, 1, 0, 1, 0, 1], pick (bodyOf Tryz.f20) [1, 1, 1, 1]], [], sl 57 [(6, pt 2)], [bx (aV a_), bx (aV b_), bx zV]⟩) ?_
 refine callE hb 1 hq (g_value_Unknown_ok hb he ) fun y11 hy11 hq => ?_
 exact retE hb 3 (injO hq).symm
 refine cpE hb 3 [0, 6, 8] (s' := ⟨none, [pick (bodyOf Tryz.f20) [1, 1, 1, 1, 0], pick (bodyOf Tryz.f20) [1, 1, 1, 1, 1]], [], sl 57 [(0, c1 (vi op_)), (6, pt 2), (8, c1 (vB y9.1))], [bx (aV a_), bx (aV b_), bx zV]⟩) ?_
 refine callE hb 5 hq (g_value_Bool_ok hb he (y9.1 == (decide (op_ = 5)))) fun y12 hy12 hq => ?_
 exact retE hb 3 (injO hq).symm
noncomputable def g_ops_Unary  (op_ : Int) (v_ : Val) : Option (Val × Int) :=
  bif (decide (op_ = 1)) then (g_convert_Truth v_).bind fun y2 => bif (!decide (y2.2 = 0)) then some (y2.1, y2.2) else (g_ops_open [y2.1]).bind fun y4 => bif y4 then some (y2.1, y2.2) else (g_value_Bool (decide (y2.1.num = 0))).bind fun y6 => some (y6, 0) else bif (decide (op_ = 2)) then (g_ops_asNumber v_).bind fun y8 => bif (!decide (y8.2 = 0)) then some (y8.1, y8.2) else (g_ops_open [y8.1]).bind fun y10 => bif y10 then some (y8.1, y8.2) else (g_value_Number (IntKind.i64.wrap (0 - y8.1.num))).bind fun y12 => some (y12, 0) else some ((Val.mk 0 0 eS [] []), 1)
theorem g_ops_Unary_ok (hb : Base E E0 G) (he : ∀ w, E w → EnvV w)   (op_ : Int) (v_ : Val) : ∀ r_ : Val × Int, g_ops_Unary op_ v_ = some r_ →
 Pure E E0 Tryz.prog 22 [.cell (vi op_), .agg (aV v_)] (.tup [.agg (aV r_.1), .cell (vi r_.2)]) := by
 refine fnE hb Tryz.func22 rfl fun r_ hq => ?_
 refine ifE hb 17 [11, 12] [] hq (fun hq _ => ?_) (fun hq _ => ?_)
 refine callE hb 4 hq (g_convert_Truth_ok hb he v_) fun y2 hy2 hq => ?_
 refine ifE hb 13 [19, 20] [] hq (fun hq _ => ?_) (fun hq _ => ?_)
 exact retE hb 13 (injO hq).symm
 have hp := (g_ops_open_ok hb he [y2.1])
 simp only [aV, aT, kind_mk, num_mk, str_mk, items_mk, keys_mk, Ty.kind_mk, Ty.elems_mk, Ty.names_mk, vL_one, vL_two, vL_three, vL_four, vL_five, vL_six] at hp
 refine callE hb 2 hq hp fun y4 hy4 hq => ?_
 refine ifE hb 2 [23, 24] [] hq (fun hq _ => ?_) (fun hq _ => ?_)
 exact retE hb 8 (injO hq).symm
 refine callE hb 7 hq (g_value_Bool_ok hb he (decide (y2.1.num = 0))) fun y6 hy6 hq => ?_
 exact retE hb 3 (injO hq).symm
 refine ifE hb 6 [31, 32] [] hq (fun hq _ => ?_) (fun hq _ => ?_)
 refine callE hb 4 hq (g_ops_asNumber_ok hb he v_) fun y8 hy8 hq => ?_
 refine ifE hb 13 [39, 40] [] hq (fun hq _ => ?_) (fun hq _ => ?_)
 exact retE hb 13 (injO hq).symm
 have hp := (g_ops_open_ok hb he [y8.1])
 simp only [aV, aT, kind_mk, num_mk, str_mk, items_mk, keys_mk, Ty.kind_mk, Ty.elems_mk, Ty.names_mk, vL_one, vL_two, vL_three, vL_four, vL_five, vL_six] at hp
 refine callE hb 2 hq hp fun y10 hy10 hq => ?_
 refine ifE hb 2 [43, 44] [] hq (fun hq _ => ?_) (fun hq _ => ?_)
 exact retE hb 8 (injO hq).symm
 refine callE hb 7 hq (g_value_Number_ok hb he (IntKind.i64.wrap (0 - y8.1.num))) fun y12 hy12 hq => ?_
 exact retE hb 3 (injO hq).symm
 exact retE hb 9 (injO hq).symm
noncomputable def g_r07_Bool  (b_ : Bool) : Option (Val) :=
  bif b_ then some (Val.mk 1 1 eS [] []) else some (Val.mk 1 0 eS [] [])
theorem g_r07_Bool_ok (hb : Base E E0 G) (he : ∀ w, E w → EnvV w)   (b_ : Bool) : ∀ r_ : Val, g_r07_Bool b_ = some r_ →
 Pure E E0 Tryz.prog 23 [.cell (vB b_)] (.one (.agg (aV r_))) := by
 refine fnE hb Tryz.func23 rfl fun r_ hq => ?_
 refine ifE hb 9 [0, 3] [] hq (fun hq _ => ?_) (fun hq _ => ?_)
 exact retE hb 6 (injO hq).symm
 exact retE hb 7 (injO hq).symm
noncomputable def g_r07_List  (items_ : List Val) : Option (Val) :=
  some (Val.mk 4 0 eS items_ [])
theorem g_r07_List_ok (hb : Base E E0 G) (he : ∀ w, E w → EnvV w)   (items_ : List Val) : ∀ r_ : Val, g_r07_List items_ = some r_ →
 Pure E E0 Tryz.prog 29 [.cell (vL flV items_)] (.one (.agg (aV r_))) := by
 refine fnE hb Tryz.func29 rfl fun r_ hq => ?_
 exact retE hb 10 (injO hq).symm
noncomputable def g_r07_Number  (n_ : Int) : Option (Val) :=
  some (Val.mk 2 n_ eS [] [])
theorem g_r07_Number_ok (hb : Base E E0 G) (he : ∀ w, E w → EnvV w)   (n_ : Int) : ∀ r_ : Val, g_r07_Number n_ = some r_ →
 Pure E E0 Tryz.prog 30 [.cell (vi n_)] (.one (.agg (aV r_))) := by
 refine fnE hb Tryz.func30 rfl fun r_ hq => ?_
 exact retE hb 10 (injO hq).symm
noncomputable def g_ops_Attr  (v_ : Val) (name_ : ByteArray) : Option (Val × Int) :=
  bif (decide (v_.kind = 6)) then some (v_, 0) else bif (decide (v_.kind = 5)) then (g_value_Get v_ name_).bind fun y3 => bif (!y3.2) then some ((Val.mk 0 0 eS [] []), 16) else some (y3.1, 0) else some ((Val.mk 0 0 eS [] []), 6)
theorem g_ops_Attr_ok (hb : Base E E0 G) (he : ∀ w, E w → EnvV w)   (v_ : Val) (name_ : ByteArray) : ∀ r_ : Val × Int, g_ops_Attr v_ name_ = some r_ →
 Pure E E0 Tryz.prog 34 [.agg (aV v_), .cell (vS name_)] (.tup [.agg (aV r_.1), .cell (vi r_.2)]) := by
 refine fnE hb Tryz.func34 rfl fun r_ hq => ?_
 refine ifE hb 18 [10, 11] [] hq (fun hq _ => ?_) (fun hq _ => ?_)
 exact retE hb 7 (injO hq).symm
 refine ifE hb 6 [13, 14] [] hq (fun hq _ => ?_) (fun hq _ => ?_)
 refine callE hb 5 hq (g_value_Get_ok hb he v_ name_) fun y3 hy3 hq => ?_
 refine ifE hb 13 [22] [] hq (fun hq _ => ?_) (fun hq _ => ?_)
 exact retE hb 7 (injO hq).symm
 exact retE hb 8 (injO hq).symm
 exact retE hb 9 (injO hq).symm
noncomputable def g_ops_item  (l_ : List Val) (key_ : Val) : Option (Val × Int) :=
  (g_ops_asNumber key_).bind fun y1 => bif (!decide (y1.2 = 0)) then some ((Val.mk 0 0 eS [] []), y1.2) else (g_ops_open [y1.1]).bind fun y3 => bif y3 then some (y1.1, 0) else bif (decide (y1.1.num < 0)) then some ((Val.mk 0 0 eS [] []), 16) else bif (decide (y1.1.num ≥ (l_.length : Int))) then some ((Val.mk 0 0 eS [] []), 16) else (idx l_ y1.1.num).bind fun x7 => (cpy x7).bind fun y8 => some (y8, 0)
theorem g_ops_item_ok (hb : Base E E0 G) (he : ∀ w, E w → EnvV w)   (l_ : List Val) (key_ : Val) : ∀ r_ : Val × Int, g_ops_item l_ key_ = some r_ →
 Pure E E0 Tryz.prog 57 [.cell (vL flV l_), .agg (aV key_)] (.tup [.agg (aV r_.1), .cell (vi r_.2)]) := by
 refine fnE hb Tryz.func57 rfl fun r_ hq => ?_
 refine callE hb 9 hq (g_ops_asNumber_ok hb he key_) fun y1 hy1 hq => ?_
 refine ifE hb 13 [14] [] hq (fun hq _ => ?_) (fun hq _ => ?_)
 exact retE hb 8 (injO hq).symm
 have hp := (g_ops_open_ok hb he [y1.1])
 simp only [aV, aT, kind_mk, num_mk, str_mk, items_mk, keys_mk, Ty.kind_mk, Ty.elems_mk, Ty.names_mk, vL_one, vL_two, vL_three, vL_four, vL_five, vL_six] at hp
 refine callE hb 7 hq hp fun y3 hy3 hq => ?_
 refine ifE hb 1 [19] [] hq (fun hq _ => ?_) (fun hq _ => ?_)
 exact retE hb 7 (injO hq).symm
 refine ifE hb 9 [23, 24] [] hq (fun hq _ => ?_) (fun hq _ => ?_)
 exact retE hb 14 (injO hq).symm
 refine ifE hb 7 [29, 30] [] hq (fun hq _ => ?_) (fun hq _ => ?_)
 exact retE hb 7 (injO hq).symm
 refine idxE hb flV 7 hq fun x7 hx7 hq => ?_
 refine callE hb 1 hq (copied_ops_g hb he x7) fun y8 hy8 hq => ?_
 exact retE hb 3 (injO hq).symm
noncomputable def g_convert_Text  (v_ : Val) : Option (Val × Int) :=
  (g_convert_simple v_ 3).bind fun y1 => some (y1.1, y1.2)
theorem g_convert_Text_ok (hb : Base E E0 G) (he : ∀ w, E w → EnvV w)   (v_ : Val) : ∀ r_ : Val × Int, g_convert_Text v_ = some r_ →
 Pure E E0 Tryz.prog 58 [.agg (aV v_)] (.tup [.agg (aV r_.1), .cell (vi r_.2)]) := by
 refine fnE hb Tryz.func58 rfl fun r_ hq => ?_
 refine callE hb 9 hq (g_convert_simple_ok hb he v_ 3) fun y1 hy1 hq => ?_
 exact retE hb 5 (injO hq).symm
noncomputable def g_ops_Index  (v_ : Val) (key_ : Val) : Option (Val × Int) :=
  bif (decide (v_.kind = 6)) then some (v_, 0) else bif (decide (v_.kind = 4)) then (g_ops_item v_.items key_).bind fun y3 => some (y3.1, y3.2) else bif (decide (v_.kind = 5)) then (g_convert_Text key_).bind fun y5 => bif (!decide (y5.2 = 0)) then some (y5.1, y5.2) else (g_ops_open [y5.1]).bind fun y7 => bif y7 then some (y5.1, y5.2) else (g_ops_Attr v_ y5.1.str).bind fun y9 => some (y9.1, y9.2) else some ((Val.mk 0 0 eS [] []), 6)
theorem g_ops_Index_ok (hb : Base E E0 G) (he : ∀ w, E w → EnvV w)   (v_ : Val) (key_ : Val) : ∀ r_ : Val × Int, g_ops_Index v_ key_ = some r_ →
 Pure E E0 Tryz.prog 31 [.agg (aV v_), .agg (aV key_)] (.tup [.agg (aV r_.1), .cell (vi r_.2)]) := by
 refine fnE hb Tryz.func31 rfl fun r_ hq => ?_
 refine ifE hb 19 [10, 11] [] hq (fun hq _ => ?_) (fun hq _ => ?_)
 exact retE hb 7 (injO hq).symm
 refine ifE hb 6 [13, 14] [] hq (fun hq _ => ?_) (fun hq _ => ?_)
 refine callE hb 6 hq (g_ops_item_ok hb he v_.items key_) fun y3 hy3 hq => ?_
 exact retE hb 5 (injO hq).symm
 refine ifE hb 6 [21, 22] [] hq (fun hq _ => ?_) (fun hq _ => ?_)
 refine callE hb 4 hq (g_convert_Text_ok hb he key_) fun y5 hy5 hq => ?_
 refine ifE hb 13 [29, 30] [] hq (fun hq _ => ?_) (fun hq _ => ?_)
 exact retE hb 13 (injO hq).symm
 have hp := (g_ops_open_ok hb he [y5.1])
 simp only [aV, aT, kind_mk, num_mk, str_mk, items_mk, keys_mk, Ty.kind_mk, Ty.elems_mk, Ty.names_mk, vL_one, vL_two, vL_three, vL_four, vL_five, vL_six] at hp
 refine callE hb 2 hq hp fun y7 hy7 hq => ?_
 refine ifE hb 2 [33, 34] [] hq (fun hq _ => ?_) (fun hq _ => ?_)
 refine cpE hb 2 [4, 6, 7] (s' := ⟨none, [pick (bodyOf Tryz.f31) [1, 0, 1, 0, 1, 1, 1, 1, 1, 0, 1, 0, 1, 0, 0], pick (bodyOf Tryz.f31) [1, 0, 1, 0, 1, 1, 1, 1, 1, 0, 1, 0, 1, 0, 1], pick (bodyOf Tryz.f31) [1, 0, 1, 0, 1, 1, 1, 1, 1, 0, 1, 1]], [(0, [pick (bodyOf Tryz.f31) [1, 1]])], sl 44 [(4, pt 2), (6, pt 3), (7, c1 (vi y5.2))], [bx (aV v_), bx (aV key_), bx zV, bx (aV y5.1)]⟩) ?_
 exact retE hb 6 (injO hq).symm
 refine cpE hb 3 [2, 4, 6] (s' := ⟨none, [pick (bodyOf Tryz.f31) [1, 0, 1, 0, 1, 1, 1, 1, 1, 0, 1, 1, 0], pick (bodyOf Tryz.f31) [1, 0, 1, 0, 1, 1, 1, 1, 1, 0, 1, 1, 1]], [(0, [pick (bodyOf Tryz.f31) [1, 1]])], sl 44 [(2, pt 0), (4, pt 2), (6, pt 3)], [bx (aV v_), bx (aV key_), bx zV, bx (aV y5.1)]⟩) ?_
 refine callE hb 4 hq (g_ops_Attr_ok hb he v_ y5.1.str) fun y9 hy9 hq => ?_
 exact retE hb 5 (injO hq).symm
 exact retE hb 9 (injO hq).symm
noncomputable def g_r07_String  (s_ : ByteArray) : Option (Val) :=
  some (Val.mk 3 0 s_ [] [])
theorem g_r07_String_ok (hb : Base E E0 G) (he : ∀ w, E w → EnvV w)   (s_ : ByteArray) : ∀ r_ : Val, g_r07_String s_ = some r_ →
 Pure E E0 Tryz.prog 32 [.cell (vS s_)] (.one (.agg (aV r_))) := by
 refine fnE hb Tryz.func32 rfl fun r_ hq => ?_
 exact retE hb 10 (injO hq).symm
noncomputable def g_r07_Unknown   : Option (Val) :=
  some (Val.mk 6 0 eS [] [])
theorem g_r07_Unknown_ok (hb : Base E E0 G) (he : ∀ w, E w → EnvV w)    : ∀ r_ : Val, g_r07_Unknown = some r_ →
 Pure E E0 Tryz.prog 33 [] (.one (.agg (aV r_))) := by
 refine fnE hb Tryz.func33 rfl fun r_ hq => ?_
 exact retE hb 9 (injO hq).symm
noncomputable def g_value_Known_1 (r_value_Known : Val → Option (Bool)) (x_ : Val) : Option (Bool) :=
  (r_value_Known x_).bind fun y1 => some (!y1)
theorem g_value_Known_1_ok (hb : Base E E0 G) (he : ∀ w, E w → EnvV w) (r_value_Known : Val → Option (Bool)) (hr_value_Known : ∀ (a0 : Val) (r : Bool), r_value_Known a0 = some r → Pure E E0 Tryz.prog 60 [.agg (aV a0)] (c1 (vB r))) (x_ : Val) : ∀ r_ : Bool, g_value_Known_1 r_value_Known x_ = some r_ →
 Pure E E0 Tryz.prog 81 [.agg (aV x_)] (c1 (vB r_)) := by
 refine fnE hb Tryz.func81 rfl fun r_ hq => ?_
 refine callE hb 8 hq (hr_value_Known x_) fun y1 hy1 hq => ?_
 exact retE hb 3 (injO hq).symm
noncomputable def g_value_Known_slices_ContainsFunc_value_Known_1_slices_IndexFunc_value_Known_1_L1 (r_value_Known_1 : Val → Option (Bool)) (s_ : List Val) (s1 : Int) : Option ((Int) ⊕ (Int)) :=
  bif (decide (s1 < (s_.length : Int))) then (idx s_ s1).bind fun x2 => (r_value_Known_1 x2).bind fun y3 => bif y3 then some (.inr (s1)) else some (.inl (IntKind.i64.wrap (s1 + 1))) else some (.inr (-1))
noncomputable def g_value_Known_slices_ContainsFunc_value_Known_1_slices_IndexFunc_value_Known_1 (r_value_Known_1 : Val → Option (Bool)) (s_ : List Val) : Option (Int) :=
  loopO (g_value_Known_slices_ContainsFunc_value_Known_1_slices_IndexFunc_value_Known_1_L1 r_value_Known_1 s_) 0
theorem g_value_Known_slices_ContainsFunc_value_Known_1_slices_IndexFunc_value_Known_1_ok (hb : Base E E0 G) (he : ∀ w, E w → EnvV w) (r_value_Known_1 : Val → Option (Bool)) (hr_value_Known_1 : ∀ (a0 : Val) (r : Bool), r_value_Known_1 a0 = some r → Pure E E0 Tryz.prog 81 [.agg (aV a0)] (c1 (vB r))) (s_ : List Val) : ∀ r_ : Int, g_value_Known_slices_ContainsFunc_value_Known_1_slices_IndexFunc_value_Known_1 r_value_Known_1 s_ = some r_ →
 Pure E E0 Tryz.prog 95 [.cell (vL flV s_), .cell (.pv (.sc (.func (.func 81) #[] #[])))] (c1 (vi r_)) := by
 refine fnE hb Tryz.func95 rfl fun r_ hq => ?_
 refine loopE hb 12 (g_value_Known_slices_ContainsFunc_value_Known_1_slices_IndexFunc_value_Known_1_L1 r_value_Known_1 s_) (fun s1 => sl 19 [(0, c1 (vL flV s_)), (1, c1 (.pv (.sc (.func (.func 81) #[] #[])))), (7, c1 (vi (s_.length : Int))), (8, c1 (vi s1))]) (fun s1 => []) [0, 1, 7, 8] [] 0 (s0 := 0) trivial hq (fun s1 x1 hq hn1 he1 => ?_)
 refine ifE hb 5 [9] [] hq (fun hq _ => ?_) (fun hq _ => ?_)
 refine idxE hb flV 14 hq fun x2 hx2 hq => ?_
 refine callE hb 1 hq (hr_value_Known_1 x2) fun y3 hy3 hq => ?_
 refine ifE hb 1 [16] [] hq (fun hq _ => ?_) (fun hq _ => ?_)
 exact retE hb 6 (he1 _ (injO hq))
 exact backE hb 7 [0, 1, 7, 8] [] 0 (hn1 _ (injO hq)) trivial
 exact retE hb 6 (he1 _ (injO hq))
noncomputable def g_value_Known_slices_ContainsFunc_value_Known_1 (r_value_Known_1 : Val → Option (Bool)) (s_ : List Val) : Option (Bool) :=
  (g_value_Known_slices_ContainsFunc_value_Known_1_slices_IndexFunc_value_Known_1 r_value_Known_1 s_).bind fun y1 => some (decide (y1 ≥ 0))
theorem g_value_Known_slices_ContainsFunc_value_Known_1_ok (hb : Base E E0 G) (he : ∀ w, E w → EnvV w) (r_value_Known_1 : Val → Option (Bool)) (hr_value_Known_1 : ∀ (a0 : Val) (r : Bool), r_value_Known_1 a0 = some r → Pure E E0 Tryz.prog 81 [.agg (aV a0)] (c1 (vB r))) (s_ : List Val) : ∀ r_ : Bool, g_value_Known_slices_ContainsFunc_value_Known_1 r_value_Known_1 s_ = some r_ →
 Pure E E0 Tryz.prog 74 [.cell (vL flV s_), .cell (.pv (.sc (.func (.func 81) #[] #[])))] (c1 (vB r_)) := by
 refine fnE hb Tryz.func74 rfl fun r_ hq => ?_
 refine callE hb 8 hq (g_value_Known_slices_ContainsFunc_value_Known_1_slices_IndexFunc_value_Known_1_ok hb he r_value_Known_1 hr_value_Known_1 s_) fun y1 hy1 hq => ?_
 exact retE hb 3 (injO hq).symm
noncomputable def g_value_Known (r_value_Known_1 : Val → Option (Bool)) (v_ : Val) : Option (Bool) :=
  bif (!decide (v_.kind = 6)) then (g_value_Known_slices_ContainsFunc_value_Known_1 r_value_Known_1 v_.items).bind fun y2 => some (!y2) else some (false)
theorem g_value_Known_ok (hb : Base E E0 G) (he : ∀ w, E w → EnvV w) (r_value_Known_1 : Val → Option (Bool)) (hr_value_Known_1 : ∀ (a0 : Val) (r : Bool), r_value_Known_1 a0 = some r → Pure E E0 Tryz.prog 81 [.agg (aV a0)] (c1 (vB r))) (v_ : Val) : ∀ r_ : Bool, g_value_Known r_value_Known_1 v_ = some r_ →
 Pure E E0 Tryz.prog 60 [.agg (aV v_)] (c1 (vB r_)) := by
 refine fnE hb Tryz.func60 rfl fun r_ hq => ?_
 refine ifE hb 11 [5, 6] [] hq (fun hq _ => ?_) (fun hq _ => ?_)
 refine callE hb 2 hq (g_value_Known_slices_ContainsFunc_value_Known_1_ok hb he r_value_Known_1 hr_value_Known_1 v_.items) fun y2 hy2 hq => ?_
 exact retE hb 4 (injO hq).symm
 exact retE hb 7 (injO hq).symm
noncomputable def t_value_Known_step (rec : Val → Unit → Option (Bool)) (a : Val) (b : Unit) : Option (Bool) :=
  g_value_Known (g_value_Known_1 (fun a0 => rec a0 ())) a
noncomputable def t_value_Known (a0 : Val) : Option (Bool) := tieF relV wfV t_value_Known_step a0 ()
theorem t_value_Known_ok (hb : Base E E0 G) (he : ∀ w, E w → EnvV w) (a0 : Val) (r : Bool) (hq : t_value_Known a0 = some r) : Pure E E0 Tryz.prog 60 [.agg (aV a0)] (c1 (vB r)) :=
  tieF_ok (C := fun a b r => Pure E E0 Tryz.prog 60 [.agg (aV a)] (c1 (vB r))) (fun rec hr a b r hq => g_value_Known_ok hb he (g_value_Known_1 (fun a0 => rec a0 ())) (g_value_Known_1_ok hb he (fun a0 => rec a0 ()) (fun a0 r e => hr a0 () r e)) a r hq) a0 () r hq
noncomputable def t_value_Known_1 (a0 : Val) : Option (Bool) := (g_value_Known_1 t_value_Known) a0
theorem t_value_Known_1_ok (hb : Base E E0 G) (he : ∀ w, E w → EnvV w) (a0 : Val) (r : Bool) (hq : t_value_Known_1 a0 = some r) : Pure E E0 Tryz.prog 81 [.agg (aV a0)] (c1 (vB r)) :=
  g_value_Known_1_ok hb he t_value_Known (t_value_Known_ok hb he) a0 r hq
noncomputable def g_value_Equal_slices_EqualFunc_value_Equal_L1 (r_value_Equal : Val → Val → Option (Bool)) (s1_ : List Val) (s2_ : List Val) (s1 : Int) : Option ((Int) ⊕ (Bool)) :=
  bif (decide (s1 < (s1_.length : Int))) then (idx s1_ s1).bind fun x3 => (idx s2_ s1).bind fun x4 => (r_value_Equal x3 x4).bind fun y5 => bif (!y5) then some (.inr (false)) else some (.inl (IntKind.i64.wrap (s1 + 1))) else some (.inr (true))
noncomputable def g_value_Equal_slices_EqualFunc_value_Equal (r_value_Equal : Val → Val → Option (Bool)) (s1_ : List Val) (s2_ : List Val) : Option (Bool) :=
  bif (!decide ((s1_.length : Int) = (s2_.length : Int))) then some (false) else loopO (g_value_Equal_slices_EqualFunc_value_Equal_L1 r_value_Equal s1_ s2_) 0
theorem g_value_Equal_slices_EqualFunc_value_Equal_ok (hb : Base E E0 G) (he : ∀ w, E w → EnvV w) (r_value_Equal : Val → Val → Option (Bool)) (hr_value_Equal : ∀ (a0 : Val) (a1 : Val) (r : Bool), r_value_Equal a0 a1 = some r → Pure E E0 Tryz.prog 61 [.agg (aV a0), .agg (aV a1)] (c1 (vB r))) (s1_ : List Val) (s2_ : List Val) : ∀ r_ : Bool, g_value_Equal_slices_EqualFunc_value_Equal r_value_Equal s1_ s2_ = some r_ →
 Pure E E0 Tryz.prog 82 [.cell (vL flV s1_), .cell (vL flV s2_), .cell (.pv (.sc (.func (.func 61) #[] #[])))] (c1 (vB r_)) := by
 refine fnE hb Tryz.func82 rfl fun r_ hq => ?_
 refine ifE hb 13 [14] [] hq (fun hq _ => ?_) (fun hq _ => ?_)
 exact retE hb 5 (injO hq).symm
 refine loopE hb 10 (g_value_Equal_slices_EqualFunc_value_Equal_L1 r_value_Equal s1_ s2_) (fun s1 => sl 32 [(1, c1 (vL flV s2_)), (2, c1 (.pv (.sc (.func (.func 61) #[] #[])))), (15, c1 (vL flV s1_)), (16, c1 (vi (s1_.length : Int))), (17, c1 (vi s1))]) (fun s1 => []) [1, 2, 15, 16, 17] [] 0 (s0 := 0) trivial hq (fun s1 x1 hq hn1 he1 => ?_)
 refine ifE hb 5 [18] [] hq (fun hq _ => ?_) (fun hq _ => ?_)
 refine idxE hb flV 7 hq fun x3 hx3 hq => ?_
 refine idxE hb flV 9 hq fun x4 hx4 hq => ?_
 refine callE hb 9 hq (hr_value_Equal x3 x4) fun y5 hy5 hq => ?_
 refine ifE hb 2 [30] [] hq (fun hq _ => ?_) (fun hq _ => ?_)
 exact retE hb 5 (he1 _ (injO hq))
 exact backE hb 7 [1, 2, 15, 16, 17] [] 0 (hn1 _ (injO hq)) trivial
 exact retE hb 6 (he1 _ (injO hq))
noncomputable def g_value_Equal (r_value_Equal : Val → Val → Option (Bool)) (a_ : Val) (b_ : Val) : Option (Bool) :=
  bif (decide (a_.kind = b_.kind)) then bif (decide (a_.num = b_.num)) then bif (decide (a_.str = b_.str)) then (g_slices_Equal a_.keys b_.keys).bind fun y4 => bif y4 then (g_value_Equal_slices_EqualFunc_value_Equal r_value_Equal a_.items b_.items).bind fun y6 => some (y6) else some (false) else some (false) else some (false) else some (false)
theorem g_value_Equal_ok (hb : Base E E0 G) (he : ∀ w, E w → EnvV w) (r_value_Equal : Val → Val → Option (Bool)) (hr_value_Equal : ∀ (a0 : Val) (a1 : Val) (r : Bool), r_value_Equal a0 a1 = some r → Pure E E0 Tryz.prog 61 [.agg (aV a0), .agg (aV a1)] (c1 (vB r))) (a_ : Val) (b_ : Val) : ∀ r_ : Bool, g_value_Equal r_value_Equal a_ b_ = some r_ →
 Pure E E0 Tryz.prog 61 [.agg (aV a_), .agg (aV b_)] (c1 (vB r_)) := by
 refine fnE hb Tryz.func61 rfl fun r_ hq => ?_
 refine ifE hb 14 [9, 10] [] hq (fun hq _ => ?_) (fun hq _ => ?_)
 refine ifE hb 7 [15, 16, 17] [] hq (fun hq _ => ?_) (fun hq _ => ?_)
 refine ifE hb 7 [22, 23, 24] [] hq (fun hq _ => ?_) (fun hq _ => ?_)
 refine callE hb 4 hq (g_slices_Equal_ok hb he a_.keys b_.keys) fun y4 hy4 hq => ?_
 refine ifE hb 2 [29, 30, 31] [] hq (fun hq _ => ?_) (fun hq _ => ?_)
 refine callE hb 4 hq (g_value_Equal_slices_EqualFunc_value_Equal_ok hb he r_value_Equal hr_value_Equal a_.items b_.items) fun y6 hy6 hq => ?_
 exact retE hb 3 (injO hq).symm
 exact retE hb 8 (injO hq).symm
 exact retE hb 15 (injO hq).symm
 exact retE hb 22 (injO hq).symm
 exact retE hb 29 (injO hq).symm
noncomputable def t_value_Equal_step (rec : Val → Val → Option (Bool)) (a : Val) (b : Val) : Option (Bool) :=
  g_value_Equal (fun a0 a1 => rec a0 a1) a b
noncomputable def t_value_Equal (a0 : Val) (a1 : Val) : Option (Bool) := tieF relV wfV t_value_Equal_step a0 a1
theorem t_value_Equal_ok (hb : Base E E0 G) (he : ∀ w, E w → EnvV w) (a0 : Val) (a1 : Val) (r : Bool) (hq : t_value_Equal a0 a1 = some r) : Pure E E0 Tryz.prog 61 [.agg (aV a0), .agg (aV a1)] (c1 (vB r)) :=
  tieF_ok (C := fun a b r => Pure E E0 Tryz.prog 61 [.agg (aV a), .agg (aV b)] (c1 (vB r))) (fun rec hr a b r hq => g_value_Equal_ok hb he (fun a0 a1 => rec a0 a1) (fun a0 a1 r e => hr a0 a1 r e) a b r hq) a0 a1 r hq
noncomputable def g_ops_Choose  (cond_ : Val) (a_ : Val) (b_ : Val) : Option (Val × Int) :=
  (g_convert_Truth cond_).bind fun y1 => bif (!decide (y1.2 = 0)) then some ((Val.mk 0 0 eS [] []), y1.2) else (g_ops_open [y1.1]).bind fun y3 => bif y3 then (t_value_Known a_).bind fun y5 => bif y5 then (t_value_Equal a_ b_).bind fun y7 => bif y7 then (cpy a_).bind fun y9 => some (y9, 0) else (g_value_Unknown).bind fun y10 => some (y10, 0) else (g_value_Unknown).bind fun y11 => some (y11, 0) else bif (decide (y1.1.num = 1)) then (cpy a_).bind fun y13 => some (y13, 0) else (cpy b_).bind fun y14 => some (y14, 0)
theorem g_ops_Choose_ok (hb : Base E E0 G) (he : ∀ w, E w → EnvV w)   (cond_ : Val) (a_ : Val) (b_ : Val) : ∀ r_ : Val × Int, g_ops_Choose cond_ a_ b_ = some r_ →
 Pure E E0 Tryz.prog 35 [.agg (aV cond_), .agg (aV a_), .agg (aV b_)] (.tup [.agg (aV r_.1), .cell (vi r_.2)]) := by
 refine fnE hb Tryz.func35 rfl fun r_ hq => ?_
 refine callE hb 11 hq (g_convert_Truth_ok hb he cond_) fun y1 hy1 hq => ?_
 refine ifE hb 15 [15, 17] [] hq (fun hq _ => ?_) (fun hq _ => ?_)
 exact retE hb 8 (injO hq).symm
 have hp := (g_ops_open_ok hb he [y1.1])
 simp only [aV, aT, kind_mk, num_mk, str_mk, items_mk, keys_mk, Ty.kind_mk, Ty.elems_mk, Ty.names_mk, vL_one, vL_two, vL_three, vL_four, vL_five, vL_six] at hp
 refine callE hb 5 hq hp fun y3 hy3 hq => ?_
 refine ifE hb 2 [20, 23] [] hq (fun hq _ => ?_) (fun hq _ => ?_)
 refine callE hb 5 hq (t_value_Known_ok hb he a_) fun y5 hy5 hq => ?_
 refine ifE hb 1 [25, 26] [] hq (fun hq _ => ?_) (fun hq _ => ?_)
 refine callE hb 2 hq (t_value_Equal_ok hb he a_ b_) fun y7 hy7 hq => ?_
 refine cpE hb 2 [4, 6, 30] (s' := ⟨none, [pick (bodyOf Tryz.f35) [1, 1, 0, 0, 1, 1, 1, 0, 0, 1], pick (bodyOf Tryz.f35) [1, 1, 0, 0, 1, 1, 1, 0, 1]], [(0, [pick (bodyOf Tryz.f35) [1, 1, 1]])], sl 42 [(4, pt 1), (6, pt 3), (30, c1 (vB y7))], [bx (aV cond_), bx (aV a_), bx (aV b_), bx zV, bx (aV y1.1)]⟩) ?_
 refine ifE hb 0 [30] [] hq (fun hq _ => ?_) (fun hq _ => ?_)
 refine callE hb 4 hq (copied_ops_g hb he a_) fun y9 hy9 hq => ?_
 exact retE hb 3 (injO hq).symm
 refine callE hb 4 hq (g_value_Unknown_ok hb he ) fun y10 hy10 hq => ?_
 exact retE hb 3 (injO hq).symm
 refine callE hb 9 hq (g_value_Unknown_ok hb he ) fun y11 hy11 hq => ?_
 exact retE hb 3 (injO hq).symm
 refine ifE hb 8 [34, 37] [] hq (fun hq _ => ?_) (fun hq _ => ?_)
 refine callE hb 4 hq (copied_ops_g hb he a_) fun y13 hy13 hq => ?_
 exact retE hb 3 (injO hq).symm
 refine callE hb 6 hq (copied_ops_g hb he b_) fun y14 hy14 hq => ?_
 exact retE hb 3 (injO hq).symm
noncomputable def g_l19_awake   : Option (Bool) :=
  (g_r07_Number 5).bind fun y1 => (g_r07_Number 6).bind fun y2 => (g_r07_List [y1, y2]).bind fun y3 => (g_r07_String (⟨#[49]⟩ : ByteArray)).bind fun y4 => (g_ops_Index y3 y4).bind fun y5 => (g_r07_Unknown).bind fun y6 => (g_r07_Bool false).bind fun y7 => (g_ops_Binary 4 y6 y7).bind fun y8 => (g_r07_Null).bind fun y9 => (g_ops_Attr y9 (⟨#[97]⟩ : ByteArray)).bind fun y10 => (g_r07_Unknown).bind fun y11 => (g_r07_Number 1).bind fun y12 => (g_r07_Number 1).bind fun y13 => (g_ops_Choose y11 y12 y13).bind fun y14 => (g_r07_String (⟨#[116, 114, 117, 101]⟩ : ByteArray)).bind fun y15 => (g_ops_Unary 1 y15).bind fun y16 => (g_r07_Number 6).bind fun y17 => (t_r07_Equal y5.1 y17).bind fun y18 => bif y18 then bif (decide (y5.2 = 0)) then (g_r07_Bool false).bind fun y21 => (t_r07_Equal y8.1 y21).bind fun y22 => bif y22 then bif (decide (y8.2 = 0)) then bif (decide (y10.2 = 6)) then (g_r07_Number 1).bind fun y26 => (t_r07_Equal y14.1 y26).bind fun y27 => bif y27 then bif (decide (y14.2 = 0)) then (g_r07_Bool false).bind fun y30 => (t_r07_Equal y16.1 y30).bind fun y31 => bif y31 then some (decide (y16.2 = 0)) else some (false) else some (false) else some (false) else some (false) else some (false) else some (false) else some (false) else some (false)
theorem g_l19_awake_ok (hb : Base E E0 G) (he : ∀ w, E w → EnvV w)    : ∀ r_ : Bool, g_l19_awake = some r_ →
 Pure E E0 Tryz.prog 10 [] (c1 (vB r_)) := by
 refine fnE hb Tryz.func10 rfl fun r_ hq => ?_
 refine callE hb 6 hq (g_r07_Number_ok hb he 5) fun y1 hy1 hq => ?_
 refine callE hb 0 hq (g_r07_Number_ok hb he 6) fun y2 hy2 hq => ?_
 have hp := (g_r07_List_ok hb he [y1, y2])
 simp only [aV, aT, kind_mk, num_mk, str_mk, items_mk, keys_mk, Ty.kind_mk, Ty.elems_mk, Ty.names_mk, vL_one, vL_two, vL_three, vL_four, vL_five, vL_six] at hp
 refine callE hb 1 hq hp fun y3 hy3 hq => ?_
 refine drawE hb mixed 4 7 [5] ?_
 refine callE hb 1 hq (g_r07_String_ok hb he (⟨#[49]⟩ : ByteArray)) fun y4 hy4 hq => ?_
 refine callE hb 0 hq (g_ops_Index_ok hb he y3 y4) fun y5 hy5 hq => ?_
 refine callE hb 10 hq (g_r07_Unknown_ok hb he ) fun y6 hy6 hq => ?_
 refine callE hb 0 hq (g_r07_Bool_ok hb he false) fun y7 hy7 hq => ?_
 refine callE hb 0 hq (g_ops_Binary_ok hb he 4 y6 y7) fun y8 hy8 hq => ?_
 refine cpE hb 8 [2, 3, 4, 5] (s' := ⟨none, [pick (bodyOf Tryz.f10) [1, 1, 1, 1, 0], pick (bodyOf Tryz.f10) [1, 1, 1, 1, 1]], [], sl 83 [(2, pt 1), (3, c1 (vi y5.2)), (4, pt 2), (5, c1 (vi y8.2))], [bx (aV y3), bx (aV y5.1), bx (aV y8.1)]⟩) ?_
 refine callE hb 1 hq (g_r07_Null_ok hb he ) fun y9 hy9 hq => ?_
 refine callE hb 0 hq (g_ops_Attr_ok hb he y9 (⟨#[97]⟩ : ByteArray)) fun y10 hy10 hq => ?_
 refine callE hb 9 hq (g_r07_Unknown_ok hb he ) fun y11 hy11 hq => ?_
 refine callE hb 0 hq (g_r07_Number_ok hb he 1) fun y12 hy12 hq => ?_
 refine callE hb 0 hq (g_r07_Number_ok hb he 1) fun y13 hy13 hq => ?_
 refine callE hb 0 hq (g_ops_Choose_ok hb he y11 y12 y13) fun y14 hy14 hq => ?_
 refine callE hb 9 hq (g_r07_String_ok hb he (⟨#[116, 114, 117, 101]⟩ : ByteArray)) fun y15 hy15 hq => ?_
 refine callE hb 0 hq (g_ops_Unary_ok hb he 1 y15) fun y16 hy16 hq => ?_
 refine cpE hb 8 [2, 3, 4, 5, 7, 8, 9, 10, 11] (s' := ⟨none, [pick (bodyOf Tryz.f10) [1, 1, 1, 1, 1, 1, 1, 0], pick (bodyOf Tryz.f10) [1, 1, 1, 1, 1, 1, 1, 1]], [], sl 83 [(2, pt 1), (3, c1 (vi y5.2)), (4, pt 2), (5, c1 (vi y8.2)), (7, c1 (vi y10.2)), (8, pt 4), (9, c1 (vi y14.2)), (10, pt 5), (11, c1 (vi y16.2))], [bx (aV y3), bx (aV y5.1), bx (aV y8.1), bx (aV y10.1), bx (aV y14.1), bx (aV y16.1)]⟩) ?_
 refine drawE hb mixed 0 32 [] ?_
 refine callE hb 1 hq (g_r07_Number_ok hb he 6) fun y17 hy17 hq => ?_
 refine callE hb 0 hq (t_r07_Equal_ok hb he y5.1 y17) fun y18 hy18 hq => ?_
 refine ifE hb 1 [47, 48] [] hq (fun hq _ => ?_) (fun hq _ => ?_)
 refine ifE hb 4 [50, 51, 52] [] hq (fun hq _ => ?_) (fun hq _ => ?_)
 refine callE hb 1 hq (g_r07_Bool_ok hb he false) fun y21 hy21 hq => ?_
 refine callE hb 0 hq (t_r07_Equal_ok hb he y8.1 y21) fun y22 hy22 hq => ?_
 refine ifE hb 2 [55, 56, 57] [] hq (fun hq _ => ?_) (fun hq _ => ?_)
 refine ifE hb 4 [59, 60, 61] [] hq (fun hq _ => ?_) (fun hq _ => ?_)
 refine ifE hb 4 [63, 64, 65] [] hq (fun hq _ => ?_) (fun hq _ => ?_)
 refine callE hb 1 hq (g_r07_Number_ok hb he 1) fun y26 hy26 hq => ?_
 refine callE hb 0 hq (t_r07_Equal_ok hb he y14.1 y26) fun y27 hy27 hq => ?_
 refine ifE hb 2 [68, 69, 70] [] hq (fun hq _ => ?_) (fun hq _ => ?_)
 refine ifE hb 4 [72, 73, 74] [] hq (fun hq _ => ?_) (fun hq _ => ?_)
 refine callE hb 1 hq (g_r07_Bool_ok hb he false) fun y30 hy30 hq => ?_
 refine callE hb 1 hq (t_r07_Equal_ok hb he y16.1 y30) fun y31 hy31 hq => ?_
 refine ifE hb 2 [77, 78, 79] [] hq (fun hq _ => ?_) (fun hq _ => ?_)
 exact retE hb 5 (injO hq).symm
 exact retE hb 5 (injO hq).symm
 exact retE hb 11 (injO hq).symm
 exact retE hb 15 (injO hq).symm
 exact retE hb 20 (injO hq).symm
 exact retE hb 24 (injO hq).symm
 exact retE hb 28 (injO hq).symm
 exact retE hb 33 (injO hq).symm
 exact retE hb 37 (injO hq).symm
noncomputable def g_l19_do  (c_ : CallG) : Option (Val × Int) :=
  bif (decide (c_.kind = 0)) then (g_ops_Attr c_.a c_.name).bind fun y2 => some (y2.1, y2.2) else bif (decide (c_.kind = 1)) then (g_ops_Index c_.a c_.b).bind fun y4 => some (y4.1, y4.2) else bif (decide (c_.kind = 2)) then (g_ops_Unary c_.op c_.a).bind fun y6 => some (y6.1, y6.2) else bif (decide (c_.kind = 3)) then (g_ops_Binary c_.op c_.a c_.b).bind fun y8 => some (y8.1, y8.2) else (g_ops_Choose c_.a c_.b c_.c).bind fun y9 => some (y9.1, y9.2)
theorem g_l19_do_ok (hb : Base E E0 G) (he : ∀ w, E w → EnvV w)   (c_ : CallG) : ∀ r_ : Val × Int, g_l19_do c_ = some r_ →
 Pure E E0 Tryz.prog 11 [.agg [vi c_.kind, vi c_.op, vS c_.name, vi c_.a.kind, vi c_.a.num, vS c_.a.str, vL flV c_.a.items, vL flS c_.a.keys, vi c_.b.kind, vi c_.b.num, vS c_.b.str, vL flV c_.b.items, vL flS c_.b.keys, vi c_.c.kind, vi c_.c.num, vS c_.c.str, vL flV c_.c.items, vL flS c_.c.keys]] (.tup [.agg (aV r_.1), .cell (vi r_.2)]) := by
 refine fnE hb Tryz.func11 rfl fun r_ hq => ?_
 refine ifE hb 18 [6, 7] [] hq (fun hq _ => ?_) (fun hq _ => ?_)
 refine callE hb 7 hq (g_ops_Attr_ok hb he c_.a c_.name) fun y2 hy2 hq => ?_
 exact retE hb 5 (injO hq).symm
 refine ifE hb 6 [15, 16] [] hq (fun hq _ => ?_) (fun hq _ => ?_)
 refine callE hb 7 hq (g_ops_Index_ok hb he c_.a c_.b) fun y4 hy4 hq => ?_
 exact retE hb 5 (injO hq).symm
 refine ifE hb 6 [24, 25] [] hq (fun hq _ => ?_) (fun hq _ => ?_)
 refine callE hb 7 hq (g_ops_Unary_ok hb he c_.op c_.a) fun y6 hy6 hq => ?_
 exact retE hb 5 (injO hq).symm
 refine ifE hb 6 [33, 34] [] hq (fun hq _ => ?_) (fun hq _ => ?_)
 refine callE hb 9 hq (g_ops_Binary_ok hb he c_.op c_.a c_.b) fun y8 hy8 hq => ?_
 exact retE hb 5 (injO hq).symm
 refine callE hb 11 hq (g_ops_Choose_ok hb he c_.a c_.b c_.c) fun y9 hy9 hq => ?_
 exact retE hb 5 (injO hq).symm
noncomputable def g_r07_Get_L1 (v_ : Val) (key_ : ByteArray) (s1 : Int) : Option ((Int) ⊕ (Val × Bool)) :=
  bif (decide (s1 < (v_.keys.length : Int))) then bif (decide (s1 < (v_.items.length : Int))) then (idx v_.keys s1).bind fun x4 => bif (decide (x4 = key_)) then (idx v_.items s1).bind fun x6 => some (.inr (x6, true)) else some (.inl (IntKind.i64.wrap (s1 + 1))) else some (.inr ((Val.mk 0 0 eS [] []), false)) else some (.inr ((Val.mk 0 0 eS [] []), false))
noncomputable def g_r07_Get  (v_ : Val) (key_ : ByteArray) : Option (Val × Bool) :=
  bif (!decide (v_.kind = 5)) then some ((Val.mk 0 0 eS [] []), false) else loopO (g_r07_Get_L1 v_ key_) 0
theorem g_r07_Get_ok (hb : Base E E0 G) (he : ∀ w, E w → EnvV w)   (v_ : Val) (key_ : ByteArray) : ∀ r_ : Val × Bool, g_r07_Get v_ key_ = some r_ →
 Pure E E0 Tryz.prog 62 [.agg (aV v_), .cell (vS key_)] (.tup [.agg (aV r_.1), .cell (vB r_.2)]) := by
 refine fnE hb Tryz.func62 rfl fun r_ hq => ?_
 refine ifE hb 13 [9] [] hq (fun hq _ => ?_) (fun hq _ => ?_)
 exact retE hb 7 (injO hq).symm
 refine loopE hb 8 (g_r07_Get_L1 v_ key_) (fun s1 => sl 38 [(1, c1 (vS key_)), (2, pt 0), (4, pt 1), (6, c1 (vi s1))]) (fun s1 => [bx (aV v_), bx zV]) [1, 2, 4, 6] [] 2 (s0 := 0) ⟨(by kernel_rfl), (by kernel_rfl), trivial⟩ hq (fun s1 x1 hq hn1 he1 => ?_)
 refine ifE hb 9 [15, 16] [] hq (fun hq _ => ?_) (fun hq _ => ?_)
 refine ifE hb 7 [21, 22] [] hq (fun hq _ => ?_) (fun hq _ => ?_)
 refine idxE hb flS 9 hq fun x4 hx4 hq => ?_
 refine ifE hb 4 [31] [] hq (fun hq _ => ?_) (fun hq _ => ?_)
 refine idxE hb flV 6 hq fun x6 hx6 hq => ?_
 exact retE hb 4 (he1 _ (injO hq))
 exact backE hb 8 [1, 2, 4, 6] [] 2 (hn1 _ (injO hq)) ⟨(by kernel_rfl), (by kernel_rfl), trivial⟩
 exact retE hb 8 (he1 _ (injO hq))
 exact retE hb 15 (he1 _ (injO hq))
noncomputable def g_r19_Attr  (v_ : Val) (name_ : ByteArray) : Option (Val × Int) :=
  bif (decide (v_.kind = 6)) then (g_r07_Unknown).bind fun y2 => some (y2, 0) else bif (!decide (v_.kind = 5)) then some ((Val.mk 0 0 eS [] []), 6) else (g_r07_Get v_ name_).bind fun y4 => bif (!y4.2) then some ((Val.mk 0 0 eS [] []), 16) else some (y4.1, 0)
theorem g_r19_Attr_ok (hb : Base E E0 G) (he : ∀ w, E w → EnvV w)   (v_ : Val) (name_ : ByteArray) : ∀ r_ : Val × Int, g_r19_Attr v_ name_ = some r_ →
 Pure E E0 Tryz.prog 36 [.agg (aV v_), .cell (vS name_)] (.tup [.agg (aV r_.1), .cell (vi r_.2)]) := by
 refine fnE hb Tryz.func36 rfl fun r_ hq => ?_
 refine ifE hb 13 [10] [] hq (fun hq _ => ?_) (fun hq _ => ?_)
 refine callE hb 3 hq (g_r07_Unknown_ok hb he ) fun y2 hy2 hq => ?_
 exact retE hb 3 (injO hq).symm
 refine ifE hb 9 [14] [] hq (fun hq _ => ?_) (fun hq _ => ?_)
 exact retE hb 7 (injO hq).symm
 refine callE hb 6 hq (g_r07_Get_ok hb he v_ name_) fun y4 hy4 hq => ?_
 refine ifE hb 13 [23] [] hq (fun hq _ => ?_) (fun hq _ => ?_)
 exact retE hb 7 (injO hq).symm
 exact retE hb 8 (injO hq).symm
noncomputable def g_r11_has_L1 (l_ : List ByteArray) (s_ : ByteArray) (s1 : Int) : Option ((Int) ⊕ (Bool)) :=
  bif (decide (s1 < (l_.length : Int))) then (idx l_ s1).bind fun x2 => bif (decide (x2 = s_)) then some (.inr (true)) else some (.inl (IntKind.i64.wrap (s1 + 1))) else some (.inr (false))
noncomputable def g_r11_has  (l_ : List ByteArray) (s_ : ByteArray) : Option (Bool) :=
  loopO (g_r11_has_L1 l_ s_) 0
theorem g_r11_has_ok (hb : Base E E0 G) (he : ∀ w, E w → EnvV w)   (l_ : List ByteArray) (s_ : ByteArray) : ∀ r_ : Bool, g_r11_has l_ s_ = some r_ →
 Pure E E0 Tryz.prog 129 [.cell (vL flS l_), .cell (vS s_)] (c1 (vB r_)) := by
 refine fnE hb Tryz.func129 rfl fun r_ hq => ?_
 refine loopE hb 10 (g_r11_has_L1 l_ s_) (fun s1 => sl 18 [(0, c1 (vL flS l_)), (1, c1 (vS s_)), (5, c1 (vi s1))]) (fun s1 => []) [0, 1, 5] [] 0 (s0 := 0) trivial hq (fun s1 x1 hq hn1 he1 => ?_)
 refine ifE hb 8 [9] [] hq (fun hq _ => ?_) (fun hq _ => ?_)
 refine idxE hb flS 8 hq fun x2 hx2 hq => ?_
 refine ifE hb 4 [17] [] hq (fun hq _ => ?_) (fun hq _ => ?_)
 exact retE hb 5 (he1 _ (injO hq))
 exact backE hb 8 [0, 1, 5] [] 0 (hn1 _ (injO hq)) trivial
 exact retE hb 6 (he1 _ (injO hq))
noncomputable def g_r11_word  (v_ : Val) : Option (ByteArray) :=
  bif (decide (v_.kind = 2)) then (m_format v_.num).bind fun y2 => some (y2) else bif (decide (v_.num = 1)) then some (⟨#[116, 114, 117, 101]⟩ : ByteArray) else some (⟨#[102, 97, 108, 115, 101]⟩ : ByteArray)
theorem g_r11_word_ok (hb : Base E E0 G) (he : ∀ w, E w → EnvV w)   (v_ : Val) : ∀ r_ : ByteArray, g_r11_word v_ = some r_ →
 Pure E E0 Tryz.prog 131 [.agg (aV v_)] (c1 (vS r_)) := by
 refine fnE hb Tryz.func131 rfl fun r_ hq => ?_
 refine ifE hb 12 [5] [] hq (fun hq _ => ?_) (fun hq _ => ?_)
 refine callE hb 5 hq (rFormat_g hb he v_.num) fun y2 hy2 hq => ?_
 exact retE hb 2 (injO hq).symm
 refine ifE hb 9 [11] [] hq (fun hq _ => ?_) (fun hq _ => ?_)
 exact retE hb 5 (injO hq).symm
 exact retE hb 6 (injO hq).symm
noncomputable def g_r11_simple  (v_ : Val) (k_ : Int) : Option (Val × Int) :=
  bif (decide (k_ = 1)) then bif (decide (v_.kind = 1)) then some (v_, 0) else bif (decide (v_.kind = 3)) then bif (decide (v_.str = (⟨#[116, 114, 117, 101]⟩ : ByteArray))) then some ((Val.mk 1 1 eS [] []), 0) else bif (decide (v_.str = (⟨#[102, 97, 108, 115, 101]⟩ : ByteArray))) then some ((Val.mk 1 0 eS [] []), 0) else some ((Val.mk 0 0 eS [] []), 6) else some ((Val.mk 0 0 eS [] []), 6) else bif (decide (k_ = 2)) then bif (decide (v_.kind = 2)) then some (v_, 0) else (m_parse v_.str).bind fun y8 => bif (decide (v_.kind = 3)) then bif (decide (y8.2 = 0)) then some ((Val.mk 2 y8.1 eS [] []), 0) else some ((Val.mk 0 0 eS [] []), 6) else some ((Val.mk 0 0 eS [] []), 6) else bif (decide (v_.kind = 3)) then some (v_, 0) else bif (decide (v_.kind = 2)) then (g_r11_word v_).bind fun y13 => some ((Val.mk 3 0 y13 [] []), 0) else bif (decide (v_.kind = 1)) then (g_r11_word v_).bind fun y15 => some ((Val.mk 3 0 y15 [] []), 0) else some ((Val.mk 0 0 eS [] []), 6)
theorem g_r11_simple_ok (hb : Base E E0 G) (he : ∀ w, E w → EnvV w)   (v_ : Val) (k_ : Int) : ∀ r_ : Val × Int, g_r11_simple v_ k_ = some r_ →
 Pure E E0 Tryz.prog 120 [.agg (aV v_), .cell (vi k_)] (.tup [.agg (aV r_.1), .cell (vi r_.2)]) := by
 refine fnE hb Tryz.func120 rfl fun r_ hq => ?_
 refine ifE hb 17 [25, 26] [] hq (fun hq _ => ?_) (fun hq _ => ?_)
 refine ifE hb 8 [29] [] hq (fun hq _ => ?_) (fun hq _ => ?_)
 exact retE hb 7 (injO hq).symm
 refine ifE hb 8 [33, 34] [] hq (fun hq _ => ?_) (fun hq _ => ?_)
 refine ifE hb 4 [37, 38] [] hq (fun hq hc4 => ?_) (fun hq hc4 => ?_)
 refine knE hb 20 [47] [] (b := (decide (v_.str = (⟨#[116, 114, 117, 101]⟩ : ByteArray)))) (v := true) hc4 ?_
 exact retE hb 11 (injO hq).symm
 refine ifE hb 6 [41, 42, 43] [] hq (fun hq _ => ?_) (fun hq _ => ?_)
 refine knE hb 14 [47] [] (b := (decide (v_.str = (⟨#[116, 114, 117, 101]⟩ : ByteArray)))) (v := false) hc4 ?_
 exact retE hb 8 (injO hq).symm
 exact retE hb 9 (injO hq).symm
 exact retE hb 19 (injO hq).symm
 refine ifE hb 6 [50, 51] [] hq (fun hq _ => ?_) (fun hq _ => ?_)
 refine ifE hb 8 [54] [] hq (fun hq _ => ?_) (fun hq _ => ?_)
 exact retE hb 7 (injO hq).symm
 refine callE hb 6 hq (rParse_g hb he v_.str) fun y8 hy8 hq => ?_
 refine ifE hb 12 [64, 65] [] hq (fun hq _ => ?_) (fun hq _ => ?_)
 refine ifE hb 4 [67, 68] [] hq (fun hq _ => ?_) (fun hq _ => ?_)
 exact retE hb 8 (injO hq).symm
 exact retE hb 9 (injO hq).symm
 exact retE hb 13 (injO hq).symm
 refine ifE hb 8 [12] [] hq (fun hq _ => ?_) (fun hq _ => ?_)
 exact retE hb 7 (injO hq).symm
 refine ifE hb 8 [16, 17] [] hq (fun hq _ => ?_) (fun hq _ => ?_)
 refine callE hb 9 hq (g_r11_word_ok hb he v_) fun y13 hy13 hq => ?_
 exact retE hb 4 (injO hq).symm
 refine ifE hb 5 [20, 21] [] hq (fun hq _ => ?_) (fun hq _ => ?_)
 refine callE hb 4 hq (g_r11_word_ok hb he v_) fun y15 hy15 hq => ?_
 exact retE hb 4 (injO hq).symm
 exact retE hb 9 (injO hq).symm
noncomputable def g_r11_object_L2 (r_r11_to : Val → Ty → Option (Val × Int)) (v_ : Val) (t_ : Ty) (s2 : Int × List Val × List ByteArray) : Option ((Int × List Val × List ByteArray) ⊕ ((Int) ⊕ (Val × Int))) :=
  bif (decide (s2.1 < (t_.names.length : Int))) then bif (decide (s2.1 < (t_.elems.length : Int))) then (idx t_.names s2.1).bind fun x7 => (g_r07_Get v_ x7).bind fun y8 => (idx t_.elems s2.1).bind fun x9 => (r_r11_to y8.1 x9).bind fun y10 => bif (!decide (y10.2 = 0)) then some (.inr (.inr ((Val.mk 0 0 eS [] []), y10.2))) else (idx t_.names s2.1).bind fun x12 => (app 16 s2.2.2 [x12]).bind fun l13 => (app 80 s2.2.1 [y10.1]).bind fun l14 => some (.inl ((IntKind.i64.wrap (s2.1 + 1)), l14, l13)) else some (.inr (.inr ((Val.mk 5 0 eS s2.2.1 s2.2.2), 0))) else some (.inr (.inr ((Val.mk 5 0 eS s2.2.1 s2.2.2), 0)))
noncomputable def g_r11_object_L1 (r_r11_to : Val → Ty → Option (Val × Int)) (v_ : Val) (t_ : Ty) (s1 : Int) : Option ((Int) ⊕ (Val × Int)) :=
  bif (decide (s1 < (v_.keys.length : Int))) then (idx v_.keys s1).bind fun x2 => (g_r11_has t_.names x2).bind fun y3 => bif (!y3) then some (.inr ((Val.mk 0 0 eS [] []), 13)) else some (.inl (IntKind.i64.wrap (s1 + 1))) else loopO (g_r11_object_L2 r_r11_to v_ t_) (0, [], [])
noncomputable def g_r11_object (r_r11_to : Val → Ty → Option (Val × Int)) (v_ : Val) (t_ : Ty) : Option (Val × Int) :=
  loopO (g_r11_object_L1 r_r11_to v_ t_) 0
theorem g_r11_object_ok (hb : Base E E0 G) (he : ∀ w, E w → EnvV w) (r_r11_to : Val → Ty → Option (Val × Int)) (hr_r11_to : ∀ (a0 : Val) (a1 : Ty) (r : Val × Int), r_r11_to a0 a1 = some r → Pure E E0 Tryz.prog 101 [.agg (aV a0), .agg (aT a1)] (.tup [.agg (aV r.1), .cell (vi r.2)])) (v_ : Val) (t_ : Ty) : ∀ r_ : Val × Int, g_r11_object r_r11_to v_ t_ = some r_ →
 Pure E E0 Tryz.prog 119 [.agg (aV v_), .agg (aT t_)] (.tup [.agg (aV r_.1), .cell (vi r_.2)]) := by
 refine fnE hb Tryz.func119 rfl fun r_ hq => ?_
 refine loopE hb 13 (g_r11_object_L1 r_r11_to v_ t_) (fun s1 => sl 86 [(2, pt 0), (3, pt 1), (4, pt 2), (6, c1 (vi s1))]) (fun s1 => [bx (aV v_), bx (aT t_), bx zV]) [2, 3, 4, 6] [] 3 (s0 := 0) ⟨(by kernel_rfl), (by kernel_rfl), (by kernel_rfl), trivial⟩ hq (fun s1 x1 hq hn1 he1 => ?_)
 refine ifE hb 9 [17] [] hq (fun hq _ => ?_) (fun hq _ => ?_)
 refine drawE hb mixed 5 7 [] ?_
 refine idxE hb flS 5 hq fun x2 hx2 hq => ?_
 refine callE hb 2 hq (g_r11_has_ok hb he t_.names x2) fun y3 hy3 hq => ?_
 refine ifE hb 2 [28] [] hq (fun hq _ => ?_) (fun hq _ => ?_)
 exact retE hb 7 (he1 _ (injO hq))
 exact backE hb 8 [2, 3, 4, 6] [] 3 (hn1 _ (injO hq)) ⟨(by kernel_rfl), (by kernel_rfl), (by kernel_rfl), trivial⟩
 refine ownSE hb 14 3 3 5 (cs := [vi 5, vi 0, vS eS, vN, vN]) (by kernel_rfl) ?_
 refine ownSE hb 0 3 4 1 (cs := [vi 5, vi 0, vS eS, vO flV 4 [], vN]) (by kernel_rfl) ?_
 refine loopE hb 0 (g_r11_object_L2 r_r11_to v_ t_) (fun s2 => sl 86 [(2, pt 0), (3, pt 1), (4, pt 2), (7, pt 3), (8, c1 (vi s2.1))]) (fun s2 => [bx (aV v_), bx (aT t_), bx zV, bx [vi 5, vi 0, vS eS, vO flV 4 s2.2.1, vO flS 5 s2.2.2], some (arO true flV.sz ((flV.f s2.2.1).length) (flV.f s2.2.1)), some (arO true flS.sz ((flS.f s2.2.2).length) (flS.f s2.2.2))]) [2, 3, 4, 7, 8] [] 6 (s0 := (0, [], [])) ⟨(by kernel_rfl), (by kernel_rfl), (by kernel_rfl), (by kernel_rfl), (under_arO _ _ _ _ _), (under_arO _ _ _ _ _), trivial⟩ hq (fun s2 x2 hq hn2 he2 => ?_)
 refine ifE hb 9 [35, 36] [] hq (fun hq _ => ?_) (fun hq _ => ?_)
 refine ifE hb 7 [41, 42] [] hq (fun hq _ => ?_) (fun hq _ => ?_)
 refine drawE hb mixed 5 11 [9] ?_
 refine idxE hb flS 4 hq fun x7 hx7 hq => ?_
 refine callE hb 1 hq (g_r07_Get_ok hb he v_ x7) fun y8 hy8 hq => ?_
 refine cpE hb 9 [2, 3, 4, 7, 8, 9] (s' := ⟨none, [pick (bodyOf Tryz.f119) [1, 1, 1, 0, 1, 0, 0, 1, 0, 0, 1, 0], pick (bodyOf Tryz.f119) [1, 1, 1, 0, 1, 0, 0, 1, 0, 0, 1, 1]], [(3, [pick (bodyOf Tryz.f119) [1, 1, 1, 0, 1, 0, 0, 1, 1], pick (bodyOf Tryz.f119) [1, 1, 1, 0, 1, 0]]), (2, [pick (bodyOf Tryz.f119) [1, 1, 1, 1]])], sl 86 [(2, pt 0), (3, pt 1), (4, pt 2), (7, pt 3), (8, c1 (vi s2.1)), (9, pt 6)], [bx (aV v_), bx (aT t_), bx zV, bx [vi 5, vi 0, vS eS, vO flV 4 s2.2.1, vO flS 5 s2.2.2], some (arO true flV.sz ((flV.f s2.2.1).length) (flV.f s2.2.1)), some (arO true flS.sz ((flS.f s2.2.2).length) (flS.f s2.2.2)), bx (aV y8.1)]⟩) ?_
 refine drawE hb mixed 0 11 [9] ?_
 refine idxE hb flT 4 hq fun x9 hx9 hq => ?_
 refine callE hb 1 hq (hr_r11_to y8.1 x9) fun y10 hy10 hq => ?_
 refine ifE hb 14 [66] [] hq (fun hq _ => ?_) (fun hq _ => ?_)
 exact retE hb 8 (he1 _ ((he2 _ (injO hq)).symm))
 refine drawE hb mixed 3 8 [] ?_
 refine idxE hb flS 5 hq fun x12 hx12 hq => ?_
 refine appOwnE flS hb 3 5 true ((flS.f s2.2.2).length) (flS.one x12) hq fun l13 hl13 hq => ?_
 refine markE hb 3 5 true (sz := flS.sz) (fr := (flS.f s2.2.2).length) (cs := flS.f l13) (by kernel_rfl) (app_le flS hl13) ?_
 refine cpE hb 0 [2, 3, 4, 7, 8, 11] (s' := ⟨none, [pick (bodyOf Tryz.f119) [1, 1, 1, 0, 1, 0, 0, 1, 0, 0, 1, 1, 1, 1]], [(3, [pick (bodyOf Tryz.f119) [1, 1, 1, 0, 1, 0, 0, 1, 1], pick (bodyOf Tryz.f119) [1, 1, 1, 0, 1, 0]]), (2, [pick (bodyOf Tryz.f119) [1, 1, 1, 1]])], sl 86 [(2, pt 0), (3, pt 1), (4, pt 2), (7, pt 3), (8, c1 (vi s2.1)), (11, pt 7)], [bx (aV v_), bx (aT t_), bx zV, bx [vi 5, vi 0, vS eS, vO flV 4 s2.2.1, vO flS 5 l13], some (arO true flV.sz ((flV.f s2.2.1).length) (flV.f s2.2.1)), some (arO true flS.sz ((flS.f l13).length) (flS.f l13)), bx (aV y8.1), bx (aV y10.1)]⟩) ?_
 refine appOwnE flV hb 5 4 true ((flV.f s2.2.1).length) (flV.one y10.1) hq fun l14 hl14 hq => ?_
 refine markE hb 9 4 true (sz := flV.sz) (fr := (flV.f s2.2.1).length) (cs := flV.f l14) (by kernel_rfl) (app_le flV hl14) ?_
 exact backE hb 0 [2, 3, 4, 7, 8] [] 6 (hn2 _ (injO hq)) ⟨(by kernel_rfl), (by kernel_rfl), (by kernel_rfl), (by kernel_rfl), (under_arO _ _ _ _ _), (under_arO _ _ _ _ _), trivial⟩
 refine cellSE hb 8 2 3 (cs := [vi 5, vi 0, vS eS, vO flV 4 s2.2.1, vO flS 5 s2.2.2]) (c := vO flV 4 s2.2.1) (conv_own flV (nb := true) (id := 4) (xs := s2.2.1) (by kernel_rfl)) (by kernel_rfl) ?_
 refine cellSE hb 0 2 4 (cs := [vi 5, vi 0, vS eS, vL flV s2.2.1, vO flS 5 s2.2.2]) (c := vO flS 5 s2.2.2) (conv_own flS (nb := true) (id := 5) (xs := s2.2.2) (by kernel_rfl)) (by kernel_rfl) ?_
 exact retE hb 0 (he1 _ ((he2 _ (injO hq)).symm))
 refine cellSE hb 15 2 3 (cs := [vi 5, vi 0, vS eS, vO flV 4 s2.2.1, vO flS 5 s2.2.2]) (c := vO flV 4 s2.2.1) (conv_own flV (nb := true) (id := 4) (xs := s2.2.1) (by kernel_rfl)) (by kernel_rfl) ?_
 refine cellSE hb 0 2 4 (cs := [vi 5, vi 0, vS eS, vL flV s2.2.1, vO flS 5 s2.2.2]) (c := vO flS 5 s2.2.2) (conv_own flS (nb := true) (id := 5) (xs := s2.2.2) (by kernel_rfl)) (by kernel_rfl) ?_
 exact retE hb 0 (he1 _ ((he2 _ (injO hq)).symm))
noncomputable def g_r11_to_L1 (r_r11_to : Val → Ty → Option (Val × Int)) (v_ : Val) (t_ : Ty) (s1 : Int × List Val) : Option ((Int × List Val) ⊕ (Val × Int)) :=
  bif (decide (s1.1 < (v_.items.length : Int))) then (idx v_.items s1.1).bind fun x13 => (idx t_.elems 0).bind fun x14 => (r_r11_to x13 x14).bind fun y15 => bif (!decide (y15.2 = 0)) then some (.inr ((Val.mk 0 0 eS [] []), y15.2)) else (app 80 s1.2 [y15.1]).bind fun l17 => some (.inl ((IntKind.i64.wrap (s1.1 + 1)), l17)) else some (.inr ((Val.mk v_.kind 0 eS s1.2 v_.keys), 0))
noncomputable def g_r11_to_L2 (r_r11_to : Val → Ty → Option (Val × Int)) (v_ : Val) (t_ : Ty) (s1 : Int × List Val) : Option ((Int × List Val) ⊕ (Val × Int)) :=
  bif (decide (s1.1 < (v_.items.length : Int))) then (idx v_.items s1.1).bind fun x23 => (idx t_.elems 0).bind fun x24 => (r_r11_to x23 x24).bind fun y25 => bif (!decide (y25.2 = 0)) then some (.inr ((Val.mk 0 0 eS [] []), y25.2)) else (app 80 s1.2 [y25.1]).bind fun l27 => some (.inl ((IntKind.i64.wrap (s1.1 + 1)), l27)) else some (.inr ((Val.mk v_.kind 0 eS s1.2 v_.keys), 0))
noncomputable def g_r11_to_L3 (r_r11_to : Val → Ty → Option (Val × Int)) (v_ : Val) (t_ : Ty) (s1 : Int × List Val) : Option ((Int × List Val) ⊕ (Val × Int)) :=
  bif (decide (s1.1 < (v_.items.length : Int))) then (idx v_.items s1.1).bind fun x30 => (idx t_.elems 0).bind fun x31 => (r_r11_to x30 x31).bind fun y32 => bif (!decide (y32.2 = 0)) then some (.inr ((Val.mk 0 0 eS [] []), y32.2)) else (app 80 s1.2 [y32.1]).bind fun l34 => some (.inl ((IntKind.i64.wrap (s1.1 + 1)), l34)) else some (.inr ((Val.mk v_.kind 0 eS s1.2 v_.keys), 0))
noncomputable def g_r11_to (r_r11_object : Val → Ty → Option (Val × Int)) (r_r11_to : Val → Ty → Option (Val × Int)) (v_ : Val) (t_ : Ty) : Option (Val × Int) :=
  bif (decide (t_.kind = 0)) then some (v_, 0) else bif (decide (v_.kind = 0)) then some (v_, 0) else bif (decide (v_.kind = 6)) then some (v_, 0) else bif (decide (t_.kind = 6)) then bif (!decide (v_.kind = 5)) then some ((Val.mk 0 0 eS [] []), 6) else (r_r11_object v_ t_).bind fun y6 => some (y6.1, y6.2) else bif (!decide (t_.kind = 4)) then bif (!decide (t_.kind = 5)) then (g_r11_simple v_ t_.kind).bind fun y9 => some (y9.1, y9.2) else bif (!decide (v_.kind = 5)) then some ((Val.mk 0 0 eS [] []), 6) else bif (!decide ((t_.elems.length : Int) = 1)) then some ((Val.mk 0 0 eS [] []), 6) else loopO (g_r11_to_L1 r_r11_to v_ t_) (0, []) else bif (!decide (v_.kind = 4)) then some ((Val.mk 0 0 eS [] []), 6) else bif (decide (t_.kind = 5)) then bif (!decide (v_.kind = 5)) then some ((Val.mk 0 0 eS [] []), 6) else bif (!decide ((t_.elems.length : Int) = 1)) then some ((Val.mk 0 0 eS [] []), 6) else loopO (g_r11_to_L2 r_r11_to v_ t_) (0, []) else bif (!decide ((t_.elems.length : Int) = 1)) then some ((Val.mk 0 0 eS [] []), 6) else loopO (g_r11_to_L3 r_r11_to v_ t_) (0, [])
theorem g_r11_to_ok (hb : Base E E0 G) (he : ∀ w, E w → EnvV w) (r_r11_object : Val → Ty → Option (Val × Int)) (r_r11_to : Val → Ty → Option (Val × Int)) (hr_r11_object : ∀ (a0 : Val) (a1 : Ty) (r : Val × Int), r_r11_object a0 a1 = some r → Pure E E0 Tryz.prog 119 [.agg (aV a0), .agg (aT a1)] (.tup [.agg (aV r.1), .cell (vi r.2)])) (hr_r11_to : ∀ (a0 : Val) (a1 : Ty) (r : Val × Int), r_r11_to a0 a1 = some r → Pure E E0 Tryz.prog 101 [.agg (aV a0), .agg (aT a1)] (.tup [.agg (aV r.1), .cell (vi r.2)])) (v_ : Val) (t_ : Ty) : ∀ r_ : Val × Int, g_r11_to r_r11_object r_r11_to v_ t_ = some r_ →
 Pure E E0 Tryz.prog 101 [.agg (aV v_), .agg (aT t_)] (.tup [.agg (aV r_.1), .cell (vi r_.2)]) := by
 refine fnE hb Tryz.func101 rfl fun r_ hq => ?_
 refine ifE hb 14 [12, 13] [] hq (fun hq _ => ?_) (fun hq _ => ?_)
 exact retE hb 17 (injO hq).symm
 refine ifE hb 5 [16, 17, 18] [] hq (fun hq _ => ?_) (fun hq _ => ?_)
 exact retE hb 12 (injO hq).symm
 refine ifE hb 5 [21, 22] [] hq (fun hq _ => ?_) (fun hq _ => ?_)
 exact retE hb 7 (injO hq).symm
 refine ifE hb 9 [26] [] hq (fun hq _ => ?_) (fun hq _ => ?_)
 refine ifE hb 8 [29] [] hq (fun hq _ => ?_) (fun hq _ => ?_)
 exact retE hb 7 (injO hq).symm
 refine callE hb 6 hq (hr_r11_object v_ t_) fun y6 hy6 hq => ?_
 exact retE hb 5 (injO hq).symm
 refine ifE hb 9 [38, 39] [] hq (fun hq hc7 => ?_) (fun hq hc7 => ?_)
 refine ifE hb 5 [42, 43] [] hq (fun hq _ => ?_) (fun hq hc8 => ?_)
 refine callE hb 6 hq (g_r11_simple_ok hb he v_ t_.kind) fun y9 hy9 hq => ?_
 exact retE hb 5 (injO hq).symm
 refine knE hb 9 [52, 53] [] (b := (decide (t_.kind = 4))) (v := false) (not_t hc7) ?_
 refine knE hb 9 [61, 62] [] (b := (decide (t_.kind = 5))) (v := true) (not_f hc8) ?_
 refine ifE hb 6 [65, 66, 67, 68] [] hq (fun hq _ => ?_) (fun hq _ => ?_)
 refine cpE hb 6 [2, 3, 4, 73] (s' := ⟨none, [pick (bodyOf Tryz.f101) [1, 1, 1, 1, 0, 1], pick (bodyOf Tryz.f101) [1, 1, 1, 1, 1]], [], sl 111 [(2, pt 0), (3, pt 1), (4, pt 2), (73, c1 (vB true))], [bx (aV v_), bx (aT t_), bx zV]⟩) ?_
 exact retE hb 7 (injO hq).symm
 refine cpE hb 6 [2, 3, 4, 73] (s' := ⟨none, [pick (bodyOf Tryz.f101) [1, 1, 1, 1, 0, 1], pick (bodyOf Tryz.f101) [1, 1, 1, 1, 1]], [], sl 111 [(2, pt 0), (3, pt 1), (4, pt 2), (73, c1 (vB (!decide ((t_.elems.length : Int) = 1))))], [bx (aV v_), bx (aT t_), bx zV]⟩) ?_
 refine ifE hb 0 [73] [] hq (fun hq _ => ?_) (fun hq _ => ?_)
 exact retE hb 7 (injO hq).symm
 refine ownSE hb 18 3 3 5 (cs := [vi v_.kind, vi 0, vS eS, vN, vL flS v_.keys]) (by kernel_rfl) ?_
 refine loopE hb 0 (g_r11_to_L1 r_r11_to v_ t_) (fun s1 => sl 111 [(2, pt 0), (3, pt 1), (4, pt 2), (6, pt 3), (7, c1 (vi s1.1))]) (fun s1 => [bx (aV v_), bx (aT t_), bx zV, bx [vi v_.kind, vi 0, vS eS, vO flV 4 s1.2, vL flS v_.keys], some (arO true flV.sz ((flV.f s1.2).length) (flV.f s1.2))]) [2, 3, 4, 6, 7] [] 5 (s0 := (0, [])) ⟨(by kernel_rfl), (by kernel_rfl), (by kernel_rfl), (by kernel_rfl), (under_arO _ _ _ _ _), trivial⟩ hq (fun s1 x1 hq hn1 he1 => ?_)
 refine ifE hb 9 [84] [] hq (fun hq _ => ?_) (fun hq _ => ?_)
 refine drawE hb mixed 5 14 [12] ?_
 refine idxE hb flV 3 hq fun x13 hx13 hq => ?_
 refine idxE hb flT 3 hq fun x14 hx14 hq => ?_
 refine callE hb 1 hq (hr_r11_to x13 x14) fun y15 hy15 hq => ?_
 refine cpE hb 10 [2, 3, 4, 6, 7, 8, 9] (s' := ⟨none, [pick (bodyOf Tryz.f101) [1, 1, 1, 1, 1, 1, 0, 1, 0, 0, 1, 0, 0, 1, 0, 0], pick (bodyOf Tryz.f101) [1, 1, 1, 1, 1, 1, 0, 1, 0, 0, 1, 0, 0, 1, 0, 1], pick (bodyOf Tryz.f101) [1, 1, 1, 1, 1, 1, 0, 1, 0, 0, 1, 0, 0, 1, 1]], [(1, [pick (bodyOf Tryz.f101) [1, 1, 1, 1, 1, 1, 0, 1, 0, 0, 1, 1], pick (bodyOf Tryz.f101) [1, 1, 1, 1, 1, 1, 0, 1, 0]]), (0, [pick (bodyOf Tryz.f101) [1, 1, 1, 1, 1, 1, 1]])], sl 111 [(2, pt 0), (3, pt 1), (4, pt 2), (6, pt 3), (7, c1 (vi s1.1)), (8, pt 5), (9, c1 (vi y15.2))], [bx (aV v_), bx (aT t_), bx zV, bx [vi v_.kind, vi 0, vS eS, vO flV 4 s1.2, vL flS v_.keys], some (arO true flV.sz ((flV.f s1.2).length) (flV.f s1.2)), bx (aV y15.1)]⟩) ?_
 refine ifE hb 4 [101] [] hq (fun hq _ => ?_) (fun hq _ => ?_)
 exact retE hb 8 (he1 _ (injO hq))
 refine appOwnE flV hb 7 4 true ((flV.f s1.2).length) (flV.one y15.1) hq fun l17 hl17 hq => ?_
 refine markE hb 9 4 true (sz := flV.sz) (fr := (flV.f s1.2).length) (cs := flV.f l17) (by kernel_rfl) (app_le flV hl17) ?_
 exact backE hb 0 [2, 3, 4, 6, 7] [] 5 (hn1 _ (injO hq)) ⟨(by kernel_rfl), (by kernel_rfl), (by kernel_rfl), (by kernel_rfl), (under_arO _ _ _ _ _), trivial⟩
 refine cellSE hb 8 2 3 (cs := [vi v_.kind, vi 0, vS eS, vO flV 4 s1.2, vL flS v_.keys]) (c := vO flV 4 s1.2) (conv_own flV (nb := true) (id := 4) (xs := s1.2) (by kernel_rfl)) (by kernel_rfl) ?_
 exact retE hb 0 (he1 _ (injO hq))
 refine knE hb 14 [52, 53] [] (b := (decide (t_.kind = 4))) (v := true) (not_f hc7) ?_
 refine ifE hb 5 [56, 57, 58] [] hq (fun hq _ => ?_) (fun hq _ => ?_)
 refine cpE hb 16 [2, 3, 4, 73] (s' := ⟨none, [pick (bodyOf Tryz.f101) [1, 1, 1, 1, 0, 1], pick (bodyOf Tryz.f101) [1, 1, 1, 1, 1]], [], sl 111 [(2, pt 0), (3, pt 1), (4, pt 2), (73, c1 (vB true))], [bx (aV v_), bx (aT t_), bx zV]⟩) ?_
 exact retE hb 7 (injO hq).symm
 refine ifE hb 4 [61, 62] [] hq (fun hq _ => ?_) (fun hq _ => ?_)
 refine ifE hb 6 [65, 66, 67, 68] [] hq (fun hq _ => ?_) (fun hq _ => ?_)
 refine cpE hb 6 [2, 3, 4, 73] (s' := ⟨none, [pick (bodyOf Tryz.f101) [1, 1, 1, 1, 0, 1], pick (bodyOf Tryz.f101) [1, 1, 1, 1, 1]], [], sl 111 [(2, pt 0), (3, pt 1), (4, pt 2), (73, c1 (vB true))], [bx (aV v_), bx (aT t_), bx zV]⟩) ?_
 exact retE hb 7 (injO hq).symm
 refine cpE hb 6 [2, 3, 4, 73] (s' := ⟨none, [pick (bodyOf Tryz.f101) [1, 1, 1, 1, 0, 1], pick (bodyOf Tryz.f101) [1, 1, 1, 1, 1]], [], sl 111 [(2, pt 0), (3, pt 1), (4, pt 2), (73, c1 (vB (!decide ((t_.elems.length : Int) = 1))))], [bx (aV v_), bx (aT t_), bx zV]⟩) ?_
 refine ifE hb 0 [73] [] hq (fun hq _ => ?_) (fun hq _ => ?_)
 exact retE hb 7 (injO hq).symm
 refine ownSE hb 18 3 3 5 (cs := [vi v_.kind, vi 0, vS eS, vN, vL flS v_.keys]) (by kernel_rfl) ?_
 refine loopE hb 0 (g_r11_to_L2 r_r11_to v_ t_) (fun s1 => sl 111 [(2, pt 0), (3, pt 1), (4, pt 2), (6, pt 3), (7, c1 (vi s1.1))]) (fun s1 => [bx (aV v_), bx (aT t_), bx zV, bx [vi v_.kind, vi 0, vS eS, vO flV 4 s1.2, vL flS v_.keys], some (arO true flV.sz ((flV.f s1.2).length) (flV.f s1.2))]) [2, 3, 4, 6, 7] [] 5 (s0 := (0, [])) ⟨(by kernel_rfl), (by kernel_rfl), (by kernel_rfl), (by kernel_rfl), (under_arO _ _ _ _ _), trivial⟩ hq (fun s1 x1 hq hn1 he1 => ?_)
 refine ifE hb 9 [84] [] hq (fun hq _ => ?_) (fun hq _ => ?_)
 refine drawE hb mixed 5 14 [12] ?_
 refine idxE hb flV 3 hq fun x23 hx23 hq => ?_
 refine idxE hb flT 3 hq fun x24 hx24 hq => ?_
 refine callE hb 1 hq (hr_r11_to x23 x24) fun y25 hy25 hq => ?_
 refine cpE hb 10 [2, 3, 4, 6, 7, 8, 9] (s' := ⟨none, [pick (bodyOf Tryz.f101) [1, 1, 1, 1, 1, 1, 0, 1, 0, 0, 1, 0, 0, 1, 0, 0], pick (bodyOf Tryz.f101) [1, 1, 1, 1, 1, 1, 0, 1, 0, 0, 1, 0, 0, 1, 0, 1], pick (bodyOf Tryz.f101) [1, 1, 1, 1, 1, 1, 0, 1, 0, 0, 1, 0, 0, 1, 1]], [(1, [pick (bodyOf Tryz.f101) [1, 1, 1, 1, 1, 1, 0, 1, 0, 0, 1, 1], pick (bodyOf Tryz.f101) [1, 1, 1, 1, 1, 1, 0, 1, 0]]), (0, [pick (bodyOf Tryz.f101) [1, 1, 1, 1, 1, 1, 1]])], sl 111 [(2, pt 0), (3, pt 1), (4, pt 2), (6, pt 3), (7, c1 (vi s1.1)), (8, pt 5), (9, c1 (vi y25.2))], [bx (aV v_), bx (aT t_), bx zV, bx [vi v_.kind, vi 0, vS eS, vO flV 4 s1.2, vL flS v_.keys], some (arO true flV.sz ((flV.f s1.2).length) (flV.f s1.2)), bx (aV y25.1)]⟩) ?_
 refine ifE hb 4 [101] [] hq (fun hq _ => ?_) (fun hq _ => ?_)
 exact retE hb 8 (he1 _ (injO hq))
 refine appOwnE flV hb 7 4 true ((flV.f s1.2).length) (flV.one y25.1) hq fun l27 hl27 hq => ?_
 refine markE hb 9 4 true (sz := flV.sz) (fr := (flV.f s1.2).length) (cs := flV.f l27) (by kernel_rfl) (app_le flV hl27) ?_
 exact backE hb 0 [2, 3, 4, 6, 7] [] 5 (hn1 _ (injO hq)) ⟨(by kernel_rfl), (by kernel_rfl), (by kernel_rfl), (by kernel_rfl), (under_arO _ _ _ _ _), trivial⟩
 refine cellSE hb 8 2 3 (cs := [vi v_.kind, vi 0, vS eS, vO flV 4 s1.2, vL flS v_.keys]) (c := vO flV 4 s1.2) (conv_own flV (nb := true) (id := 4) (xs := s1.2) (by kernel_rfl)) (by kernel_rfl) ?_
 exact retE hb 0 (he1 _ (injO hq))
 refine cpE hb 12 [2, 3, 4, 73] (s' := ⟨none, [pick (bodyOf Tryz.f101) [1, 1, 1, 1, 0, 1], pick (bodyOf Tryz.f101) [1, 1, 1, 1, 1]], [], sl 111 [(2, pt 0), (3, pt 1), (4, pt 2), (73, c1 (vB (!decide ((t_.elems.length : Int) = 1))))], [bx (aV v_), bx (aT t_), bx zV]⟩) ?_
 refine ifE hb 0 [73] [] hq (fun hq _ => ?_) (fun hq _ => ?_)
 exact retE hb 7 (injO hq).symm
 refine ownSE hb 18 3 3 5 (cs := [vi v_.kind, vi 0, vS eS, vN, vL flS v_.keys]) (by kernel_rfl) ?_
 refine loopE hb 0 (g_r11_to_L3 r_r11_to v_ t_) (fun s1 => sl 111 [(2, pt 0), (3, pt 1), (4, pt 2), (6, pt 3), (7, c1 (vi s1.1))]) (fun s1 => [bx (aV v_), bx (aT t_), bx zV, bx [vi v_.kind, vi 0, vS eS, vO flV 4 s1.2, vL flS v_.keys], some (arO true flV.sz ((flV.f s1.2).length) (flV.f s1.2))]) [2, 3, 4, 6, 7] [] 5 (s0 := (0, [])) ⟨(by kernel_rfl), (by kernel_rfl), (by kernel_rfl), (by kernel_rfl), (under_arO _ _ _ _ _), trivial⟩ hq (fun s1 x1 hq hn1 he1 => ?_)
 refine ifE hb 9 [84] [] hq (fun hq _ => ?_) (fun hq _ => ?_)
 refine drawE hb mixed 5 14 [12] ?_
 refine idxE hb flV 3 hq fun x30 hx30 hq => ?_
 refine idxE hb flT 3 hq fun x31 hx31 hq => ?_
 refine callE hb 1 hq (hr_r11_to x30 x31) fun y32 hy32 hq => ?_
 refine cpE hb 10 [2, 3, 4, 6, 7, 8, 9] (s' := ⟨none, [pick (bodyOf Tryz.f101) [1, 1, 1, 1, 1, 1, 0, 1, 0, 0, 1, 0, 0, 1, 0, 0], pick (bodyOf Tryz.f101) [1, 1, 1, 1, 1, 1, 0, 1, 0, 0, 1, 0, 0, 1, 0, 1], pick (bodyOf Tryz.f101) [1, 1, 1, 1, 1, 1, 0, 1, 0, 0, 1, 0, 0, 1, 1]], [(1, [pick (bodyOf Tryz.f101) [1, 1, 1, 1, 1, 1, 0, 1, 0, 0, 1, 1], pick (bodyOf Tryz.f101) [1, 1, 1, 1, 1, 1, 0, 1, 0]]), (0, [pick (bodyOf Tryz.f101) [1, 1, 1, 1, 1, 1, 1]])], sl 111 [(2, pt 0), (3, pt 1), (4, pt 2), (6, pt 3), (7, c1 (vi s1.1)), (8, pt 5), (9, c1 (vi y32.2))], [bx (aV v_), bx (aT t_), bx zV, bx [vi v_.kind, vi 0, vS eS, vO flV 4 s1.2, vL flS v_.keys], some (arO true flV.sz ((flV.f s1.2).length) (flV.f s1.2)), bx (aV y32.1)]⟩) ?_
 refine ifE hb 4 [101] [] hq (fun hq _ => ?_) (fun hq _ => ?_)
 exact retE hb 8 (he1 _ (injO hq))
 refine appOwnE flV hb 7 4 true ((flV.f s1.2).length) (flV.one y32.1) hq fun l34 hl34 hq => ?_
 refine markE hb 9 4 true (sz := flV.sz) (fr := (flV.f s1.2).length) (cs := flV.f l34) (by kernel_rfl) (app_le flV hl34) ?_
 exact backE hb 0 [2, 3, 4, 6, 7] [] 5 (hn1 _ (injO hq)) ⟨(by kernel_rfl), (by kernel_rfl), (by kernel_rfl), (by kernel_rfl), (under_arO _ _ _ _ _), trivial⟩
 refine cellSE hb 8 2 3 (cs := [vi v_.kind, vi 0, vS eS, vO flV 4 s1.2, vL flS v_.keys]) (c := vO flV 4 s1.2) (conv_own flV (nb := true) (id := 4) (xs := s1.2) (by kernel_rfl)) (by kernel_rfl) ?_
 exact retE hb 0 (he1 _ (injO hq))
noncomputable def t_r11_to_step (rec : Ty → Val → Option (Val × Int)) (a : Ty) (b : Val) : Option (Val × Int) :=
  g_r11_to (g_r11_object (fun a0 a1 => rec a1 a0)) (fun a0 a1 => rec a1 a0) b a
noncomputable def t_r11_to (a0 : Val) (a1 : Ty) : Option (Val × Int) := tieF relT wfT t_r11_to_step a1 a0
theorem t_r11_to_ok (hb : Base E E0 G) (he : ∀ w, E w → EnvV w) (a0 : Val) (a1 : Ty) (r : Val × Int) (hq : t_r11_to a0 a1 = some r) : Pure E E0 Tryz.prog 101 [.agg (aV a0), .agg (aT a1)] (.tup [.agg (aV r.1), .cell (vi r.2)]) :=
  tieF_ok (C := fun a b r => Pure E E0 Tryz.prog 101 [.agg (aV b), .agg (aT a)] (.tup [.agg (aV r.1), .cell (vi r.2)])) (fun rec hr a b r hq => g_r11_to_ok hb he (g_r11_object (fun a0 a1 => rec a1 a0)) (fun a0 a1 => rec a1 a0) (g_r11_object_ok hb he (fun a0 a1 => rec a1 a0) (fun a0 a1 r e => hr a1 a0 r e)) (fun a0 a1 r e => hr a1 a0 r e) b a r hq) a1 a0 r hq
noncomputable def t_r11_object (a0 : Val) (a1 : Ty) : Option (Val × Int) := (g_r11_object t_r11_to) a0 a1
theorem t_r11_object_ok (hb : Base E E0 G) (he : ∀ w, E w → EnvV w) (a0 : Val) (a1 : Ty) (r : Val × Int) (hq : t_r11_object a0 a1 = some r) : Pure E E0 Tryz.prog 119 [.agg (aV a0), .agg (aT a1)] (.tup [.agg (aV r.1), .cell (vi r.2)]) :=
  g_r11_object_ok hb he t_r11_to (t_r11_to_ok hb he) a0 a1 r hq
noncomputable def g_r11_single  (v_ : Val) (k_ : Int) : Option (Val × Int) :=
  bif (decide (v_.kind = 0)) then some ((Val.mk 0 0 eS [] []), 6) else (t_r11_to v_ (Ty.mk k_ [] [])).bind fun y2 => some (y2.1, y2.2)
theorem g_r11_single_ok (hb : Base E E0 G) (he : ∀ w, E w → EnvV w)   (v_ : Val) (k_ : Int) : ∀ r_ : Val × Int, g_r11_single v_ k_ = some r_ →
 Pure E E0 Tryz.prog 83 [.agg (aV v_), .cell (vi k_)] (.tup [.agg (aV r_.1), .cell (vi r_.2)]) := by
 refine fnE hb Tryz.func83 rfl fun r_ hq => ?_
 refine ifE hb 13 [8] [] hq (fun hq _ => ?_) (fun hq _ => ?_)
 exact retE hb 7 (injO hq).symm
 refine callE hb 7 hq (t_r11_to_ok hb he v_ (Ty.mk k_ [] [])) fun y2 hy2 hq => ?_
 exact retE hb 5 (injO hq).symm
noncomputable def g_r11_Text  (v_ : Val) : Option (Val × Int) :=
  (g_r11_single v_ 3).bind fun y1 => some (y1.1, y1.2)
theorem g_r11_Text_ok (hb : Base E E0 G) (he : ∀ w, E w → EnvV w)   (v_ : Val) : ∀ r_ : Val × Int, g_r11_Text v_ = some r_ →
 Pure E E0 Tryz.prog 63 [.agg (aV v_)] (.tup [.agg (aV r_.1), .cell (vi r_.2)]) := by
 refine fnE hb Tryz.func63 rfl fun r_ hq => ?_
 refine callE hb 9 hq (g_r11_single_ok hb he v_ 3) fun y1 hy1 hq => ?_
 exact retE hb 5 (injO hq).symm
noncomputable def g_r11_To  (v_ : Val) (t_ : Ty) : Option (Val × Int) :=
  (t_r11_to v_ t_).bind fun y1 => bif (!decide (y1.2 = 0)) then some ((Val.mk 0 0 eS [] []), y1.2) else (m_checkE y1.1).bind fun y3 => bif (!decide (y3 = 0)) then some ((Val.mk 0 0 eS [] []), y3) else some (y1.1, 0)
theorem g_r11_To_ok (hb : Base E E0 G) (he : ∀ w, E w → EnvV w)   (v_ : Val) (t_ : Ty) : ∀ r_ : Val × Int, g_r11_To v_ t_ = some r_ →
 Pure E E0 Tryz.prog 84 [.agg (aV v_), .agg (aT t_)] (.tup [.agg (aV r_.1), .cell (vi r_.2)]) := by
 refine fnE hb Tryz.func84 rfl fun r_ hq => ?_
 refine callE hb 11 hq (t_r11_to_ok hb he v_ t_) fun y1 hy1 hq => ?_
 refine ifE hb 13 [15] [] hq (fun hq _ => ?_) (fun hq _ => ?_)
 exact retE hb 8 (injO hq).symm
 refine callE hb 5 hq (rCheck_g hb he y1.1) fun y3 hy3 hq => ?_
 refine ifE hb 8 [21] [] hq (fun hq _ => ?_) (fun hq _ => ?_)
 exact retE hb 8 (injO hq).symm
 exact retE hb 8 (injO hq).symm
noncomputable def g_r19_number  (v_ : Val) : Option (Val × Int) :=
  bif (decide (v_.kind = 0)) then some ((Val.mk 0 0 eS [] []), 6) else (g_r11_To v_ (Ty.mk 2 [] [])).bind fun y2 => some (y2.1, y2.2)
theorem g_r19_number_ok (hb : Base E E0 G) (he : ∀ w, E w → EnvV w)   (v_ : Val) : ∀ r_ : Val × Int, g_r19_number v_ = some r_ →
 Pure E E0 Tryz.prog 64 [.agg (aV v_)] (.tup [.agg (aV r_.1), .cell (vi r_.2)]) := by
 refine fnE hb Tryz.func64 rfl fun r_ hq => ?_
 refine ifE hb 13 [6] [] hq (fun hq _ => ?_) (fun hq _ => ?_)
 exact retE hb 7 (injO hq).symm
 refine callE hb 6 hq (g_r11_To_ok hb he v_ (Ty.mk 2 [] [])) fun y2 hy2 hq => ?_
 exact retE hb 5 (injO hq).symm
noncomputable def g_r19_Index  (v_ : Val) (key_ : Val) : Option (Val × Int) :=
  bif (decide (v_.kind = 6)) then (g_r07_Unknown).bind fun y2 => some (y2, 0) else bif (decide (v_.kind = 5)) then (g_r11_Text key_).bind fun y4 => bif (!decide (y4.2 = 0)) then some ((Val.mk 0 0 eS [] []), y4.2) else bif (decide (y4.1.kind = 6)) then (g_r07_Unknown).bind fun y7 => some (y7, 0) else (g_r19_Attr v_ y4.1.str).bind fun y8 => some (y8.1, y8.2) else bif (!decide (v_.kind = 4)) then some ((Val.mk 0 0 eS [] []), 6) else (g_r19_number key_).bind fun y10 => bif (!decide (y10.2 = 0)) then some ((Val.mk 0 0 eS [] []), y10.2) else bif (decide (y10.1.kind = 6)) then (g_r07_Unknown).bind fun y13 => some (y13, 0) else bif (decide (y10.1.num < 0)) then some ((Val.mk 0 0 eS [] []), 16) else bif (decide (y10.1.num ≥ (v_.items.length : Int))) then some ((Val.mk 0 0 eS [] []), 16) else (idx v_.items y10.1.num).bind fun x16 => some (x16, 0)
theorem g_r19_Index_ok (hb : Base E E0 G) (he : ∀ w, E w → EnvV w)   (v_ : Val) (key_ : Val) : ∀ r_ : Val × Int, g_r19_Index v_ key_ = some r_ →
 Pure E E0 Tryz.prog 37 [.agg (aV v_), .agg (aV key_)] (.tup [.agg (aV r_.1), .cell (vi r_.2)]) := by
 refine fnE hb Tryz.func37 rfl fun r_ hq => ?_
 refine ifE hb 14 [12] [] hq (fun hq _ => ?_) (fun hq _ => ?_)
 refine callE hb 3 hq (g_r07_Unknown_ok hb he ) fun y2 hy2 hq => ?_
 exact retE hb 3 (injO hq).symm
 refine ifE hb 9 [16] [] hq (fun hq _ => ?_) (fun hq _ => ?_)
 refine callE hb 4 hq (g_r11_Text_ok hb he key_) fun y4 hy4 hq => ?_
 refine ifE hb 13 [23] [] hq (fun hq _ => ?_) (fun hq _ => ?_)
 exact retE hb 8 (injO hq).symm
 refine ifE hb 9 [28] [] hq (fun hq _ => ?_) (fun hq _ => ?_)
 refine callE hb 3 hq (g_r07_Unknown_ok hb he ) fun y7 hy7 hq => ?_
 exact retE hb 3 (injO hq).symm
 refine callE hb 7 hq (g_r19_Attr_ok hb he v_ y4.1.str) fun y8 hy8 hq => ?_
 exact retE hb 5 (injO hq).symm
 refine ifE hb 9 [38] [] hq (fun hq _ => ?_) (fun hq _ => ?_)
 exact retE hb 7 (injO hq).symm
 refine callE hb 5 hq (g_r19_number_ok hb he key_) fun y10 hy10 hq => ?_
 refine ifE hb 13 [46] [] hq (fun hq _ => ?_) (fun hq _ => ?_)
 exact retE hb 8 (injO hq).symm
 refine ifE hb 9 [51] [] hq (fun hq _ => ?_) (fun hq _ => ?_)
 refine callE hb 3 hq (g_r07_Unknown_ok hb he ) fun y13 hy13 hq => ?_
 exact retE hb 3 (injO hq).symm
 refine ifE hb 9 [55, 56] [] hq (fun hq _ => ?_) (fun hq _ => ?_)
 refine cpE hb 8 [2, 4, 8, 63] (s' := ⟨none, [pick (bodyOf Tryz.f37) [1, 1, 1, 1, 1, 1, 1, 0, 1], pick (bodyOf Tryz.f37) [1, 1, 1, 1, 1, 1, 1, 1]], [], sl 71 [(2, pt 0), (4, pt 2), (8, pt 3), (63, c1 (vB true))], [bx (aV v_), bx (aV key_), bx zV, bx (aV y10.1)]⟩) ?_
 exact retE hb 7 (injO hq).symm
 refine cpE hb 8 [2, 4, 8, 63] (s' := ⟨none, [pick (bodyOf Tryz.f37) [1, 1, 1, 1, 1, 1, 1, 0, 1], pick (bodyOf Tryz.f37) [1, 1, 1, 1, 1, 1, 1, 1]], [], sl 71 [(2, pt 0), (4, pt 2), (8, pt 3), (63, c1 (vB (decide (y10.1.num ≥ (v_.items.length : Int)))))], [bx (aV v_), bx (aV key_), bx zV, bx (aV y10.1)]⟩) ?_
 refine ifE hb 0 [63] [] hq (fun hq _ => ?_) (fun hq _ => ?_)
 exact retE hb 7 (injO hq).symm
 refine idxE hb flV 8 hq fun x16 hx16 hq => ?_
 exact retE hb 4 (injO hq).symm
noncomputable def g_r11_Truth  (v_ : Val) : Option (Val × Int) :=
  (g_r11_single v_ 1).bind fun y1 => some (y1.1, y1.2)
theorem g_r11_Truth_ok (hb : Base E E0 G) (he : ∀ w, E w → EnvV w)   (v_ : Val) : ∀ r_ : Val × Int, g_r11_Truth v_ = some r_ →
 Pure E E0 Tryz.prog 65 [.agg (aV v_)] (.tup [.agg (aV r_.1), .cell (vi r_.2)]) := by
 refine fnE hb Tryz.func65 rfl fun r_ hq => ?_
 refine callE hb 9 hq (g_r11_single_ok hb he v_ 1) fun y1 hy1 hq => ?_
 exact retE hb 5 (injO hq).symm
noncomputable def g_r19_Unary  (op_ : Int) (v_ : Val) : Option (Val × Int) :=
  bif (!decide (op_ = 1)) then bif (!decide (op_ = 2)) then some ((Val.mk 0 0 eS [] []), 1) else (g_r19_number v_).bind fun y3 => bif (!decide (y3.2 = 0)) then some (y3.1, y3.2) else bif (decide (y3.1.kind = 6)) then some (y3.1, y3.2) else (g_r07_Number (IntKind.i64.wrap (0 - y3.1.num))).bind fun y6 => some (y6, 0) else (g_r19_number v_).bind fun y7 => (g_r11_Truth v_).bind fun y8 => bif (!decide (y8.2 = 0)) then some (y8.1, y8.2) else bif (decide (y8.1.kind = 6)) then some (y8.1, y8.2) else (g_r07_Bool (decide (y8.1.num = 0))).bind fun y11 => some (y11, 0)
theorem g_r19_Unary_ok (hb : Base E E0 G) (he : ∀ w, E w → EnvV w)   (op_ : Int) (v_ : Val) : ∀ r_ : Val × Int, g_r19_Unary op_ v_ = some r_ →
 Pure E E0 Tryz.prog 38 [.cell (vi op_), .agg (aV v_)] (.tup [.agg (aV r_.1), .cell (vi r_.2)]) := by
 refine fnE hb Tryz.func38 rfl fun r_ hq => ?_
 refine ifE hb 12 [9, 10] [] hq (fun hq hc1 => ?_) (fun hq hc1 => ?_)
 refine ifE hb 4 [12, 13] [] hq (fun hq _ => ?_) (fun hq _ => ?_)
 exact retE hb 7 (injO hq).symm
 refine callE hb 5 hq (g_r19_number_ok hb he v_) fun y3 hy3 hq => ?_
 refine knE hb 13 [21] [] (b := (decide (op_ = 1))) (v := false) (not_t hc1) ?_
 refine ifE hb 8 [28, 29] [] hq (fun hq _ => ?_) (fun hq _ => ?_)
 exact retE hb 13 (injO hq).symm
 refine ifE hb 5 [32, 33] [] hq (fun hq _ => ?_) (fun hq _ => ?_)
 exact retE hb 8 (injO hq).symm
 refine knE hb 8 [37] [] (b := (decide (op_ = 1))) (v := false) (not_t hc1) ?_
 refine cpE hb 3 [4, 6] (s' := ⟨none, [pick (bodyOf Tryz.f38) [1, 1, 1, 1, 1, 1, 0], pick (bodyOf Tryz.f38) [1, 1, 1, 1, 1, 1, 1]], [], sl 46 [(4, pt 1), (6, pt 2)], [bx (aV v_), bx zV, bx (aV y3.1)]⟩) ?_
 refine callE hb 4 hq (g_r07_Number_ok hb he (IntKind.i64.wrap (0 - y3.1.num))) fun y6 hy6 hq => ?_
 exact retE hb 3 (injO hq).symm
 refine callE hb 9 hq (g_r19_number_ok hb he v_) fun y7 hy7 hq => ?_
 refine knE hb 13 [21] [] (b := (decide (op_ = 1))) (v := true) (not_f hc1) ?_
 refine callE hb 3 hq (g_r11_Truth_ok hb he v_) fun y8 hy8 hq => ?_
 refine ifE hb 12 [28, 29] [] hq (fun hq _ => ?_) (fun hq _ => ?_)
 exact retE hb 13 (injO hq).symm
 refine ifE hb 5 [32, 33] [] hq (fun hq _ => ?_) (fun hq _ => ?_)
 exact retE hb 8 (injO hq).symm
 refine knE hb 8 [37] [] (b := (decide (op_ = 1))) (v := true) (not_f hc1) ?_
 refine cpE hb 2 [4, 6] (s' := ⟨none, [pick (bodyOf Tryz.f38) [1, 1, 1, 1, 1, 0, 1, 0, 0], pick (bodyOf Tryz.f38) [1, 1, 1, 1, 1, 0, 1, 0, 1], pick (bodyOf Tryz.f38) [1, 1, 1, 1, 1, 1]], [], sl 46 [(4, pt 1), (6, pt 2)], [bx (aV v_), bx zV, bx (aV y8.1)]⟩) ?_
 refine callE hb 4 hq (g_r07_Bool_ok hb he (decide (y8.1.num = 0))) fun y11 hy11 hq => ?_
 exact retE hb 3 (injO hq).symm
noncomputable def g_r19_logic  (a_ : Val) (b_ : Val) (stop_ : Int) : Option (Val × Int) :=
  (g_r11_Truth a_).bind fun y1 => bif (!decide (y1.2 = 0)) then some ((Val.mk 0 0 eS [] []), y1.2) else (g_r11_Truth b_).bind fun y3 => bif (!decide (y3.2 = 0)) then some ((Val.mk 0 0 eS [] []), y3.2) else bif (decide (y1.1.kind = 1)) then bif (decide (y1.1.num = stop_)) then (g_r07_Bool (decide (stop_ = 1))).bind fun y7 => some (y7, 0) else bif (decide (y3.1.kind = 1)) then bif (decide (y3.1.num = stop_)) then (g_r07_Bool (decide (stop_ = 1))).bind fun y10 => some (y10, 0) else bif (decide (y1.1.kind = 6)) then (g_r07_Unknown).bind fun y12 => some (y12, 0) else bif (decide (y3.1.kind = 6)) then (g_r07_Unknown).bind fun y14 => some (y14, 0) else (g_r07_Bool (decide (stop_ = 0))).bind fun y15 => some (y15, 0) else bif (decide (y1.1.kind = 6)) then (g_r07_Unknown).bind fun y17 => some (y17, 0) else bif (decide (y3.1.kind = 6)) then (g_r07_Unknown).bind fun y19 => some (y19, 0) else (g_r07_Bool (decide (stop_ = 0))).bind fun y20 => some (y20, 0) else bif (decide (y3.1.kind = 1)) then bif (decide (y3.1.num = stop_)) then (g_r07_Bool (decide (stop_ = 1))).bind fun y23 => some (y23, 0) else bif (decide (y1.1.kind = 6)) then (g_r07_Unknown).bind fun y25 => some (y25, 0) else bif (decide (y3.1.kind = 6)) then (g_r07_Unknown).bind fun y27 => some (y27, 0) else (g_r07_Bool (decide (stop_ = 0))).bind fun y28 => some (y28, 0) else bif (decide (y1.1.kind = 6)) then (g_r07_Unknown).bind fun y30 => some (y30, 0) else bif (decide (y3.1.kind = 6)) then (g_r07_Unknown).bind fun y32 => some (y32, 0) else (g_r07_Bool (decide (stop_ = 0))).bind fun y33 => some (y33, 0)
theorem g_r19_logic_ok (hb : Base E E0 G) (he : ∀ w, E w → EnvV w)   (a_ : Val) (b_ : Val) (stop_ : Int) : ∀ r_ : Val × Int, g_r19_logic a_ b_ stop_ = some r_ →
 Pure E E0 Tryz.prog 66 [.agg (aV a_), .agg (aV b_), .cell (vi stop_)] (.tup [.agg (aV r_.1), .cell (vi r_.2)]) := by
 refine fnE hb Tryz.func66 rfl fun r_ hq => ?_
 refine callE hb 10 hq (g_r11_Truth_ok hb he a_) fun y1 hy1 hq => ?_
 refine ifE hb 13 [18] [] hq (fun hq _ => ?_) (fun hq _ => ?_)
 exact retE hb 8 (injO hq).symm
 refine callE hb 5 hq (g_r11_Truth_ok hb he b_) fun y3 hy3 hq => ?_
 refine ifE hb 13 [27] [] hq (fun hq _ => ?_) (fun hq _ => ?_)
 exact retE hb 8 (injO hq).symm
 refine ifE hb 9 [32, 33] [] hq (fun hq _ => ?_) (fun hq _ => ?_)
 refine ifE hb 6 [37, 38, 39] [] hq (fun hq _ => ?_) (fun hq _ => ?_)
 refine callE hb 16 hq (g_r07_Bool_ok hb he (decide (stop_ = 1))) fun y7 hy7 hq => ?_
 exact retE hb 3 (injO hq).symm
 refine ifE hb 4 [42, 43] [] hq (fun hq _ => ?_) (fun hq _ => ?_)
 refine cpE hb 7 [2, 6, 8, 10, 49] (s' := ⟨none, [pick (bodyOf Tryz.f66) [1, 1, 1, 1, 1, 0, 1], pick (bodyOf Tryz.f66) [1, 1, 1, 1, 1, 1]], [], sl 65 [(2, c1 (vi stop_)), (6, pt 2), (8, pt 3), (10, pt 4), (49, c1 (vB (decide (y3.1.num = stop_))))], [bx (aV a_), bx (aV b_), bx zV, bx (aV y1.1), bx (aV y3.1)]⟩) ?_
 refine ifE hb 0 [49] [] hq (fun hq _ => ?_) (fun hq _ => ?_)
 refine callE hb 5 hq (g_r07_Bool_ok hb he (decide (stop_ = 1))) fun y10 hy10 hq => ?_
 exact retE hb 3 (injO hq).symm
 refine ifE hb 9 [55, 56] [] hq (fun hq _ => ?_) (fun hq _ => ?_)
 refine callE hb 8 hq (g_r07_Unknown_ok hb he ) fun y12 hy12 hq => ?_
 exact retE hb 3 (injO hq).symm
 refine ifE hb 5 [59, 60] [] hq (fun hq _ => ?_) (fun hq _ => ?_)
 refine callE hb 3 hq (g_r07_Unknown_ok hb he ) fun y14 hy14 hq => ?_
 exact retE hb 3 (injO hq).symm
 refine callE hb 6 hq (g_r07_Bool_ok hb he (decide (stop_ = 0))) fun y15 hy15 hq => ?_
 exact retE hb 3 (injO hq).symm
 refine cpE hb 7 [2, 6, 8, 10, 49] (s' := ⟨none, [pick (bodyOf Tryz.f66) [1, 1, 1, 1, 1, 0, 1], pick (bodyOf Tryz.f66) [1, 1, 1, 1, 1, 1]], [], sl 65 [(2, c1 (vi stop_)), (6, pt 2), (8, pt 3), (10, pt 4), (49, c1 (vB false))], [bx (aV a_), bx (aV b_), bx zV, bx (aV y1.1), bx (aV y3.1)]⟩) ?_
 refine ifE hb 9 [55, 56] [] hq (fun hq _ => ?_) (fun hq _ => ?_)
 refine callE hb 8 hq (g_r07_Unknown_ok hb he ) fun y17 hy17 hq => ?_
 exact retE hb 3 (injO hq).symm
 refine ifE hb 5 [59, 60] [] hq (fun hq _ => ?_) (fun hq _ => ?_)
 refine callE hb 3 hq (g_r07_Unknown_ok hb he ) fun y19 hy19 hq => ?_
 exact retE hb 3 (injO hq).symm
 refine callE hb 6 hq (g_r07_Bool_ok hb he (decide (stop_ = 0))) fun y20 hy20 hq => ?_
 exact retE hb 3 (injO hq).symm
 refine ifE hb 10 [42, 43] [] hq (fun hq _ => ?_) (fun hq _ => ?_)
 refine ifE hb 7 [47, 48, 49] [] hq (fun hq _ => ?_) (fun hq _ => ?_)
 refine cpE hb 2 [2, 6] (s' := ⟨none, [pick (bodyOf Tryz.f66) [1, 1, 1, 1, 1, 0, 1, 0, 0], pick (bodyOf Tryz.f66) [1, 1, 1, 1, 1, 0, 1, 0, 1], pick (bodyOf Tryz.f66) [1, 1, 1, 1, 1, 1]], [], sl 65 [(2, c1 (vi stop_)), (6, pt 2)], [bx (aV a_), bx (aV b_), bx zV, bx (aV y1.1), bx (aV y3.1)]⟩) ?_
 refine callE hb 3 hq (g_r07_Bool_ok hb he (decide (stop_ = 1))) fun y23 hy23 hq => ?_
 exact retE hb 3 (injO hq).symm
 refine cpE hb 4 [2, 6, 8, 10] (s' := ⟨none, [pick (bodyOf Tryz.f66) [1, 1, 1, 1, 1, 1, 0, 0], pick (bodyOf Tryz.f66) [1, 1, 1, 1, 1, 1, 0, 1], pick (bodyOf Tryz.f66) [1, 1, 1, 1, 1, 1, 1]], [], sl 65 [(2, c1 (vi stop_)), (6, pt 2), (8, pt 3), (10, pt 4)], [bx (aV a_), bx (aV b_), bx zV, bx (aV y1.1), bx (aV y3.1)]⟩) ?_
 refine ifE hb 5 [55, 56] [] hq (fun hq _ => ?_) (fun hq _ => ?_)
 refine callE hb 8 hq (g_r07_Unknown_ok hb he ) fun y25 hy25 hq => ?_
 exact retE hb 3 (injO hq).symm
 refine ifE hb 5 [59, 60] [] hq (fun hq _ => ?_) (fun hq _ => ?_)
 refine callE hb 3 hq (g_r07_Unknown_ok hb he ) fun y27 hy27 hq => ?_
 exact retE hb 3 (injO hq).symm
 refine callE hb 6 hq (g_r07_Bool_ok hb he (decide (stop_ = 0))) fun y28 hy28 hq => ?_
 exact retE hb 3 (injO hq).symm
 refine ifE hb 16 [55, 56] [] hq (fun hq _ => ?_) (fun hq _ => ?_)
 refine cpE hb 5 [2, 6, 60] (s' := ⟨none, [pick (bodyOf Tryz.f66) [1, 1, 1, 1, 1, 1, 0, 1], pick (bodyOf Tryz.f66) [1, 1, 1, 1, 1, 1, 1]], [], sl 65 [(2, c1 (vi stop_)), (6, pt 2), (60, c1 (vB true))], [bx (aV a_), bx (aV b_), bx zV, bx (aV y1.1), bx (aV y3.1)]⟩) ?_
 refine callE hb 3 hq (g_r07_Unknown_ok hb he ) fun y30 hy30 hq => ?_
 exact retE hb 3 (injO hq).symm
 refine cpE hb 5 [2, 6, 60] (s' := ⟨none, [pick (bodyOf Tryz.f66) [1, 1, 1, 1, 1, 1, 0, 1], pick (bodyOf Tryz.f66) [1, 1, 1, 1, 1, 1, 1]], [], sl 65 [(2, c1 (vi stop_)), (6, pt 2), (60, c1 (vB (decide (y3.1.kind = 6))))], [bx (aV a_), bx (aV b_), bx zV, bx (aV y1.1), bx (aV y3.1)]⟩) ?_
 refine ifE hb 0 [60] [] hq (fun hq _ => ?_) (fun hq _ => ?_)
 refine callE hb 3 hq (g_r07_Unknown_ok hb he ) fun y32 hy32 hq => ?_
 exact retE hb 3 (injO hq).symm
 refine callE hb 6 hq (g_r07_Bool_ok hb he (decide (stop_ = 0))) fun y33 hy33 hq => ?_
 exact retE hb 3 (injO hq).symm
noncomputable def g_r19_compare  (op_ : Int) (a_ : Int) (b_ : Int) : Option (Val) :=
  bif (decide (op_ = 7)) then (g_r07_Bool (decide (a_ < b_))).bind fun y2 => some (y2) else bif (decide (op_ = 8)) then (g_r07_Bool (decide (a_ ≤ b_))).bind fun y4 => some (y4) else bif (decide (op_ = 9)) then (g_r07_Bool (decide (a_ > b_))).bind fun y6 => some (y6) else (g_r07_Bool (decide (a_ ≥ b_))).bind fun y7 => some (y7)
theorem g_r19_compare_ok (hb : Base E E0 G) (he : ∀ w, E w → EnvV w)   (op_ : Int) (a_ : Int) (b_ : Int) : ∀ r_ : Val, g_r19_compare op_ a_ b_ = some r_ →
 Pure E E0 Tryz.prog 85 [.cell (vi op_), .cell (vi a_), .cell (vi b_)] (.one (.agg (aV r_))) := by
 refine fnE hb Tryz.func85 rfl fun r_ hq => ?_
 refine ifE hb 15 [8, 9] [] hq (fun hq _ => ?_) (fun hq _ => ?_)
 refine callE hb 6 hq (g_r07_Bool_ok hb he (decide (a_ < b_))) fun y2 hy2 hq => ?_
 exact retE hb 2 (injO hq).symm
 refine ifE hb 6 [14, 15] [] hq (fun hq _ => ?_) (fun hq _ => ?_)
 refine callE hb 6 hq (g_r07_Bool_ok hb he (decide (a_ ≤ b_))) fun y4 hy4 hq => ?_
 exact retE hb 2 (injO hq).symm
 refine ifE hb 6 [20, 21] [] hq (fun hq _ => ?_) (fun hq _ => ?_)
 refine callE hb 6 hq (g_r07_Bool_ok hb he (decide (a_ > b_))) fun y6 hy6 hq => ?_
 exact retE hb 2 (injO hq).symm
 refine callE hb 8 hq (g_r07_Bool_ok hb he (decide (a_ ≥ b_))) fun y7 hy7 hq => ?_
 exact retE hb 2 (injO hq).symm
noncomputable def g_r19_compute  (op_ : Int) (a_ : Int) (b_ : Int) : Option (Int × Int) :=
  bif (decide (op_ = 11)) then (m_add a_ b_).bind fun y2 => some (y2.1, y2.2) else bif (decide (op_ = 12)) then (m_sub a_ b_).bind fun y4 => some (y4.1, y4.2) else bif (decide (op_ = 13)) then (m_mul a_ b_).bind fun y6 => some (y6.1, y6.2) else bif (decide (op_ = 14)) then (m_div a_ b_).bind fun y8 => some (y8.1, y8.2) else (m_mod a_ b_).bind fun y9 => some (y9.1, y9.2)
theorem g_r19_compute_ok (hb : Base E E0 G) (he : ∀ w, E w → EnvV w)   (op_ : Int) (a_ : Int) (b_ : Int) : ∀ r_ : Int × Int, g_r19_compute op_ a_ b_ = some r_ →
 Pure E E0 Tryz.prog 86 [.cell (vi op_), .cell (vi a_), .cell (vi b_)] (.tup [.cell (vi r_.1), .cell (vi r_.2)]) := by
 refine fnE hb Tryz.func86 rfl fun r_ hq => ?_
 refine ifE hb 16 [9, 10] [] hq (fun hq _ => ?_) (fun hq _ => ?_)
 refine callE hb 5 hq (rAdd_g hb he a_ b_) fun y2 hy2 hq => ?_
 exact retE hb 5 (injO hq).symm
 refine ifE hb 6 [16, 17] [] hq (fun hq _ => ?_) (fun hq _ => ?_)
 refine callE hb 5 hq (rSub_g hb he a_ b_) fun y4 hy4 hq => ?_
 exact retE hb 5 (injO hq).symm
 refine ifE hb 6 [23, 24] [] hq (fun hq _ => ?_) (fun hq _ => ?_)
 refine callE hb 5 hq (rMul_g hb he a_ b_) fun y6 hy6 hq => ?_
 exact retE hb 5 (injO hq).symm
 refine ifE hb 6 [30, 31] [] hq (fun hq _ => ?_) (fun hq _ => ?_)
 refine callE hb 5 hq (rDiv_g hb he a_ b_) fun y8 hy8 hq => ?_
 exact retE hb 5 (injO hq).symm
 refine callE hb 7 hq (rMod_g hb he a_ b_) fun y9 hy9 hq => ?_
 exact retE hb 5 (injO hq).symm
noncomputable def g_r19_numeric  (op_ : Int) (a_ : Val) (b_ : Val) : Option (Val × Int) :=
  (g_r19_number a_).bind fun y1 => bif (!decide (y1.2 = 0)) then some ((Val.mk 0 0 eS [] []), y1.2) else (g_r19_number b_).bind fun y3 => bif (!decide (y3.2 = 0)) then some ((Val.mk 0 0 eS [] []), y3.2) else bif (decide (y1.1.kind = 6)) then (g_r07_Unknown).bind fun y6 => some (y6, 0) else bif (decide (y3.1.kind = 6)) then (g_r07_Unknown).bind fun y8 => some (y8, 0) else bif (decide (op_ ≤ 10)) then (g_r19_compare op_ y1.1.num y3.1.num).bind fun y10 => some (y10, 0) else (g_r19_compute op_ y1.1.num y3.1.num).bind fun y11 => bif (!decide (y11.2 = 0)) then some ((Val.mk 0 0 eS [] []), y11.2) else (g_r07_Number y11.1).bind fun y13 => some (y13, 0)
theorem g_r19_numeric_ok (hb : Base E E0 G) (he : ∀ w, E w → EnvV w)   (op_ : Int) (a_ : Val) (b_ : Val) : ∀ r_ : Val × Int, g_r19_numeric op_ a_ b_ = some r_ →
 Pure E E0 Tryz.prog 67 [.cell (vi op_), .agg (aV a_), .agg (aV b_)] (.tup [.agg (aV r_.1), .cell (vi r_.2)]) := by
 refine fnE hb Tryz.func67 rfl fun r_ hq => ?_
 refine callE hb 10 hq (g_r19_number_ok hb he a_) fun y1 hy1 hq => ?_
 refine ifE hb 13 [20] [] hq (fun hq _ => ?_) (fun hq _ => ?_)
 exact retE hb 8 (injO hq).symm
 refine callE hb 5 hq (g_r19_number_ok hb he b_) fun y3 hy3 hq => ?_
 refine ifE hb 13 [29] [] hq (fun hq _ => ?_) (fun hq _ => ?_)
 exact retE hb 8 (injO hq).symm
 refine ifE hb 9 [34, 35] [] hq (fun hq _ => ?_) (fun hq _ => ?_)
 refine callE hb 8 hq (g_r07_Unknown_ok hb he ) fun y6 hy6 hq => ?_
 exact retE hb 3 (injO hq).symm
 refine ifE hb 5 [38, 39] [] hq (fun hq _ => ?_) (fun hq _ => ?_)
 refine callE hb 3 hq (g_r07_Unknown_ok hb he ) fun y8 hy8 hq => ?_
 exact retE hb 3 (injO hq).symm
 refine ifE hb 8 [42] [] hq (fun hq _ => ?_) (fun hq _ => ?_)
 refine cpE hb 2 [0, 6, 8, 10] (s' := ⟨none, [pick (bodyOf Tryz.f67) [1, 1, 1, 1, 1, 1, 0, 1, 0, 0], pick (bodyOf Tryz.f67) [1, 1, 1, 1, 1, 1, 0, 1, 0, 1], pick (bodyOf Tryz.f67) [1, 1, 1, 1, 1, 1, 1]], [], sl 64 [(0, c1 (vi op_)), (6, pt 2), (8, pt 3), (10, pt 4)], [bx (aV a_), bx (aV b_), bx zV, bx (aV y1.1), bx (aV y3.1)]⟩) ?_
 refine callE hb 6 hq (g_r19_compare_ok hb he op_ y1.1.num y3.1.num) fun y10 hy10 hq => ?_
 exact retE hb 3 (injO hq).symm
 refine cpE hb 3 [0, 6, 8, 10] (s' := ⟨none, [pick (bodyOf Tryz.f67) [1, 1, 1, 1, 1, 1, 1, 0], pick (bodyOf Tryz.f67) [1, 1, 1, 1, 1, 1, 1, 1]], [], sl 64 [(0, c1 (vi op_)), (6, pt 2), (8, pt 3), (10, pt 4)], [bx (aV a_), bx (aV b_), bx zV, bx (aV y1.1), bx (aV y3.1)]⟩) ?_
 refine callE hb 6 hq (g_r19_compute_ok hb he op_ y1.1.num y3.1.num) fun y11 hy11 hq => ?_
 refine ifE hb 12 [59] [] hq (fun hq _ => ?_) (fun hq _ => ?_)
 exact retE hb 8 (injO hq).symm
 refine callE hb 5 hq (g_r07_Number_ok hb he y11.1) fun y13 hy13 hq => ?_
 exact retE hb 3 (injO hq).symm
noncomputable def g_r19_equal_L2 (r_r19_equal : Val → Val → Option (Int)) (a_ : Val) (b_ : Val) (s2 : Int × Int) : Option ((Int × Int) ⊕ ((Int) ⊕ (Int))) :=
  bif (decide (s2.2 < (a_.items.length : Int))) then (idx a_.items s2.2).bind fun x13 => (idx b_.items s2.2).bind fun x14 => (r_r19_equal x13 x14).bind fun y15 => bif (decide (y15 = 0)) then some (.inr (.inr (0))) else bif (decide (y15 = 2)) then some (.inl (2, (IntKind.i64.wrap (s2.2 + 1)))) else some (.inl (s2.1, (IntKind.i64.wrap (s2.2 + 1)))) else some (.inr (.inr (s2.1)))
noncomputable def g_r19_equal_L1 (r_r19_equal : Val → Val → Option (Int)) (a_ : Val) (b_ : Val) (s1 : Int) : Option ((Int) ⊕ (Int)) :=
  bif (decide (s1 < (a_.keys.length : Int))) then (idx a_.keys s1).bind fun x9 => (idx b_.keys s1).bind fun x10 => bif (!decide (x9 = x10)) then some (.inr (0)) else some (.inl (IntKind.i64.wrap (s1 + 1))) else loopO (g_r19_equal_L2 r_r19_equal a_ b_) (1, 0)
noncomputable def g_r19_equal (r_r19_equal : Val → Val → Option (Int)) (a_ : Val) (b_ : Val) : Option (Int) :=
  bif (decide (a_.kind = 6)) then some (2) else bif (decide (b_.kind = 6)) then some (2) else bif (!decide (a_.kind = b_.kind)) then some (0) else bif (!decide (a_.num = b_.num)) then some (0) else bif (!decide (a_.str = b_.str)) then some (0) else bif (!decide ((a_.items.length : Int) = (b_.items.length : Int))) then some (0) else bif (!decide ((a_.keys.length : Int) = (b_.keys.length : Int))) then some (0) else loopO (g_r19_equal_L1 r_r19_equal a_ b_) 0
theorem g_r19_equal_ok (hb : Base E E0 G) (he : ∀ w, E w → EnvV w) (r_r19_equal : Val → Val → Option (Int)) (hr_r19_equal : ∀ (a0 : Val) (a1 : Val) (r : Int), r_r19_equal a0 a1 = some r → Pure E E0 Tryz.prog 68 [.agg (aV a0), .agg (aV a1)] (c1 (vi r))) (a_ : Val) (b_ : Val) : ∀ r_ : Int, g_r19_equal r_r19_equal a_ b_ = some r_ →
 Pure E E0 Tryz.prog 68 [.agg (aV a_), .agg (aV b_)] (c1 (vi r_)) := by
 refine fnE hb Tryz.func68 rfl fun r_ hq => ?_
 refine ifE hb 13 [11, 12] [] hq (fun hq _ => ?_) (fun hq _ => ?_)
 exact retE hb 10 (injO hq).symm
 refine ifE hb 5 [15, 16] [] hq (fun hq _ => ?_) (fun hq _ => ?_)
 exact retE hb 5 (injO hq).symm
 refine ifE hb 11 [21, 22] [] hq (fun hq _ => ?_) (fun hq _ => ?_)
 exact retE hb 37 (injO hq).symm
 refine ifE hb 7 [27, 28, 29] [] hq (fun hq _ => ?_) (fun hq _ => ?_)
 exact retE hb 30 (injO hq).symm
 refine ifE hb 7 [34, 35, 36] [] hq (fun hq _ => ?_) (fun hq _ => ?_)
 exact retE hb 23 (injO hq).symm
 refine ifE hb 9 [43, 44, 45] [] hq (fun hq _ => ?_) (fun hq _ => ?_)
 exact retE hb 14 (injO hq).symm
 refine ifE hb 9 [52, 53] [] hq (fun hq _ => ?_) (fun hq _ => ?_)
 refine cpE hb 2 [] (s' := ⟨none, [pick (bodyOf Tryz.f68) [1, 1, 0, 1, 0, 0], pick (bodyOf Tryz.f68) [1, 1, 0, 1, 0, 1], pick (bodyOf Tryz.f68) [1, 1, 1]], [], sl 95 [], [bx (aV a_), bx (aV b_)]⟩) ?_
 exact retE hb 3 (injO hq).symm
 refine cpE hb 4 [2, 3] (s' := ⟨none, [pick (bodyOf Tryz.f68) [1, 1, 1, 0, 0], pick (bodyOf Tryz.f68) [1, 1, 1, 0, 1], pick (bodyOf Tryz.f68) [1, 1, 1, 1]], [], sl 95 [(2, pt 0), (3, pt 1)], [bx (aV a_), bx (aV b_)]⟩) ?_
 refine loopE hb 4 (g_r19_equal_L1 r_r19_equal a_ b_) (fun s1 => sl 95 [(2, pt 0), (3, pt 1), (5, c1 (vi s1))]) (fun s1 => [bx (aV a_), bx (aV b_)]) [2, 3, 5] [] 2 (s0 := 0) ⟨(by kernel_rfl), (by kernel_rfl), trivial⟩ hq (fun s1 x1 hq hn1 he1 => ?_)
 refine ifE hb 9 [58] [] hq (fun hq _ => ?_) (fun hq _ => ?_)
 refine drawE hb mixed 5 10 [] ?_
 refine idxE hb flS 3 hq fun x9 hx9 hq => ?_
 refine idxE hb flS 4 hq fun x10 hx10 hq => ?_
 refine ifE hb 4 [71] [] hq (fun hq _ => ?_) (fun hq _ => ?_)
 exact retE hb 5 (he1 _ (injO hq))
 exact backE hb 8 [2, 3, 5] [] 2 (hn1 _ (injO hq)) ⟨(by kernel_rfl), (by kernel_rfl), trivial⟩
 refine loopE hb 12 (g_r19_equal_L2 r_r19_equal a_ b_) (fun s2 => sl 95 [(2, pt 0), (3, pt 1), (6, c1 (vi s2.1)), (7, c1 (vi s2.2))]) (fun s2 => [bx (aV a_), bx (aV b_)]) [2, 3, 6, 7] [] 2 (s0 := (1, 0)) ⟨(by kernel_rfl), (by kernel_rfl), trivial⟩ hq (fun s2 x2 hq hn2 he2 => ?_)
 refine ifE hb 9 [76] [] hq (fun hq _ => ?_) (fun hq _ => ?_)
 refine drawE hb mixed 5 10 [] ?_
 refine idxE hb flV 3 hq fun x13 hx13 hq => ?_
 refine idxE hb flV 4 hq fun x14 hx14 hq => ?_
 refine callE hb 2 hq (hr_r19_equal x13 x14) fun y15 hy15 hq => ?_
 refine ifE hb 8 [91] [] hq (fun hq _ => ?_) (fun hq _ => ?_)
 refine cpE hb 2 [] (s' := ⟨none, [pick (bodyOf Tryz.f68) [1, 1, 1, 1, 1, 0, 1, 0, 0, 1, 0, 0, 1, 0, 1, 0, 0], pick (bodyOf Tryz.f68) [1, 1, 1, 1, 1, 0, 1, 0, 0, 1, 0, 0, 1, 0, 1, 0, 1], pick (bodyOf Tryz.f68) [1, 1, 1, 1, 1, 0, 1, 0, 0, 1, 0, 0, 1, 1]], [(3, [pick (bodyOf Tryz.f68) [1, 1, 1, 1, 1, 0, 1, 0, 0, 1, 1], pick (bodyOf Tryz.f68) [1, 1, 1, 1, 1, 0, 1, 0]]), (2, [pick (bodyOf Tryz.f68) [1, 1, 1, 1, 1, 1]])], sl 95 [], [bx (aV a_), bx (aV b_)]⟩) ?_
 exact retE hb 3 (he1 _ ((he2 _ (injO hq)).symm))
 refine cpE hb 3 [2, 3, 6, 7, 8] (s' := ⟨none, [pick (bodyOf Tryz.f68) [1, 1, 1, 1, 1, 0, 1, 0, 0, 1, 0, 0, 1, 1, 0], pick (bodyOf Tryz.f68) [1, 1, 1, 1, 1, 0, 1, 0, 0, 1, 0, 0, 1, 1, 1]], [(3, [pick (bodyOf Tryz.f68) [1, 1, 1, 1, 1, 0, 1, 0, 0, 1, 1], pick (bodyOf Tryz.f68) [1, 1, 1, 1, 1, 0, 1, 0]]), (2, [pick (bodyOf Tryz.f68) [1, 1, 1, 1, 1, 1]])], sl 95 [(2, pt 0), (3, pt 1), (6, c1 (vi s2.1)), (7, c1 (vi s2.2)), (8, c1 (vi y15))], [bx (aV a_), bx (aV b_)]⟩) ?_
 refine ifE hb 4 [93] [] hq (fun hq _ => ?_) (fun hq _ => ?_)
 exact backE hb 10 [2, 3, 6, 7] [] 2 (hn2 _ (injO hq)) ⟨(by kernel_rfl), (by kernel_rfl), trivial⟩
 exact backE hb 8 [2, 3, 6, 7] [] 2 (hn2 _ (injO hq)) ⟨(by kernel_rfl), (by kernel_rfl), trivial⟩
 exact retE hb 7 (he1 _ ((he2 _ (injO hq)).symm))
noncomputable def t_r19_equal_step (rec : Val → Val → Option (Int)) (a : Val) (b : Val) : Option (Int) :=
  g_r19_equal (fun a0 a1 => rec a0 a1) a b
noncomputable def t_r19_equal (a0 : Val) (a1 : Val) : Option (Int) := tieF relV wfV t_r19_equal_step a0 a1
theorem t_r19_equal_ok (hb : Base E E0 G) (he : ∀ w, E w → EnvV w) (a0 : Val) (a1 : Val) (r : Int) (hq : t_r19_equal a0 a1 = some r) : Pure E E0 Tryz.prog 68 [.agg (aV a0), .agg (aV a1)] (c1 (vi r)) :=
  tieF_ok (C := fun a b r => Pure E E0 Tryz.prog 68 [.agg (aV a), .agg (aV b)] (c1 (vi r))) (fun rec hr a b r hq => g_r19_equal_ok hb he (fun a0 a1 => rec a0 a1) (fun a0 a1 r e => hr a0 a1 r e) a b r hq) a0 a1 r hq
noncomputable def g_r19_Binary  (op_ : Int) (a_ : Val) (b_ : Val) : Option (Val × Int) :=
  bif (decide (op_ < 3)) then some ((Val.mk 0 0 eS [] []), 1) else bif (decide (op_ > 15)) then some ((Val.mk 0 0 eS [] []), 1) else bif (decide (op_ = 3)) then (g_r19_logic a_ b_ 1).bind fun y4 => some (y4.1, y4.2) else bif (decide (op_ = 4)) then (g_r19_logic a_ b_ 0).bind fun y6 => some (y6.1, y6.2) else bif (decide (op_ > 6)) then (g_r19_numeric op_ a_ b_).bind fun y8 => some (y8.1, y8.2) else (t_r19_equal a_ b_).bind fun y9 => bif (decide (y9 = 2)) then (g_r07_Unknown).bind fun y11 => some (y11, 0) else (g_r07_Bool ((decide (y9 = 1)) == (decide (op_ = 5)))).bind fun y12 => some (y12, 0)
theorem g_r19_Binary_ok (hb : Base E E0 G) (he : ∀ w, E w → EnvV w)   (op_ : Int) (a_ : Val) (b_ : Val) : ∀ r_ : Val × Int, g_r19_Binary op_ a_ b_ = some r_ →
 Pure E E0 Tryz.prog 39 [.cell (vi op_), .agg (aV a_), .agg (aV b_)] (.tup [.agg (aV r_.1), .cell (vi r_.2)]) := by
 refine fnE hb Tryz.func39 rfl fun r_ hq => ?_
 refine ifE hb 14 [11, 12] [] hq (fun hq _ => ?_) (fun hq _ => ?_)
 exact retE hb 12 (injO hq).symm
 refine ifE hb 5 [9, 14, 15] [] hq (fun hq _ => ?_) (fun hq _ => ?_)
 exact retE hb 7 (injO hq).symm
 refine ifE hb 7 [17, 19] [] hq (fun hq _ => ?_) (fun hq _ => ?_)
 refine callE hb 5 hq (g_r19_logic_ok hb he a_ b_ 1) fun y4 hy4 hq => ?_
 exact retE hb 5 (injO hq).symm
 refine ifE hb 7 [25, 27] [] hq (fun hq _ => ?_) (fun hq _ => ?_)
 refine callE hb 5 hq (g_r19_logic_ok hb he a_ b_ 0) fun y6 hy6 hq => ?_
 exact retE hb 5 (injO hq).symm
 refine ifE hb 7 [33, 35] [] hq (fun hq _ => ?_) (fun hq _ => ?_)
 refine callE hb 6 hq (g_r19_numeric_ok hb he op_ a_ b_) fun y8 hy8 hq => ?_
 exact retE hb 5 (injO hq).symm
 refine callE hb 7 hq (t_r19_equal_ok hb he a_ b_) fun y9 hy9 hq => ?_
 refine ifE hb 8 [46] [] hq (fun hq _ => ?_) (fun hq _ => ?_)
 refine cpE hb 2 [6] (s' := ⟨none, [pick (bodyOf Tryz.f39) [1, 1, 1, 0, 1, 0, 0], pick (bodyOf Tryz.f39) [1, 1, 1, 0, 1, 0, 1], pick (bodyOf Tryz.f39) [1, 1, 1, 1]], [], sl 54 [(6, pt 2)], [bx (aV a_), bx (aV b_), bx zV]⟩) ?_
 refine callE hb 1 hq (g_r07_Unknown_ok hb he ) fun y11 hy11 hq => ?_
 exact retE hb 3 (injO hq).symm
 refine cpE hb 3 [0, 6, 8] (s' := ⟨none, [pick (bodyOf Tryz.f39) [1, 1, 1, 1, 0], pick (bodyOf Tryz.f39) [1, 1, 1, 1, 1]], [], sl 54 [(0, c1 (vi op_)), (6, pt 2), (8, c1 (vi y9))], [bx (aV a_), bx (aV b_), bx zV]⟩) ?_
 refine callE hb 6 hq (g_r07_Bool_ok hb he ((decide (y9 = 1)) == (decide (op_ = 5)))) fun y12 hy12 hq => ?_
 exact retE hb 3 (injO hq).symm
noncomputable def g_r07_Known_L1 (r_r07_Known : Val → Option (Bool)) (v_ : Val) (s1 : Int) : Option ((Int) ⊕ (Bool)) :=
  bif (decide (s1 < (v_.items.length : Int))) then (idx v_.items s1).bind fun x3 => (r_r07_Known x3).bind fun y4 => bif (!y4) then some (.inr (false)) else some (.inl (IntKind.i64.wrap (s1 + 1))) else some (.inr (true))
noncomputable def g_r07_Known (r_r07_Known : Val → Option (Bool)) (v_ : Val) : Option (Bool) :=
  bif (decide (v_.kind = 6)) then some (false) else loopO (g_r07_Known_L1 r_r07_Known v_) 0
theorem g_r07_Known_ok (hb : Base E E0 G) (he : ∀ w, E w → EnvV w) (r_r07_Known : Val → Option (Bool)) (hr_r07_Known : ∀ (a0 : Val) (r : Bool), r_r07_Known a0 = some r → Pure E E0 Tryz.prog 17 [.agg (aV a0)] (c1 (vB r))) (v_ : Val) : ∀ r_ : Bool, g_r07_Known r_r07_Known v_ = some r_ →
 Pure E E0 Tryz.prog 17 [.agg (aV v_)] (c1 (vB r_)) := by
 refine fnE hb Tryz.func17 rfl fun r_ hq => ?_
 refine ifE hb 12 [6] [] hq (fun hq _ => ?_) (fun hq _ => ?_)
 exact retE hb 5 (injO hq).symm
 refine loopE hb 8 (g_r07_Known_L1 r_r07_Known v_) (fun s1 => sl 21 [(1, pt 0), (3, c1 (vi s1))]) (fun s1 => [bx (aV v_)]) [1, 3] [] 1 (s0 := 0) ⟨(by kernel_rfl), trivial⟩ hq (fun s1 x1 hq hn1 he1 => ?_)
 refine ifE hb 9 [11] [] hq (fun hq _ => ?_) (fun hq _ => ?_)
 refine idxE hb flV 9 hq fun x3 hx3 hq => ?_
 refine callE hb 1 hq (hr_r07_Known x3) fun y4 hy4 hq => ?_
 refine ifE hb 2 [20] [] hq (fun hq _ => ?_) (fun hq _ => ?_)
 exact retE hb 5 (he1 _ (injO hq))
 exact backE hb 8 [1, 3] [] 1 (hn1 _ (injO hq)) ⟨(by kernel_rfl), trivial⟩
 exact retE hb 6 (he1 _ (injO hq))
noncomputable def t_r07_Known_step (rec : Val → Unit → Option (Bool)) (a : Val) (b : Unit) : Option (Bool) :=
  g_r07_Known (fun a0 => rec a0 ()) a
noncomputable def t_r07_Known (a0 : Val) : Option (Bool) := tieF relV wfV t_r07_Known_step a0 ()
theorem t_r07_Known_ok (hb : Base E E0 G) (he : ∀ w, E w → EnvV w) (a0 : Val) (r : Bool) (hq : t_r07_Known a0 = some r) : Pure E E0 Tryz.prog 17 [.agg (aV a0)] (c1 (vB r)) :=
  tieF_ok (C := fun a b r => Pure E E0 Tryz.prog 17 [.agg (aV a)] (c1 (vB r))) (fun rec hr a b r hq => g_r07_Known_ok hb he (fun a0 => rec a0 ()) (fun a0 r e => hr a0 () r e) a r hq) a0 () r hq
noncomputable def g_r19_Choose  (cond_ : Val) (a_ : Val) (b_ : Val) : Option (Val × Int) :=
  (g_r11_Truth cond_).bind fun y1 => bif (!decide (y1.2 = 0)) then some ((Val.mk 0 0 eS [] []), y1.2) else bif (decide (y1.1.kind = 1)) then bif (decide (y1.1.num = 1)) then some (a_, 0) else some (b_, 0) else (t_r07_Known a_).bind fun y5 => bif y5 then (t_r07_Equal a_ b_).bind fun y7 => bif y7 then some (a_, 0) else (g_r07_Unknown).bind fun y9 => some (y9, 0) else (g_r07_Unknown).bind fun y10 => some (y10, 0)
theorem g_r19_Choose_ok (hb : Base E E0 G) (he : ∀ w, E w → EnvV w)   (cond_ : Val) (a_ : Val) (b_ : Val) : ∀ r_ : Val × Int, g_r19_Choose cond_ a_ b_ = some r_ →
 Pure E E0 Tryz.prog 40 [.agg (aV cond_), .agg (aV a_), .agg (aV b_)] (.tup [.agg (aV r_.1), .cell (vi r_.2)]) := by
 refine fnE hb Tryz.func40 rfl fun r_ hq => ?_
 refine callE hb 11 hq (g_r11_Truth_ok hb he cond_) fun y1 hy1 hq => ?_
 refine ifE hb 13 [16] [] hq (fun hq _ => ?_) (fun hq _ => ?_)
 exact retE hb 8 (injO hq).symm
 refine ifE hb 9 [21, 22] [] hq (fun hq hc3 => ?_) (fun hq hc3 => ?_)
 refine ifE hb 5 [25, 26] [] hq (fun hq _ => ?_) (fun hq _ => ?_)
 exact retE hb 7 (injO hq).symm
 refine knE hb 9 [30] [] (b := (decide (y1.1.kind = 1))) (v := true) hc3 ?_
 exact retE hb 7 (injO hq).symm
 refine knE hb 14 [30] [] (b := (decide (y1.1.kind = 1))) (v := false) hc3 ?_
 refine callE hb 6 hq (t_r07_Known_ok hb he a_) fun y5 hy5 hq => ?_
 refine ifE hb 1 [33, 34] [] hq (fun hq _ => ?_) (fun hq _ => ?_)
 refine callE hb 2 hq (t_r07_Equal_ok hb he a_ b_) fun y7 hy7 hq => ?_
 refine cpE hb 2 [4, 6, 38] (s' := ⟨none, [pick (bodyOf Tryz.f40) [1, 1, 1, 1, 1, 0, 1], pick (bodyOf Tryz.f40) [1, 1, 1, 1, 1, 1]], [], sl 41 [(4, pt 1), (6, pt 3), (38, c1 (vB y7))], [bx (aV cond_), bx (aV a_), bx (aV b_), bx zV, bx (aV y1.1)]⟩) ?_
 refine ifE hb 0 [38] [] hq (fun hq _ => ?_) (fun hq _ => ?_)
 exact retE hb 7 (injO hq).symm
 refine callE hb 4 hq (g_r07_Unknown_ok hb he ) fun y9 hy9 hq => ?_
 exact retE hb 3 (injO hq).symm
 refine callE hb 9 hq (g_r07_Unknown_ok hb he ) fun y10 hy10 hq => ?_
 exact retE hb 3 (injO hq).symm
noncomputable def g_l19_said  (c_ : CallG) : Option (Val × Int) :=
  bif (decide (c_.kind = 0)) then (g_r19_Attr c_.a c_.name).bind fun y2 => some (y2.1, y2.2) else bif (decide (c_.kind = 1)) then (g_r19_Index c_.a c_.b).bind fun y4 => some (y4.1, y4.2) else bif (decide (c_.kind = 2)) then (g_r19_Unary c_.op c_.a).bind fun y6 => some (y6.1, y6.2) else bif (decide (c_.kind = 3)) then (g_r19_Binary c_.op c_.a c_.b).bind fun y8 => some (y8.1, y8.2) else (g_r19_Choose c_.a c_.b c_.c).bind fun y9 => some (y9.1, y9.2)
theorem g_l19_said_ok (hb : Base E E0 G) (he : ∀ w, E w → EnvV w)   (c_ : CallG) : ∀ r_ : Val × Int, g_l19_said c_ = some r_ →
 Pure E E0 Tryz.prog 12 [.agg [vi c_.kind, vi c_.op, vS c_.name, vi c_.a.kind, vi c_.a.num, vS c_.a.str, vL flV c_.a.items, vL flS c_.a.keys, vi c_.b.kind, vi c_.b.num, vS c_.b.str, vL flV c_.b.items, vL flS c_.b.keys, vi c_.c.kind, vi c_.c.num, vS c_.c.str, vL flV c_.c.items, vL flS c_.c.keys]] (.tup [.agg (aV r_.1), .cell (vi r_.2)]) := by
 refine fnE hb Tryz.func12 rfl fun r_ hq => ?_
 refine ifE hb 18 [6, 7] [] hq (fun hq _ => ?_) (fun hq _ => ?_)
 refine callE hb 7 hq (g_r19_Attr_ok hb he c_.a c_.name) fun y2 hy2 hq => ?_
 exact retE hb 5 (injO hq).symm
 refine ifE hb 6 [15, 16] [] hq (fun hq _ => ?_) (fun hq _ => ?_)
 refine callE hb 7 hq (g_r19_Index_ok hb he c_.a c_.b) fun y4 hy4 hq => ?_
 exact retE hb 5 (injO hq).symm
 refine ifE hb 6 [24, 25] [] hq (fun hq _ => ?_) (fun hq _ => ?_)
 refine callE hb 7 hq (g_r19_Unary_ok hb he c_.op c_.a) fun y6 hy6 hq => ?_
 exact retE hb 5 (injO hq).symm
 refine ifE hb 6 [33, 34] [] hq (fun hq _ => ?_) (fun hq _ => ?_)
 refine callE hb 9 hq (g_r19_Binary_ok hb he c_.op c_.a c_.b) fun y8 hy8 hq => ?_
 exact retE hb 5 (injO hq).symm
 refine callE hb 11 hq (g_r19_Choose_ok hb he c_.a c_.b c_.c) fun y9 hy9 hq => ?_
 exact retE hb 5 (injO hq).symm
noncomputable def g_l19_OpsCalls  (c_ : CallG) : Option (Bool) :=
  (g_l19_valid [c_.a, c_.b, c_.c]).bind fun y1 => bif (!y1) then (g_l19_awake).bind fun y3 => some (y3) else (g_l19_do c_).bind fun y4 => (g_l19_said c_).bind fun y5 => bif (decide (y4.2 = y5.2)) then (t_r07_Equal y4.1 y5.1).bind fun y7 => bif y7 then (g_l19_awake).bind fun y9 => some (y9) else some (false) else some (false)
theorem g_l19_OpsCalls_ok (hb : Base E E0 G) (he : ∀ w, E w → EnvV w)   (c_ : CallG) : ∀ r_ : Bool, g_l19_OpsCalls c_ = some r_ →
 Pure E E0 Tryz.prog 3 [.agg [vi c_.kind, vi c_.op, vS c_.name, vi c_.a.kind, vi c_.a.num, vS c_.a.str, vL flV c_.a.items, vL flS c_.a.keys, vi c_.b.kind, vi c_.b.num, vS c_.b.str, vL flV c_.b.items, vL flS c_.b.keys, vi c_.c.kind, vi c_.c.num, vS c_.c.str, vL flV c_.c.items, vL flS c_.c.keys]] (c1 (vB r_)) := by
 refine fnE hb Tryz.func3 rfl fun r_ hq => ?_
 have hp := (g_l19_valid_ok hb he [c_.a, c_.b, c_.c])
 simp only [aV, aT, kind_mk, num_mk, str_mk, items_mk, keys_mk, Ty.kind_mk, Ty.elems_mk, Ty.names_mk, vL_one, vL_two, vL_three, vL_four, vL_five, vL_six] at hp
 refine callE hb 15 hq hp fun y1 hy1 hq => ?_
 refine ifE hb 2 [15] [] hq (fun hq _ => ?_) (fun hq _ => ?_)
 refine callE hb 3 hq (g_l19_awake_ok hb he ) fun y3 hy3 hq => ?_
 exact retE hb 2 (injO hq).symm
 refine callE hb 5 hq (g_l19_do_ok hb he c_) fun y4 hy4 hq => ?_
 refine callE hb 10 hq (g_l19_said_ok hb he c_) fun y5 hy5 hq => ?_
 refine ifE hb 13 [29, 30] [] hq (fun hq _ => ?_) (fun hq _ => ?_)
 refine callE hb 2 hq (t_r07_Equal_ok hb he y4.1 y5.1) fun y7 hy7 hq => ?_
 refine ifE hb 2 [33, 34, 35] [] hq (fun hq _ => ?_) (fun hq _ => ?_)
 refine callE hb 0 hq (g_l19_awake_ok hb he ) fun y9 hy9 hq => ?_
 exact retE hb 3 (injO hq).symm
 exact retE hb 4 (injO hq).symm
 exact retE hb 9 (injO hq).symm
noncomputable def g_r07_Refines_L2 (r_r07_Refines : Val → Val → Option (Bool)) (a_ : Val) (b_ : Val) (s2 : Int) : Option ((Int) ⊕ ((Int) ⊕ (Bool))) :=
  bif (decide (s2 < (a_.items.length : Int))) then (idx a_.items s2).bind fun x12 => (idx b_.items s2).bind fun x13 => (r_r07_Refines x12 x13).bind fun y14 => bif (!y14) then some (.inr (.inr (false))) else some (.inl (IntKind.i64.wrap (s2 + 1))) else some (.inr (.inr (true)))
noncomputable def g_r07_Refines_L1 (r_r07_Refines : Val → Val → Option (Bool)) (a_ : Val) (b_ : Val) (s1 : Int) : Option ((Int) ⊕ (Bool)) :=
  bif (decide (s1 < (a_.keys.length : Int))) then (idx a_.keys s1).bind fun x8 => (idx b_.keys s1).bind fun x9 => bif (!decide (x8 = x9)) then some (.inr (false)) else some (.inl (IntKind.i64.wrap (s1 + 1))) else loopO (g_r07_Refines_L2 r_r07_Refines a_ b_) 0
noncomputable def g_r07_Refines (r_r07_Refines : Val → Val → Option (Bool)) (a_ : Val) (b_ : Val) : Option (Bool) :=
  bif (decide (b_.kind = 6)) then some (true) else bif (!decide (a_.kind = b_.kind)) then some (false) else bif (!decide (a_.num = b_.num)) then some (false) else bif (!decide (a_.str = b_.str)) then some (false) else bif (!decide ((a_.items.length : Int) = (b_.items.length : Int))) then some (false) else bif (!decide ((a_.keys.length : Int) = (b_.keys.length : Int))) then some (false) else loopO (g_r07_Refines_L1 r_r07_Refines a_ b_) 0
theorem g_r07_Refines_ok (hb : Base E E0 G) (he : ∀ w, E w → EnvV w) (r_r07_Refines : Val → Val → Option (Bool)) (hr_r07_Refines : ∀ (a0 : Val) (a1 : Val) (r : Bool), r_r07_Refines a0 a1 = some r → Pure E E0 Tryz.prog 14 [.agg (aV a0), .agg (aV a1)] (c1 (vB r))) (a_ : Val) (b_ : Val) : ∀ r_ : Bool, g_r07_Refines r_r07_Refines a_ b_ = some r_ →
 Pure E E0 Tryz.prog 14 [.agg (aV a_), .agg (aV b_)] (c1 (vB r_)) := by
 refine fnE hb Tryz.func14 rfl fun r_ hq => ?_
 refine ifE hb 13 [9] [] hq (fun hq _ => ?_) (fun hq _ => ?_)
 exact retE hb 5 (injO hq).symm
 refine ifE hb 11 [14, 15] [] hq (fun hq _ => ?_) (fun hq _ => ?_)
 exact retE hb 37 (injO hq).symm
 refine ifE hb 7 [20, 21, 22] [] hq (fun hq _ => ?_) (fun hq _ => ?_)
 exact retE hb 30 (injO hq).symm
 refine ifE hb 7 [27, 28, 29] [] hq (fun hq _ => ?_) (fun hq _ => ?_)
 exact retE hb 23 (injO hq).symm
 refine ifE hb 9 [36, 37, 38] [] hq (fun hq _ => ?_) (fun hq _ => ?_)
 exact retE hb 14 (injO hq).symm
 refine ifE hb 9 [45, 46] [] hq (fun hq _ => ?_) (fun hq _ => ?_)
 exact retE hb 5 (injO hq).symm
 refine cpE hb 8 [2, 3, 5] (s' := ⟨none, [pick (bodyOf Tryz.f14) [1, 1, 1, 0, 1, 0]], [(0, [pick (bodyOf Tryz.f14) [1, 1, 1, 1]])], sl 84 [(2, pt 0), (3, pt 1), (5, c1 (vi 0))], [bx (aV a_), bx (aV b_)]⟩) ?_
 refine loopE hb 0 (g_r07_Refines_L1 r_r07_Refines a_ b_) (fun s1 => sl 84 [(2, pt 0), (3, pt 1), (5, c1 (vi s1))]) (fun s1 => [bx (aV a_), bx (aV b_)]) [2, 3, 5] [] 2 (s0 := 0) ⟨(by kernel_rfl), (by kernel_rfl), trivial⟩ hq (fun s1 x1 hq hn1 he1 => ?_)
 refine ifE hb 9 [51] [] hq (fun hq _ => ?_) (fun hq _ => ?_)
 refine drawE hb mixed 5 10 [] ?_
 refine idxE hb flS 3 hq fun x8 hx8 hq => ?_
 refine idxE hb flS 4 hq fun x9 hx9 hq => ?_
 refine ifE hb 4 [64] [] hq (fun hq _ => ?_) (fun hq _ => ?_)
 exact retE hb 5 (he1 _ (injO hq))
 exact backE hb 8 [2, 3, 5] [] 2 (hn1 _ (injO hq)) ⟨(by kernel_rfl), (by kernel_rfl), trivial⟩
 refine loopE hb 8 (g_r07_Refines_L2 r_r07_Refines a_ b_) (fun s2 => sl 84 [(2, pt 0), (3, pt 1), (6, c1 (vi s2))]) (fun s2 => [bx (aV a_), bx (aV b_)]) [2, 3, 6] [] 2 (s0 := 0) ⟨(by kernel_rfl), (by kernel_rfl), trivial⟩ hq (fun s2 x2 hq hn2 he2 => ?_)
 refine ifE hb 9 [69] [] hq (fun hq _ => ?_) (fun hq _ => ?_)
 refine drawE hb mixed 5 10 [] ?_
 refine idxE hb flV 3 hq fun x12 hx12 hq => ?_
 refine idxE hb flV 4 hq fun x13 hx13 hq => ?_
 refine callE hb 2 hq (hr_r07_Refines x12 x13) fun y14 hy14 hq => ?_
 refine ifE hb 2 [83] [] hq (fun hq _ => ?_) (fun hq _ => ?_)
 refine cpE hb 2 [] (s' := ⟨none, [pick (bodyOf Tryz.f14) [1, 1, 1, 1, 0, 1, 0, 0, 1, 0, 0, 1, 0, 0], pick (bodyOf Tryz.f14) [1, 1, 1, 1, 0, 1, 0, 0, 1, 0, 0, 1, 0, 1]], [(3, [pick (bodyOf Tryz.f14) [1, 1, 1, 1, 0, 1, 0, 0, 1, 1], pick (bodyOf Tryz.f14) [1, 1, 1, 1, 0, 1, 0]]), (2, [pick (bodyOf Tryz.f14) [1, 1, 1, 1, 1]])], sl 84 [], [bx (aV a_), bx (aV b_)]⟩) ?_
 exact retE hb 3 (he1 _ ((he2 _ (injO hq)).symm))
 refine cpE hb 3 [2, 3, 6] (s' := ⟨none, [pick (bodyOf Tryz.f14) [1, 1, 1, 1, 0, 1, 0, 0, 1, 1], pick (bodyOf Tryz.f14) [1, 1, 1, 1, 0, 1, 0]], [(2, [pick (bodyOf Tryz.f14) [1, 1, 1, 1, 1]])], sl 84 [(2, pt 0), (3, pt 1), (6, c1 (vi s2))], [bx (aV a_), bx (aV b_)]⟩) ?_
 exact backE hb 5 [2, 3, 6] [] 2 (hn2 _ (injO hq)) ⟨(by kernel_rfl), (by kernel_rfl), trivial⟩
 exact retE hb 6 (he1 _ ((he2 _ (injO hq)).symm))
noncomputable def t_r07_Refines_step (rec : Val → Val → Option (Bool)) (a : Val) (b : Val) : Option (Bool) :=
  g_r07_Refines (fun a0 a1 => rec a0 a1) a b
noncomputable def t_r07_Refines (a0 : Val) (a1 : Val) : Option (Bool) := tieF relV wfV t_r07_Refines_step a0 a1
theorem t_r07_Refines_ok (hb : Base E E0 G) (he : ∀ w, E w → EnvV w) (a0 : Val) (a1 : Val) (r : Bool) (hq : t_r07_Refines a0 a1 = some r) : Pure E E0 Tryz.prog 14 [.agg (aV a0), .agg (aV a1)] (c1 (vB r)) :=
  tieF_ok (C := fun a b r => Pure E E0 Tryz.prog 14 [.agg (aV a), .agg (aV b)] (c1 (vB r))) (fun rec hr a b r hq => g_r07_Refines_ok hb he (fun a0 a1 => rec a0 a1) (fun a0 a1 r e => hr a0 a1 r e) a b r hq) a0 a1 r hq
noncomputable def g_l19_OpsMonotone  (c_ : CallG) (l_ : Arr3Val) : Option (Bool) :=
  (g_l19_valid [c_.a, c_.b, c_.c, l_.x0, l_.x1, l_.x2]).bind fun y1 => bif (!y1) then (g_l19_awake).bind fun y3 => some (y3) else (t_r07_Refines l_.x0 c_.a).bind fun y4 => bif (!y4) then (g_l19_awake).bind fun y6 => some (y6) else (t_r07_Refines l_.x1 c_.b).bind fun y7 => bif (!y7) then (g_l19_awake).bind fun y9 => some (y9) else (t_r07_Refines l_.x2 c_.c).bind fun y10 => bif (!y10) then (g_l19_awake).bind fun y12 => some (y12) else (g_l19_do c_).bind fun y13 => (g_l19_do (CallG.mk c_.kind c_.op c_.name l_.x0 l_.x1 l_.x2)).bind fun y14 => bif (!decide (y13.2 = 0)) then bif (!decide (y14.2 = 0)) then (g_l19_awake).bind fun y17 => some (y17) else some (false) else bif (!decide (y14.2 = 0)) then (g_l19_awake).bind fun y19 => some (y19) else (t_r07_Refines y14.1 y13.1).bind fun y20 => bif y20 then (g_l19_awake).bind fun y22 => some (y22) else some (false)
theorem g_l19_OpsMonotone_ok (hb : Base E E0 G) (he : ∀ w, E w → EnvV w)   (c_ : CallG) (l_ : Arr3Val) : ∀ r_ : Bool, g_l19_OpsMonotone c_ l_ = some r_ →
 Pure E E0 Tryz.prog 4 [.agg [vi c_.kind, vi c_.op, vS c_.name, vi c_.a.kind, vi c_.a.num, vS c_.a.str, vL flV c_.a.items, vL flS c_.a.keys, vi c_.b.kind, vi c_.b.num, vS c_.b.str, vL flV c_.b.items, vL flS c_.b.keys, vi c_.c.kind, vi c_.c.num, vS c_.c.str, vL flV c_.c.items, vL flS c_.c.keys], .agg [vi l_.x0.kind, vi l_.x0.num, vS l_.x0.str, vL flV l_.x0.items, vL flS l_.x0.keys, vi l_.x1.kind, vi l_.x1.num, vS l_.x1.str, vL flV l_.x1.items, vL flS l_.x1.keys, vi l_.x2.kind, vi l_.x2.num, vS l_.x2.str, vL flV l_.x2.items, vL flS l_.x2.keys]] (c1 (vB r_)) := by
 refine fnE hb Tryz.func4 rfl fun r_ hq => ?_
 refine frzE hb 7 3 1 (ps := [pI .i64 l_.x0.kind, pI .i64 l_.x0.num, pS l_.x0.str, pL flV l_.x0.items, pL flS l_.x0.keys, pI .i64 l_.x1.kind, pI .i64 l_.x1.num, pS l_.x1.str, pL flV l_.x1.items, pL flS l_.x1.keys, pI .i64 l_.x2.kind, pI .i64 l_.x2.num, pS l_.x2.str, pL flV l_.x2.items, pL flS l_.x2.keys]) (by kernel_rfl) ?_
 refine drawE hb mixed 0 9 [2, 3, 4, 5] ?_
 have hp := (g_l19_valid_ok hb he [c_.a, c_.b, c_.c, l_.x0, l_.x1, l_.x2])
 simp only [aV, aT, kind_mk, num_mk, str_mk, items_mk, keys_mk, Ty.kind_mk, Ty.elems_mk, Ty.names_mk, vL_one, vL_two, vL_three, vL_four, vL_five, vL_six] at hp
 refine callE hb 27 hq hp fun y1 hy1 hq => ?_
 refine ifE hb 2 [29, 30] [] hq (fun hq _ => ?_) (fun hq _ => ?_)
 refine callE hb 24 hq (g_l19_awake_ok hb he ) fun y3 hy3 hq => ?_
 exact retE hb 2 (injO hq).symm
 refine callE hb 3 hq (t_r07_Refines_ok hb he l_.x0 c_.a) fun y4 hy4 hq => ?_
 refine ifE hb 3 [35, 36, 37] [] hq (fun hq _ => ?_) (fun hq _ => ?_)
 refine callE hb 17 hq (g_l19_awake_ok hb he ) fun y6 hy6 hq => ?_
 exact retE hb 2 (injO hq).symm
 refine callE hb 3 hq (t_r07_Refines_ok hb he l_.x1 c_.b) fun y7 hy7 hq => ?_
 refine ifE hb 3 [42, 43, 44] [] hq (fun hq _ => ?_) (fun hq _ => ?_)
 refine cpE hb 7 [2, 5, 6, 7, 50] (s' := ⟨none, [pick (bodyOf Tryz.f4) [1, 1, 0, 1], pick (bodyOf Tryz.f4) [1, 1, 1]], [], sl 88 [(2, pt 0), (5, pt 2), (6, pt 3), (7, pt 4), (50, c1 (vB true))], [bx [vi c_.kind, vi c_.op, vS c_.name, vi c_.a.kind, vi c_.a.num, vS c_.a.str, vL flV c_.a.items, vL flS c_.a.keys, vi c_.b.kind, vi c_.b.num, vS c_.b.str, vL flV c_.b.items, vL flS c_.b.keys, vi c_.c.kind, vi c_.c.num, vS c_.c.str, vL flV c_.c.items, vL flS c_.c.keys], none, bx (aV l_.x0), bx (aV l_.x1), bx (aV l_.x2)]⟩) ?_
 refine callE hb 3 hq (g_l19_awake_ok hb he ) fun y9 hy9 hq => ?_
 exact retE hb 2 (injO hq).symm
 refine callE hb 3 hq (t_r07_Refines_ok hb he l_.x2 c_.c) fun y10 hy10 hq => ?_
 refine cpE hb 3 [2, 5, 6, 7, 50] (s' := ⟨none, [pick (bodyOf Tryz.f4) [1, 1, 0, 1], pick (bodyOf Tryz.f4) [1, 1, 1]], [], sl 88 [(2, pt 0), (5, pt 2), (6, pt 3), (7, pt 4), (50, c1 (vB (!y10)))], [bx [vi c_.kind, vi c_.op, vS c_.name, vi c_.a.kind, vi c_.a.num, vS c_.a.str, vL flV c_.a.items, vL flS c_.a.keys, vi c_.b.kind, vi c_.b.num, vS c_.b.str, vL flV c_.b.items, vL flS c_.b.keys, vi c_.c.kind, vi c_.c.num, vS c_.c.str, vL flV c_.c.items, vL flS c_.c.keys], none, bx (aV l_.x0), bx (aV l_.x1), bx (aV l_.x2)]⟩) ?_
 refine ifE hb 0 [50] [] hq (fun hq _ => ?_) (fun hq _ => ?_)
 refine callE hb 3 hq (g_l19_awake_ok hb he ) fun y12 hy12 hq => ?_
 exact retE hb 2 (injO hq).symm
 refine callE hb 5 hq (g_l19_do_ok hb he c_) fun y13 hy13 hq => ?_
 refine callE hb 19 hq (g_l19_do_ok hb he (CallG.mk c_.kind c_.op c_.name l_.x0 l_.x1 l_.x2)) fun y14 hy14 hq => ?_
 refine ifE hb 13 [72] [] hq (fun hq _ => ?_) (fun hq _ => ?_)
 refine ifE hb 6 [74, 75] [] hq (fun hq _ => ?_) (fun hq _ => ?_)
 refine callE hb 0 hq (g_l19_awake_ok hb he ) fun y17 hy17 hq => ?_
 exact retE hb 3 (injO hq).symm
 exact retE hb 4 (injO hq).symm
 refine ifE hb 7 [79, 80] [] hq (fun hq _ => ?_) (fun hq _ => ?_)
 refine callE hb 5 hq (g_l19_awake_ok hb he ) fun y19 hy19 hq => ?_
 exact retE hb 3 (injO hq).symm
 refine callE hb 2 hq (t_r07_Refines_ok hb he y14.1 y13.1) fun y20 hy20 hq => ?_
 refine ifE hb 2 [83, 84, 85] [] hq (fun hq _ => ?_) (fun hq _ => ?_)
 refine callE hb 0 hq (g_l19_awake_ok hb he ) fun y22 hy22 hq => ?_
 exact retE hb 3 (injO hq).symm
 exact retE hb 4 (injO hq).symm
noncomputable def g_l19_OpsKnown  (c_ : CallG) : Option (Bool) :=
  (g_l19_valid [c_.a, c_.b, c_.c]).bind fun y1 => bif (!y1) then (g_l19_awake).bind fun y3 => some (y3) else (g_l19_do c_).bind fun y4 => bif (!decide (y4.2 = 0)) then (g_r07_Null).bind fun y6 => (t_r07_Equal y4.1 y6).bind fun y7 => bif y7 then (g_l19_awake).bind fun y9 => some (y9) else some (false) else (m_checkE y4.1).bind fun y10 => bif (!decide (y10 = 0)) then some (false) else (t_r07_Known c_.a).bind fun y12 => bif (!y12) then (g_l19_awake).bind fun y14 => some (y14) else (t_r07_Known c_.b).bind fun y15 => bif (!y15) then (g_l19_awake).bind fun y17 => some (y17) else (t_r07_Known c_.c).bind fun y18 => bif (!y18) then (g_l19_awake).bind fun y20 => some (y20) else (t_r07_Known y4.1).bind fun y21 => bif y21 then (g_l19_awake).bind fun y23 => some (y23) else some (false)
theorem g_l19_OpsKnown_ok (hb : Base E E0 G) (he : ∀ w, E w → EnvV w)   (c_ : CallG) : ∀ r_ : Bool, g_l19_OpsKnown c_ = some r_ →
 Pure E E0 Tryz.prog 5 [.agg [vi c_.kind, vi c_.op, vS c_.name, vi c_.a.kind, vi c_.a.num, vS c_.a.str, vL flV c_.a.items, vL flS c_.a.keys, vi c_.b.kind, vi c_.b.num, vS c_.b.str, vL flV c_.b.items, vL flS c_.b.keys, vi c_.c.kind, vi c_.c.num, vS c_.c.str, vL flV c_.c.items, vL flS c_.c.keys]] (c1 (vB r_)) := by
 refine fnE hb Tryz.func5 rfl fun r_ hq => ?_
 have hp := (g_l19_valid_ok hb he [c_.a, c_.b, c_.c])
 simp only [aV, aT, kind_mk, num_mk, str_mk, items_mk, keys_mk, Ty.kind_mk, Ty.elems_mk, Ty.names_mk, vL_one, vL_two, vL_three, vL_four, vL_five, vL_six] at hp
 refine callE hb 15 hq hp fun y1 hy1 hq => ?_
 refine ifE hb 2 [13] [] hq (fun hq _ => ?_) (fun hq _ => ?_)
 refine callE hb 3 hq (g_l19_awake_ok hb he ) fun y3 hy3 hq => ?_
 exact retE hb 2 (injO hq).symm
 refine callE hb 5 hq (g_l19_do_ok hb he c_) fun y4 hy4 hq => ?_
 refine ifE hb 13 [21] [] hq (fun hq _ => ?_) (fun hq _ => ?_)
 refine drawE hb mixed 2 2 [] ?_
 refine callE hb 1 hq (g_r07_Null_ok hb he ) fun y6 hy6 hq => ?_
 refine callE hb 1 hq (t_r07_Equal_ok hb he y4.1 y6) fun y7 hy7 hq => ?_
 refine ifE hb 1 [24, 25] [] hq (fun hq _ => ?_) (fun hq _ => ?_)
 refine callE hb 0 hq (g_l19_awake_ok hb he ) fun y9 hy9 hq => ?_
 exact retE hb 3 (injO hq).symm
 exact retE hb 4 (injO hq).symm
 refine callE hb 6 hq (rCheck_g hb he y4.1) fun y10 hy10 hq => ?_
 refine ifE hb 2 [30] [] hq (fun hq _ => ?_) (fun hq _ => ?_)
 exact retE hb 5 (injO hq).symm
 refine callE hb 6 hq (t_r07_Known_ok hb he c_.a) fun y12 hy12 hq => ?_
 refine ifE hb 2 [34, 35] [] hq (fun hq _ => ?_) (fun hq _ => ?_)
 refine callE hb 16 hq (g_l19_awake_ok hb he ) fun y14 hy14 hq => ?_
 exact retE hb 3 (injO hq).symm
 refine callE hb 2 hq (t_r07_Known_ok hb he c_.b) fun y15 hy15 hq => ?_
 refine ifE hb 3 [39, 40, 41] [] hq (fun hq _ => ?_) (fun hq _ => ?_)
 refine callE hb 10 hq (g_l19_awake_ok hb he ) fun y17 hy17 hq => ?_
 exact retE hb 3 (injO hq).symm
 refine callE hb 2 hq (t_r07_Known_ok hb he c_.c) fun y18 hy18 hq => ?_
 refine ifE hb 3 [45, 46, 47] [] hq (fun hq _ => ?_) (fun hq _ => ?_)
 refine callE hb 4 hq (g_l19_awake_ok hb he ) fun y20 hy20 hq => ?_
 exact retE hb 3 (injO hq).symm
 refine callE hb 1 hq (t_r07_Known_ok hb he y4.1) fun y21 hy21 hq => ?_
 refine ifE hb 2 [49, 50, 51] [] hq (fun hq _ => ?_) (fun hq _ => ?_)
 refine callE hb 0 hq (g_l19_awake_ok hb he ) fun y23 hy23 hq => ?_
 exact retE hb 3 (injO hq).symm
 exact retE hb 4 (injO hq).symm
noncomputable def g_l19_logical_L1 (l_ : List Val) (s1 : Int) : Option ((Int) ⊕ (Bool)) :=
  bif (decide (s1 < (l_.length : Int))) then (idx l_ s1).bind fun x2 => bif (!decide (x2.kind = 1)) then (idx l_ s1).bind fun x4 => bif (!decide (x4.kind = 6)) then some (.inr (false)) else some (.inl (IntKind.i64.wrap (s1 + 1))) else some (.inl (IntKind.i64.wrap (s1 + 1))) else (g_l19_valid l_).bind fun y6 => some (.inr (y6))
noncomputable def g_l19_logical  (l_ : List Val) : Option (Bool) :=
  loopO (g_l19_logical_L1 l_) 0
theorem g_l19_logical_ok (hb : Base E E0 G) (he : ∀ w, E w → EnvV w)   (l_ : List Val) : ∀ r_ : Bool, g_l19_logical l_ = some r_ →
 Pure E E0 Tryz.prog 18 [.cell (vL flV l_)] (c1 (vB r_)) := by
 refine fnE hb Tryz.func18 rfl fun r_ hq => ?_
 refine loopE hb 10 (g_l19_logical_L1 l_) (fun s1 => sl 26 [(0, c1 (vL flV l_)), (3, c1 (vi s1))]) (fun s1 => []) [0, 3] [] 0 (s0 := 0) trivial hq (fun s1 x1 hq hn1 he1 => ?_)
 refine ifE hb 8 [7] [] hq (fun hq _ => ?_) (fun hq _ => ?_)
 refine idxE hb flV 8 hq fun x2 hx2 hq => ?_
 refine ifE hb 4 [15, 16] [] hq (fun hq _ => ?_) (fun hq _ => ?_)
 refine idxE hb flV 2 hq fun x4 hx4 hq => ?_
 refine ifE hb 5 [22, 23] [] hq (fun hq _ => ?_) (fun hq _ => ?_)
 exact retE hb 5 (he1 _ (injO hq))
 exact backE hb 8 [0, 3] [] 0 (hn1 _ (injO hq)) trivial
 exact backE hb 16 [0, 3] [] 0 (hn1 _ (injO hq)) trivial
 refine callE hb 5 hq (g_l19_valid_ok hb he l_) fun y6 hy6 hq => ?_
 exact retE hb 2 (he1 _ (injO hq))
noncomputable def g_l19_OpsLogic_1  (op_ : Int) (x_ : Val) (y_ : Val) : Option (Val) :=
  (g_ops_Binary op_ x_ y_).bind fun y1 => some (y1.1)
theorem g_l19_OpsLogic_1_ok (hb : Base E E0 G) (he : ∀ w, E w → EnvV w)   (op_ : Int) (x_ : Val) (y_ : Val) : ∀ r_ : Val, g_l19_OpsLogic_1 op_ x_ y_ = some r_ →
 Pure E E0 Tryz.prog 19 [.cell (vi op_), .agg (aV x_), .agg (aV y_)] (.one (.agg (aV r_))) := by
 refine fnE hb Tryz.func19 rfl fun r_ hq => ?_
 refine callE hb 11 hq (g_ops_Binary_ok hb he op_ x_ y_) fun y1 hy1 hq => ?_
 exact retE hb 12 (injO hq).symm
end Abs
end Go.Proofs.YtjfcgdablmjmnaaGreatDoor
