/-
  FuncsNames: Go functions as functions over plain values, with the proof that the code computes them; printed by gen.py.
-/
import Derived.Test.YtagadjpmkggjdaaGreatDoorFnA
import Derived.Test.YtagadjpmkggjdaaGreatDoorAbsN
namespace Go.Proofs.YtagadjpmkggjdaaGreatDoor
namespace Abs
open Go.RowKit
variable {E : World → Prop} {E0 : Nat} {G : Nat → Option (List PV)}
set_option maxRecDepth 100000
set_option linter.unusedVariables false
set_option linter.unusedSimpArgs false
attribute [local irreducible] adv J KE KO mPut mSto q65 mFrm qbw hedS unl Pure Ok sl q8 awpL awp asq asqD asqX asqF
noncomputable def gQ0q   : Option (List ByteArray) :=
 some ([(⟨#[97, 98, 115]⟩ : ByteArray), (⟨#[99, 111, 97, 108, 101, 115, 99, 101]⟩ : ByteArray), (⟨#[99, 111, 110, 99, 97, 116]⟩ : ByteArray), (⟨#[99, 111, 110, 116, 97, 105, 110, 115]⟩ : ByteArray), (⟨#[100, 105, 115, 116, 105, 110, 99, 116]⟩ : ByteArray), (⟨#[101, 108, 101, 109, 101, 110, 116]⟩ : ByteArray), (⟨#[101, 110, 100, 115, 119, 105, 116, 104]⟩ : ByteArray), (⟨#[102, 108, 97, 116, 116, 101, 110]⟩ : ByteArray), (⟨#[105, 110, 100, 101, 120]⟩ : ByteArray), (⟨#[106, 111, 105, 110]⟩ : ByteArray), (⟨#[107, 101, 121, 115]⟩ : ByteArray), (⟨#[108, 101, 110, 103, 116, 104]⟩ : ByteArray), (⟨#[108, 111, 111, 107, 117, 112]⟩ : ByteArray), (⟨#[108, 111, 119, 101, 114]⟩ : ByteArray), (⟨#[109, 97, 120]⟩ : ByteArray), (⟨#[109, 101, 114, 103, 101]⟩ : ByteArray), (⟨#[109, 105, 110]⟩ : ByteArray), (⟨#[114, 97, 110, 103, 101]⟩ : ByteArray), (⟨#[114, 101, 112, 108, 97, 99, 101]⟩ : ByteArray), (⟨#[114, 101, 118, 101, 114, 115, 101]⟩ : ByteArray), (⟨#[115, 108, 105, 99, 101]⟩ : ByteArray), (⟨#[115, 111, 114, 116]⟩ : ByteArray), (⟨#[115, 112, 108, 105, 116]⟩ : ByteArray), (⟨#[115, 116, 97, 114, 116, 115, 119, 105, 116, 104]⟩ : ByteArray), (⟨#[115, 117, 109]⟩ : ByteArray), (⟨#[116, 111, 98, 111, 111, 108]⟩ : ByteArray), (⟨#[116, 111, 110, 117, 109, 98, 101, 114]⟩ : ByteArray), (⟨#[116, 111, 115, 116, 114, 105, 110, 103]⟩ : ByteArray), (⟨#[116, 114, 105, 109]⟩ : ByteArray), (⟨#[117, 112, 112, 101, 114]⟩ : ByteArray), (⟨#[118, 97, 108, 117, 101, 115]⟩ : ByteArray), (⟨#[122, 105, 112, 109, 97, 112]⟩ : ByteArray)])
theorem gQ0r (hb : Base E E0 G) (he : ∀ w, E w → EnvV w)    : ∀ r_ : List ByteArray, gQ0q = some r_ →
 Pure E E0 Tryz.prog 13 [] (c1 (vL flS r_)) := by
 refine fnE hb Tryz.func13 rfl fun r_ hq => ?_
 refine q4x hb 9 0 (c := .pv (.sl true 32 [pS (⟨#[97, 98, 115]⟩ : ByteArray), pS (⟨#[99, 111, 97, 108, 101, 115, 99, 101]⟩ : ByteArray), pS (⟨#[99, 111, 110, 99, 97, 116]⟩ : ByteArray), pS (⟨#[99, 111, 110, 116, 97, 105, 110, 115]⟩ : ByteArray), pS (⟨#[100, 105, 115, 116, 105, 110, 99, 116]⟩ : ByteArray), pS (⟨#[101, 108, 101, 109, 101, 110, 116]⟩ : ByteArray), pS (⟨#[101, 110, 100, 115, 119, 105, 116, 104]⟩ : ByteArray), pS (⟨#[102, 108, 97, 116, 116, 101, 110]⟩ : ByteArray), pS (⟨#[105, 110, 100, 101, 120]⟩ : ByteArray), pS (⟨#[106, 111, 105, 110]⟩ : ByteArray), pS (⟨#[107, 101, 121, 115]⟩ : ByteArray), pS (⟨#[108, 101, 110, 103, 116, 104]⟩ : ByteArray), pS (⟨#[108, 111, 111, 107, 117, 112]⟩ : ByteArray), pS (⟨#[108, 111, 119, 101, 114]⟩ : ByteArray), pS (⟨#[109, 97, 120]⟩ : ByteArray), pS (⟨#[109, 101, 114, 103, 101]⟩ : ByteArray), pS (⟨#[109, 105, 110]⟩ : ByteArray), pS (⟨#[114, 97, 110, 103, 101]⟩ : ByteArray), pS (⟨#[114, 101, 112, 108, 97, 99, 101]⟩ : ByteArray), pS (⟨#[114, 101, 118, 101, 114, 115, 101]⟩ : ByteArray), pS (⟨#[115, 108, 105, 99, 101]⟩ : ByteArray), pS (⟨#[115, 111, 114, 116]⟩ : ByteArray), pS (⟨#[115, 112, 108, 105, 116]⟩ : ByteArray), pS (⟨#[115, 116, 97, 114, 116, 115, 119, 105, 116, 104]⟩ : ByteArray), pS (⟨#[115, 117, 109]⟩ : ByteArray), pS (⟨#[116, 111, 98, 111, 111, 108]⟩ : ByteArray), pS (⟨#[116, 111, 110, 117, 109, 98, 101, 114]⟩ : ByteArray), pS (⟨#[116, 111, 115, 116, 114, 105, 110, 103]⟩ : ByteArray), pS (⟨#[116, 114, 105, 109]⟩ : ByteArray), pS (⟨#[117, 112, 112, 101, 114]⟩ : ByteArray), pS (⟨#[118, 97, 108, 117, 101, 115]⟩ : ByteArray), pS (⟨#[122, 105, 112, 109, 97, 112]⟩ : ByteArray)])) (qqg flS (ys := [(⟨#[97, 98, 115]⟩ : ByteArray), (⟨#[99, 111, 97, 108, 101, 115, 99, 101]⟩ : ByteArray), (⟨#[99, 111, 110, 99, 97, 116]⟩ : ByteArray), (⟨#[99, 111, 110, 116, 97, 105, 110, 115]⟩ : ByteArray), (⟨#[100, 105, 115, 116, 105, 110, 99, 116]⟩ : ByteArray), (⟨#[101, 108, 101, 109, 101, 110, 116]⟩ : ByteArray), (⟨#[101, 110, 100, 115, 119, 105, 116, 104]⟩ : ByteArray), (⟨#[102, 108, 97, 116, 116, 101, 110]⟩ : ByteArray), (⟨#[105, 110, 100, 101, 120]⟩ : ByteArray), (⟨#[106, 111, 105, 110]⟩ : ByteArray), (⟨#[107, 101, 121, 115]⟩ : ByteArray), (⟨#[108, 101, 110, 103, 116, 104]⟩ : ByteArray), (⟨#[108, 111, 111, 107, 117, 112]⟩ : ByteArray), (⟨#[108, 111, 119, 101, 114]⟩ : ByteArray), (⟨#[109, 97, 120]⟩ : ByteArray), (⟨#[109, 101, 114, 103, 101]⟩ : ByteArray), (⟨#[109, 105, 110]⟩ : ByteArray), (⟨#[114, 97, 110, 103, 101]⟩ : ByteArray), (⟨#[114, 101, 112, 108, 97, 99, 101]⟩ : ByteArray), (⟨#[114, 101, 118, 101, 114, 115, 101]⟩ : ByteArray), (⟨#[115, 108, 105, 99, 101]⟩ : ByteArray), (⟨#[115, 111, 114, 116]⟩ : ByteArray), (⟨#[115, 112, 108, 105, 116]⟩ : ByteArray), (⟨#[115, 116, 97, 114, 116, 115, 119, 105, 116, 104]⟩ : ByteArray), (⟨#[115, 117, 109]⟩ : ByteArray), (⟨#[116, 111, 98, 111, 111, 108]⟩ : ByteArray), (⟨#[116, 111, 110, 117, 109, 98, 101, 114]⟩ : ByteArray), (⟨#[116, 111, 115, 116, 114, 105, 110, 103]⟩ : ByteArray), (⟨#[116, 114, 105, 109]⟩ : ByteArray), (⟨#[117, 112, 112, 101, 114]⟩ : ByteArray), (⟨#[118, 97, 108, 117, 101, 115]⟩ : ByteArray), (⟨#[122, 105, 112, 109, 97, 112]⟩ : ByteArray)]) (by kernel_rfl)) ?_
 exact retE hb 0 (injO hq).symm
noncomputable def gQ0l  (name_ : ByteArray) : Option (Int × Int × Bool) :=
 (gQ1b name_).bind fun y1 => bif (!y1.2) then some (0, 0, false) else some (y1.1.least, y1.1.most, true)
theorem gQ0m (hb : Base E E0 G) (he : ∀ w, E w → EnvV w)   (name_ : ByteArray) : ∀ r_ : Int × Int × Bool, gQ0l name_ = some r_ →
 Pure E E0 Tryz.prog 14 [.cell (vS name_)] (.tup [.cell (vi r_.1), .cell (vi r_.2.1), .cell (vB r_.2.2)]) := by
 refine fnE hb Tryz.func14 rfl fun r_ hq => ?_
 refine q6 hb 9 hq (gQ1c hb he name_) fun y1 hy1 hq => ?_
 refine ifE hb 13 [13] [] hq (fun hq _ => ?_) (fun hq _ => ?_)
 exact retE hb 7 (injO hq).symm
 refine q1b hb mixed 3 5 [] ?_
 exact retE hb 9 (injO hq).symm
noncomputable def gQ3z  (l_ : List Val) : Option (Val) :=
 some (Val.mk 4 0 eS l_ [])
theorem gQ40 (hb : Base E E0 G) (he : ∀ w, E w → EnvV w)   (l_ : List Val) : ∀ r_ : Val, gQ3z l_ = some r_ →
 Pure E E0 Tryz.prog 23 [.cell (vL flV l_)] (.one (.agg (aV r_))) := by
 refine fnE hb Tryz.func23 rfl fun r_ hq => ?_
 exact retE hb 10 (injO hq).symm
noncomputable def gQ4a   : Option (Val) :=
 some (Val.mk 6 0 eS [] [])
theorem gQ4b (hb : Base E E0 G) (he : ∀ w, E w → EnvV w)    : ∀ r_ : Val, gQ4a = some r_ →
 Pure E E0 Tryz.prog 24 [] (.one (.agg (aV r_))) := by
 refine fnE hb Tryz.func24 rfl fun r_ hq => ?_
 exact retE hb 9 (injO hq).symm
noncomputable def gQ45  (n_ : Int) : Option (Val) :=
 some (Val.mk 2 n_ eS [] [])
theorem gQ46 (hb : Base E E0 G) (he : ∀ w, E w → EnvV w)   (n_ : Int) : ∀ r_ : Val, gQ45 n_ = some r_ →
 Pure E E0 Tryz.prog 25 [.cell (vi n_)] (.one (.agg (aV r_))) := by
 refine fnE hb Tryz.func25 rfl fun r_ hq => ?_
 exact retE hb 10 (injO hq).symm
noncomputable def gQ3q   : Option (Bool) :=
 (gQ4a).bind fun y1 => (gQ45 1).bind fun y2 => (gQ3z [y1, y2]).bind fun y3 => (gQ45 1).bind fun y4 => (gQ0n (⟨#[99, 111, 110, 116, 97, 105, 110, 115]⟩ : ByteArray) [y3, y4]).bind fun y5 => (gQ4a).bind fun y6 => (gQ45 1).bind fun y7 => (gQ3z [y6, y7]).bind fun y8 => (gQ45 2).bind fun y9 => (gQ0n (⟨#[99, 111, 110, 116, 97, 105, 110, 115]⟩ : ByteArray) [y8, y9]).bind fun y10 => (gQ45 1).bind fun y11 => (gQ45 2).bind fun y12 => (gQ45 3).bind fun y13 => (gQ3z [y11, y12, y13]).bind fun y14 => (gQ45 (-1)).bind fun y15 => (gQ0n (⟨#[101, 108, 101, 109, 101, 110, 116]⟩ : ByteArray) [y14, y15]).bind fun y16 => (gQ0n (⟨#[97, 98, 115]⟩ : ByteArray) [(Val.mk 0 0 eS [] [])]).bind fun y17 => (gQ0n (⟨#[110, 111, 112, 101]⟩ : ByteArray) []).bind fun y18 => (gQ0l (⟨#[108, 111, 111, 107, 117, 112]⟩ : ByteArray)).bind fun y19 => (gQ0q).bind fun y20 => bif (decide (y5.2 = 0)) then bif (decide (y5.1.kind = 1)) then bif (decide (y5.1.num = 1)) then bif (decide (y10.2 = 0)) then bif (decide (y10.1.kind = 6)) then bif (decide (y16.2 = 0)) then bif (decide (y16.1.num = 3)) then bif (decide (y17.2 = 6)) then bif (decide (y18.2 = 17)) then bif (decide (y19.1 = 2)) then bif (decide (y19.2.1 = 3)) then bif y19.2.2 then bif (decide ((y20.length : Int) = 32)) then (idx y20 0).bind fun x34 => some (decide (x34 = (⟨#[97, 98, 115]⟩ : ByteArray))) else some (false) else some (false) else some (false) else some (false) else some (false) else some (false) else some (false) else some (false) else some (false) else some (false) else some (false) else some (false) else some (false)
theorem gQ3r (hb : Base E E0 G) (he : ∀ w, E w → EnvV w)    : ∀ r_ : Bool, gQ3q = some r_ →
 Pure E E0 Tryz.prog 9 [] (c1 (vB r_)) := by
 refine fnE hb Tryz.func9 rfl fun r_ hq => ?_
 refine q6 hb 6 hq (gQ4b hb he ) fun y1 hy1 hq => ?_
 refine q6 hb 0 hq (gQ46 hb he 1) fun y2 hy2 hq => ?_
 have hp := (gQ40 hb he [y1, y2])
 simp only [aV, aT, kind_mk, qy, qz, qw, qx, Ty.kind_mk, Ty.elems_mk, Ty.names_mk, q12, q15, q14, q11, q10, q13] at hp
 refine q6 hb 1 hq hp fun y3 hy3 hq => ?_
 refine q6 hb 0 hq (gQ46 hb he 1) fun y4 hy4 hq => ?_
 have hp := (gQ0p hb he (⟨#[99, 111, 110, 116, 97, 105, 110, 115]⟩ : ByteArray) [y3, y4])
 simp only [aV, aT, kind_mk, qy, qz, qw, qx, Ty.kind_mk, Ty.elems_mk, Ty.names_mk, q12, q15, q14, q11, q10, q13] at hp
 refine q6 hb 1 hq hp fun y5 hy5 hq => ?_
 refine q6 hb 9 hq (gQ4b hb he ) fun y6 hy6 hq => ?_
 refine q6 hb 0 hq (gQ46 hb he 1) fun y7 hy7 hq => ?_
 have hp := (gQ40 hb he [y6, y7])
 simp only [aV, aT, kind_mk, qy, qz, qw, qx, Ty.kind_mk, Ty.elems_mk, Ty.names_mk, q12, q15, q14, q11, q10, q13] at hp
 refine q6 hb 1 hq hp fun y8 hy8 hq => ?_
 refine q6 hb 0 hq (gQ46 hb he 2) fun y9 hy9 hq => ?_
 have hp := (gQ0p hb he (⟨#[99, 111, 110, 116, 97, 105, 110, 115]⟩ : ByteArray) [y8, y9])
 simp only [aV, aT, kind_mk, qy, qz, qw, qx, Ty.kind_mk, Ty.elems_mk, Ty.names_mk, q12, q15, q14, q11, q10, q13] at hp
 refine q6 hb 1 hq hp fun y10 hy10 hq => ?_
 refine q6 hb 9 hq (gQ46 hb he 1) fun y11 hy11 hq => ?_
 refine q6 hb 0 hq (gQ46 hb he 2) fun y12 hy12 hq => ?_
 refine q6 hb 0 hq (gQ46 hb he 3) fun y13 hy13 hq => ?_
 have hp := (gQ40 hb he [y11, y12, y13])
 simp only [aV, aT, kind_mk, qy, qz, qw, qx, Ty.kind_mk, Ty.elems_mk, Ty.names_mk, q12, q15, q14, q11, q10, q13] at hp
 refine q6 hb 1 hq hp fun y14 hy14 hq => ?_
 refine q6 hb 0 hq (gQ46 hb he (-1)) fun y15 hy15 hq => ?_
 have hp := (gQ0p hb he (⟨#[101, 108, 101, 109, 101, 110, 116]⟩ : ByteArray) [y14, y15])
 simp only [aV, aT, kind_mk, qy, qz, qw, qx, Ty.kind_mk, Ty.elems_mk, Ty.names_mk, q12, q15, q14, q11, q10, q13] at hp
 refine q6 hb 1 hq hp fun y16 hy16 hq => ?_
 have hp := (gQ0p hb he (⟨#[97, 98, 115]⟩ : ByteArray) [(Val.mk 0 0 eS [] [])])
 simp only [aV, aT, kind_mk, qy, qz, qw, qx, Ty.kind_mk, Ty.elems_mk, Ty.names_mk, q12, q15, q14, q11, q10, q13] at hp
 refine q6 hb 11 hq hp fun y17 hy17 hq => ?_
 refine q6 hb 9 hq (gQ0p hb he (⟨#[110, 111, 112, 101]⟩ : ByteArray) []) fun y18 hy18 hq => ?_
 refine q6 hb 9 hq (gQ0m hb he (⟨#[108, 111, 111, 107, 117, 112]⟩ : ByteArray)) fun y19 hy19 hq => ?_
 refine q6 hb 10 hq (gQ0r hb he ) fun y20 hy20 hq => ?_
 refine ifE hb 7 [63, 64] [] hq (fun hq _ => ?_) (fun hq _ => ?_)
 refine ifE hb 5 [67, 68, 69] [] hq (fun hq _ => ?_) (fun hq _ => ?_)
 refine ifE hb 5 [72, 73, 74] [] hq (fun hq _ => ?_) (fun hq _ => ?_)
 refine ifE hb 4 [76, 77, 78] [] hq (fun hq _ => ?_) (fun hq _ => ?_)
 refine ifE hb 5 [81, 82, 83] [] hq (fun hq _ => ?_) (fun hq _ => ?_)
 refine ifE hb 4 [85, 86, 87] [] hq (fun hq _ => ?_) (fun hq _ => ?_)
 refine ifE hb 5 [90, 91, 92] [] hq (fun hq _ => ?_) (fun hq _ => ?_)
 refine ifE hb 4 [94, 95, 96] [] hq (fun hq _ => ?_) (fun hq _ => ?_)
 refine ifE hb 4 [98, 99, 100] [] hq (fun hq _ => ?_) (fun hq _ => ?_)
 refine ifE hb 4 [102, 103, 104] [] hq (fun hq _ => ?_) (fun hq _ => ?_)
 refine ifE hb 4 [106, 107, 108] [] hq (fun hq _ => ?_) (fun hq _ => ?_)
 refine ifE hb 3 [13, 60, 109, 110, 111] [] hq (fun hq _ => ?_) (fun hq _ => ?_)
 refine ifE hb 5 [114, 115, 116] [] hq (fun hq _ => ?_) (fun hq _ => ?_)
 refine idxE hb flS 1 hq fun x34 hx34 hq => ?_
 exact retE hb 5 (injO hq).symm
 exact retE hb 7 (injO hq).symm
 exact retE hb 12 (injO hq).symm
 exact retE hb 15 (injO hq).symm
 exact retE hb 19 (injO hq).symm
 exact retE hb 23 (injO hq).symm
 exact retE hb 27 (injO hq).symm
 exact retE hb 31 (injO hq).symm
 exact retE hb 36 (injO hq).symm
 exact retE hb 40 (injO hq).symm
 exact retE hb 45 (injO hq).symm
 exact retE hb 49 (injO hq).symm
 exact retE hb 54 (injO hq).symm
 exact retE hb 59 (injO hq).symm
noncomputable def gQ4o (r_r07_Equal : Val → Val → Option (Bool)) (a_ : Val) (b_ : Val) (s2 : Int) : Option ((Int) ⊕ ((Int) ⊕ (Bool))) :=
 bif (decide (s2 < (a_.items.length : Int))) then (idx a_.items s2).bind fun x11 => (idx b_.items s2).bind fun x12 => (r_r07_Equal x11 x12).bind fun y13 => bif (!y13) then some (.inr (.inr (false))) else some (.inl (IntKind.i64.wrap (s2 + 1))) else some (.inr (.inr (true)))
noncomputable def gQ4n (r_r07_Equal : Val → Val → Option (Bool)) (a_ : Val) (b_ : Val) (s1 : Int) : Option ((Int) ⊕ (Bool)) :=
 bif (decide (s1 < (a_.keys.length : Int))) then (idx a_.keys s1).bind fun x7 => (idx b_.keys s1).bind fun x8 => bif (!decide (x7 = x8)) then some (.inr (false)) else some (.inl (IntKind.i64.wrap (s1 + 1))) else q8 (gQ4o r_r07_Equal a_ b_) 0
noncomputable def gQ4m (r_r07_Equal : Val → Val → Option (Bool)) (a_ : Val) (b_ : Val) : Option (Bool) :=
 bif (!decide (a_.kind = b_.kind)) then some (false) else bif (!decide (a_.num = b_.num)) then some (false) else bif (!decide (a_.str = b_.str)) then some (false) else bif (!decide ((a_.items.length : Int) = (b_.items.length : Int))) then some (false) else bif (!decide ((a_.keys.length : Int) = (b_.keys.length : Int))) then some (false) else q8 (gQ4n r_r07_Equal a_ b_) 0
theorem gQ4p (hb : Base E E0 G) (he : ∀ w, E w → EnvV w) (r_r07_Equal : Val → Val → Option (Bool)) (hr_r07_Equal : ∀ (a0 : Val) (a1 : Val) (r : Bool), r_r07_Equal a0 a1 = some r → Pure E E0 Tryz.prog 12 [.agg (aV a0), .agg (aV a1)] (c1 (vB r))) (a_ : Val) (b_ : Val) : ∀ r_ : Bool, gQ4m r_r07_Equal a_ b_ = some r_ →
 Pure E E0 Tryz.prog 12 [.agg (aV a_), .agg (aV b_)] (c1 (vB r_)) := by
 refine fnE hb Tryz.func12 rfl fun r_ hq => ?_
 refine ifE hb 15 [11, 12] [] hq (fun hq _ => ?_) (fun hq _ => ?_)
 exact retE hb 37 (injO hq).symm
 refine ifE hb 7 [17, 18, 19] [] hq (fun hq _ => ?_) (fun hq _ => ?_)
 exact retE hb 30 (injO hq).symm
 refine ifE hb 7 [24, 25, 26] [] hq (fun hq _ => ?_) (fun hq _ => ?_)
 exact retE hb 23 (injO hq).symm
 refine ifE hb 9 [33, 34, 35] [] hq (fun hq _ => ?_) (fun hq _ => ?_)
 exact retE hb 14 (injO hq).symm
 refine ifE hb 9 [42, 43] [] hq (fun hq _ => ?_) (fun hq _ => ?_)
 exact retE hb 5 (injO hq).symm
 refine cpE hb 8 [2, 3, 5] (s' := ⟨none, [pk Tryz.f12 58], [(0, [pk Tryz.f12 15])], sl 81 [(2, pt 0), (3, pt 1), (5, c1 (vi 0))], [bx (aV a_), bx (aV b_)]⟩) ?_
 refine qj hb 0 (gQ4n r_r07_Equal a_ b_) (fun s1 => sl 81 [(2, pt 0), (3, pt 1), (5, c1 (vi s1))]) (fun s1 => [bx (aV a_), bx (aV b_)]) [2, 3, 5] [] 2 (s0 := 0) ⟨(by kernel_rfl), (by kernel_rfl), trivial⟩ hq (fun s1 o1 hq hn1 he1 => ?_)
 refine ifE hb 9 [48] [] hq (fun hq _ => ?_) (fun hq _ => ?_)
 refine q1b hb mixed 5 10 [] ?_
 refine idxE hb flS 3 hq fun x7 hx7 hq => ?_
 refine idxE hb flS 4 hq fun x8 hx8 hq => ?_
 refine ifE hb 4 [61] [] hq (fun hq _ => ?_) (fun hq _ => ?_)
 exact retE hb 5 (he1 _ (injO hq))
 exact qd hb 8 [2, 3, 5] [] 2 (hn1 _ (injO hq)) ⟨(by kernel_rfl), (by kernel_rfl), trivial⟩
 refine qj hb 8 (gQ4o r_r07_Equal a_ b_) (fun s2 => sl 81 [(2, pt 0), (3, pt 1), (6, c1 (vi s2))]) (fun s2 => [bx (aV a_), bx (aV b_)]) [2, 3, 6] [] 2 (s0 := 0) ⟨(by kernel_rfl), (by kernel_rfl), trivial⟩ hq (fun s2 o2 hq hn2 he2 => ?_)
 refine ifE hb 9 [66] [] hq (fun hq _ => ?_) (fun hq _ => ?_)
 refine q1b hb mixed 5 10 [] ?_
 refine idxE hb flV 3 hq fun x11 hx11 hq => ?_
 refine idxE hb flV 4 hq fun x12 hx12 hq => ?_
 refine q6 hb 2 hq (hr_r07_Equal x11 x12) fun y13 hy13 hq => ?_
 refine ifE hb 2 [80] [] hq (fun hq _ => ?_) (fun hq _ => ?_)
 exact retE hb 5 (he1 _ ((he2 _ (injO hq)).symm))
 exact qd hb 8 [2, 3, 6] [] 2 (hn2 _ (injO hq)) ⟨(by kernel_rfl), (by kernel_rfl), trivial⟩
 exact retE hb 6 (he1 _ ((he2 _ (injO hq)).symm))
noncomputable def tQ71 (rec : Val → Val → Option (Bool)) (a : Val) (b : Val) : Option (Bool) :=
 gQ4m (fun a0 a1 => rec a0 a1) a b
noncomputable def tQ6z (a0 : Val) (a1 : Val) : Option (Bool) := tieF relV wfV tQ71 a0 a1
theorem tQ70 (hb : Base E E0 G) (he : ∀ w, E w → EnvV w) (a0 : Val) (a1 : Val) (r : Bool) (hq : tQ6z a0 a1 = some r) : Pure E E0 Tryz.prog 12 [.agg (aV a0), .agg (aV a1)] (c1 (vB r)) :=
 q4s (C := fun a b r => Pure E E0 Tryz.prog 12 [.agg (aV a), .agg (aV b)] (c1 (vB r))) (fun rec hr a b r hq => gQ4p hb he (fun a0 a1 => rec a0 a1) (fun a0 a1 r e => hr a0 a1 r e) a b r hq) a0 a1 r hq
end Abs
end Go.Proofs.YtagadjpmkggjdaaGreatDoor
