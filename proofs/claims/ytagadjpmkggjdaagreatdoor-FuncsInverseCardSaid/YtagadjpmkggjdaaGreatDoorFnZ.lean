/-
  FuncsNames: Go functions as functions over plain values, with the proof that the code computes them; printed by gen.py.
-/
import Derived.Test.YtagadjpmkggjdaaGreatDoorFnB
import Derived.Test.YtagadjpmkggjdaaGreatDoorAbsN
namespace Go.Proofs.YtagadjpmkggjdaaGreatDoor
namespace Abs
open Go.RowKit
variable {E : World → Prop} {E0 : Nat} {G : Nat → Option (List PV)}
set_option maxRecDepth 100000
set_option linter.unusedVariables false
set_option linter.unusedSimpArgs false
attribute [local irreducible] adv J KE KO mPut mSto q65 mFrm qbw hedS unl Pure Ok sl q8 awpL awp asq asqD asqX asqF
noncomputable def gQ39 (name_ : ByteArray) (args_ : List Val) (y4 : List ByteArray) (s1 : Bool × Int) : Option ((Bool × Int) ⊕ (Bool)) :=
 bif (decide (s1.2 < (y4.length : Int))) then bif s1.1 then some (.inl (true, (IntKind.i64.wrap (s1.2 + 1)))) else (idx y4 s1.2).bind fun x7 => some (.inl ((decide (x7 = name_)), (IntKind.i64.wrap (s1.2 + 1)))) else (gQ0l name_).bind fun y8 => (gQ0n name_ args_).bind fun y9 => bif (!(y8.2.2 == s1.1)) then some (.inr (false)) else bif ((decide (y9.2 = 17)) == s1.1) then some (.inr (false)) else bif (!s1.1) then (gQ3q).bind fun y13 => some (.inr (y13)) else bif (decide ((args_.length : Int) < y8.1)) then bif ((decide (y9.2 = 18)) == true) then (gQ3q).bind fun y16 => some (.inr (y16)) else some (.inr (false)) else bif ((decide (y9.2 = 18)) == (decide ((args_.length : Int) > y8.2.1))) then (gQ3q).bind fun y18 => some (.inr (y18)) else some (.inr (false))
noncomputable def gQ38  (name_ : ByteArray) (args_ : List Val) : Option (Bool) :=
 (gQ3s args_).bind fun y1 => bif (!y1) then (gQ3q).bind fun y3 => some (y3) else (gQ0q).bind fun y4 => q8 (gQ39 name_ args_ y4) (false, 0)
theorem gQ3a (hb : Base E E0 G) (he : ∀ w, E w → EnvV w)   (name_ : ByteArray) (args_ : List Val) : ∀ r_ : Bool, gQ38 name_ args_ = some r_ →
 Pure E E0 Tryz.prog 4 [.cell (vS name_), .cell (vL flV args_)] (c1 (vB r_)) := by
 refine fnE hb Tryz.func4 rfl fun r_ hq => ?_
 refine q6 hb 8 hq (gQ3u hb he args_) fun y1 hy1 hq => ?_
 refine ifE hb 2 [15] [] hq (fun hq _ => ?_) (fun hq _ => ?_)
 refine q6 hb 3 hq (gQ3r hb he ) fun y3 hy3 hq => ?_
 exact retE hb 2 (injO hq).symm
 refine q6 hb 4 hq (gQ0r hb he ) fun y4 hy4 hq => ?_
 refine qj hb 12 (gQ39 name_ args_ y4) (fun s1 => sl 74 [(0, c1 (vS name_)), (1, c1 (vL flV args_)), (5, c1 (vL flS y4)), (6, c1 (vB s1.1)), (7, c1 (vi s1.2))]) (fun s1 => []) [0, 1, 5, 6, 7] [] 0 (s0 := (false, 0)) trivial hq (fun s1 o1 hq hn1 he1 => ?_)
 refine ifE hb 8 [21] [] hq (fun hq _ => ?_) (fun hq _ => ?_)
 refine ifE hb 7 [6, 24, 25] [] hq (fun hq _ => ?_) (fun hq _ => ?_)
 exact qd hb 15 [0, 1, 5, 6, 7] [] 0 (hn1 _ (injO hq)) trivial
 refine idxE hb flS 2 hq fun x7 hx7 hq => ?_
 exact qd hb 12 [0, 1, 5, 6, 7] [] 0 (hn1 _ (injO hq)) trivial
 refine q6 hb 5 hq (gQ0m hb he name_) fun y8 hy8 hq => ?_
 refine q6 hb 12 hq (gQ0p hb he name_ args_) fun y9 hy9 hq => ?_
 refine ifE hb 14 [47, 48] [] hq (fun hq _ => ?_) (fun hq _ => ?_)
 exact retE hb 11 (he1 _ (injO hq))
 refine ifE hb 6 [52, 53] [] hq (fun hq _ => ?_) (fun hq _ => ?_)
 exact retE hb 5 (he1 _ (injO hq))
 refine ifE hb 7 [55, 56] [] hq (fun hq _ => ?_) (fun hq _ => ?_)
 refine q6 hb 15 hq (gQ3r hb he ) fun y13 hy13 hq => ?_
 exact retE hb 3 (he1 _ (injO hq))
 refine ifE hb 7 [62, 63] [] hq (fun hq _ => ?_) (fun hq _ => ?_)
 refine ifE hb 8 [69, 70, 71] [] hq (fun hq _ => ?_) (fun hq _ => ?_)
 refine q6 hb 0 hq (gQ3r hb he ) fun y16 hy16 hq => ?_
 exact retE hb 3 (he1 _ (injO hq))
 exact retE hb 4 (he1 _ (injO hq))
 refine ifE hb 8 [69, 70, 71] [] hq (fun hq _ => ?_) (fun hq _ => ?_)
 refine q6 hb 0 hq (gQ3r hb he ) fun y18 hy18 hq => ?_
 exact retE hb 3 (he1 _ (injO hq))
 exact retE hb 4 (he1 _ (injO hq))
noncomputable def gQ3m (name_ : ByteArray) (args_ : List Val) (s1 : Bool × Int) : Option ((Bool × Int) ⊕ (Bool)) :=
 bif (decide (s1.2 < (args_.length : Int))) then bif s1.1 then (idx args_ s1.2).bind fun x6 => (tQ78 x6).bind fun y7 => some (.inl (y7, (IntKind.i64.wrap (s1.2 + 1)))) else some (.inl (false, (IntKind.i64.wrap (s1.2 + 1)))) else (gQ0n name_ args_).bind fun y8 => bif (!s1.1) then bif (!decide (y8.2 = 0)) then (gQ3q).bind fun y11 => some (.inr (y11)) else (q21 y8.1).bind fun y12 => bif (decide (y12 = 0)) then (gQ3q).bind fun y14 => some (.inr (y14)) else some (.inr (false)) else (tQ78 y8.1).bind fun y15 => bif y15 then bif (!decide (y8.2 = 0)) then (gQ3q).bind fun y18 => some (.inr (y18)) else (q21 y8.1).bind fun y19 => bif (decide (y19 = 0)) then (gQ3q).bind fun y21 => some (.inr (y21)) else some (.inr (false)) else some (.inr (false))
noncomputable def gQ3l  (name_ : ByteArray) (args_ : List Val) : Option (Bool) :=
 (gQ3s args_).bind fun y1 => bif (!y1) then (gQ3q).bind fun y3 => some (y3) else q8 (gQ3m name_ args_) (true, 0)
theorem gQ3n (hb : Base E E0 G) (he : ∀ w, E w → EnvV w)   (name_ : ByteArray) (args_ : List Val) : ∀ r_ : Bool, gQ3l name_ args_ = some r_ →
 Pure E E0 Tryz.prog 5 [.cell (vS name_), .cell (vL flV args_)] (c1 (vB r_)) := by
 refine fnE hb Tryz.func5 rfl fun r_ hq => ?_
 refine q6 hb 8 hq (gQ3u hb he args_) fun y1 hy1 hq => ?_
 refine ifE hb 2 [11] [] hq (fun hq _ => ?_) (fun hq _ => ?_)
 refine q6 hb 3 hq (gQ3r hb he ) fun y3 hy3 hq => ?_
 exact retE hb 2 (injO hq).symm
 refine qj hb 12 (gQ3m name_ args_) (fun s1 => sl 51 [(0, c1 (vS name_)), (1, c1 (vL flV args_)), (5, c1 (vB s1.1)), (6, c1 (vi s1.2))]) (fun s1 => []) [0, 1, 5, 6] [] 0 (s0 := (true, 0)) trivial hq (fun s1 o1 hq hn1 he1 => ?_)
 refine ifE hb 8 [16] [] hq (fun hq _ => ?_) (fun hq _ => ?_)
 refine ifE hb 7 [5, 19, 20] [] hq (fun hq _ => ?_) (fun hq _ => ?_)
 refine idxE hb flV 2 hq fun x6 hx6 hq => ?_
 refine q6 hb 1 hq (tQ79 hb he x6) fun y7 hy7 hq => ?_
 exact qd hb 9 [0, 1, 5, 6] [] 0 (hn1 _ (injO hq)) trivial
 exact qd hb 14 [0, 1, 5, 6] [] 0 (hn1 _ (injO hq)) trivial
 refine q6 hb 6 hq (gQ0p hb he name_ args_) fun y8 hy8 hq => ?_
 refine ifE hb 12 [34, 35] [] hq (fun hq _ => ?_) (fun hq _ => ?_)
 refine ifE hb 7 [41, 42] [] hq (fun hq _ => ?_) (fun hq _ => ?_)
 refine q6 hb 6 hq (gQ3r hb he ) fun y11 hy11 hq => ?_
 exact retE hb 3 (he1 _ (injO hq))
 refine q6 hb 1 hq (q9n hb he y8.1) fun y12 hy12 hq => ?_
 refine ifE hb 4 [45, 46, 47, 48] [] hq (fun hq _ => ?_) (fun hq _ => ?_)
 refine q6 hb 0 hq (gQ3r hb he ) fun y14 hy14 hq => ?_
 exact retE hb 3 (he1 _ (injO hq))
 exact retE hb 4 (he1 _ (injO hq))
 refine q6 hb 1 hq (tQ79 hb he y8.1) fun y15 hy15 hq => ?_
 refine ifE hb 2 [37, 38, 39] [] hq (fun hq _ => ?_) (fun hq _ => ?_)
 refine ifE hb 3 [41, 42] [] hq (fun hq _ => ?_) (fun hq _ => ?_)
 refine q6 hb 6 hq (gQ3r hb he ) fun y18 hy18 hq => ?_
 exact retE hb 3 (he1 _ (injO hq))
 refine q6 hb 1 hq (q9n hb he y8.1) fun y19 hy19 hq => ?_
 refine ifE hb 4 [45, 46, 47, 48] [] hq (fun hq _ => ?_) (fun hq _ => ?_)
 refine q6 hb 0 hq (gQ3r hb he ) fun y21 hy21 hq => ?_
 exact retE hb 3 (he1 _ (injO hq))
 exact retE hb 4 (he1 _ (injO hq))
 exact retE hb 13 (he1 _ (injO hq))
noncomputable def gQ3e (l_ : List ByteArray) (x10 : ByteArray) (s1 : Bool × Bool × Int × List Val) (s2 : Int × Bool) (s3 : Int × Bool) : Option ((Int × Bool) ⊕ ((Int × Bool) ⊕ ((Bool × Bool × Int × List Val) ⊕ (Bool)))) :=
 bif (decide (s3.1 < s1.2.2.1)) then bif s3.2 then (idx l_ s3.1).bind fun x25 => (idx l_ s1.2.2.1).bind fun x26 => some (.inl ((IntKind.i64.wrap (s3.1 + 1)), (!decide (x25 = x26)))) else some (.inl ((IntKind.i64.wrap (s3.1 + 1)), false)) else (app 80 s1.2.2.2 [(Val.mk 3 0 x10 [] [])]).bind fun l27 => some (.inr (.inr (.inl (s2.2, s3.2, (IntKind.i64.wrap (s1.2.2.1 + 1)), l27))))
noncomputable def gQ3d (l_ : List ByteArray) (by_ : ByteArray) (x10 : ByteArray) (s1 : Bool × Bool × Int × List Val) (s2 : Int × Bool) : Option ((Int × Bool) ⊕ ((Bool × Bool × Int × List Val) ⊕ (Bool))) :=
 (idx l_ s1.2.2.1).bind fun x17 => bif (decide (s2.1 < (x17.size : Int))) then bif s2.2 then (idx l_ s1.2.2.1).bind fun x20 => (sidx x20 s2.1).bind fun c21 => (sidx by_ 0).bind fun c22 => some (.inl ((IntKind.i64.wrap (s2.1 + 1)), (!decide (c21 = c22)))) else some (.inl ((IntKind.i64.wrap (s2.1 + 1)), false)) else q8 (gQ3e l_ x10 s1 s2) (0, s1.2.1)
noncomputable def gQ3f (by_ : ByteArray) (s1 : Bool × Bool × Int × List Val) (s2 : Int × Bool) : Option ((Int × Bool) ⊕ ((Bool × Bool × Int × List Val) ⊕ (Bool))) :=
 bif (decide (s2.1 < (by_.size : Int))) then bif s2.2 then (sidx by_ s2.1).bind fun c30 => (sidx by_ 0).bind fun c31 => some (.inl ((IntKind.i64.wrap (s2.1 + 1)), (!decide (c30 = c31)))) else some (.inl ((IntKind.i64.wrap (s2.1 + 1)), false)) else (gQ0n (⟨#[106, 111, 105, 110]⟩ : ByteArray) [(Val.mk 3 0 by_ [] []), (Val.mk 4 0 eS s1.2.2.2 [])]).bind fun y32 => (gQ0n (⟨#[115, 112, 108, 105, 116]⟩ : ByteArray) [(Val.mk 3 0 by_ [] []), y32.1]).bind fun y33 => bif s2.2 then bif (decide (y32.2 = 0)) then bif (!decide (y33.2 = 0)) then some (.inr (.inr (false))) else (tQ6z y33.1 (Val.mk 4 0 eS s1.2.2.2 [])).bind fun y37 => bif (!y37) then some (.inr (.inr (false))) else (gQ0n (⟨#[114, 101, 118, 101, 114, 115, 101]⟩ : ByteArray) [(Val.mk 4 0 eS s1.2.2.2 [])]).bind fun y39 => (gQ0n (⟨#[114, 101, 118, 101, 114, 115, 101]⟩ : ByteArray) [y39.1]).bind fun y40 => bif (!decide (y39.2 = 0)) then some (.inr (.inr (false))) else bif (!decide (y40.2 = 0)) then some (.inr (.inr (false))) else (tQ6z y40.1 (Val.mk 4 0 eS s1.2.2.2 [])).bind fun y43 => bif (!y43) then some (.inr (.inr (false))) else (gQ0n (⟨#[122, 105, 112, 109, 97, 112]⟩ : ByteArray) [(Val.mk 4 0 eS s1.2.2.2 []), y39.1]).bind fun y45 => bif (!((decide (y45.2 = 0)) == s1.2.1)) then some (.inr (.inr (false))) else (gQ0n (⟨#[107, 101, 121, 115]⟩ : ByteArray) [y45.1]).bind fun y47 => (gQ0n (⟨#[115, 111, 114, 116]⟩ : ByteArray) [(Val.mk 4 0 eS s1.2.2.2 [])]).bind fun y48 => bif (!s1.2.1) then (gQ3q).bind fun y50 => some (.inr (.inr (y50))) else (tQ6z y47.1 y48.1).bind fun y51 => bif y51 then (gQ3q).bind fun y53 => some (.inr (.inr (y53))) else some (.inr (.inr (false))) else (gQ0n (⟨#[114, 101, 118, 101, 114, 115, 101]⟩ : ByteArray) [(Val.mk 4 0 eS s1.2.2.2 [])]).bind fun y54 => (gQ0n (⟨#[114, 101, 118, 101, 114, 115, 101]⟩ : ByteArray) [y54.1]).bind fun y55 => bif (!decide (y54.2 = 0)) then some (.inr (.inr (false))) else bif (!decide (y55.2 = 0)) then some (.inr (.inr (false))) else (tQ6z y55.1 (Val.mk 4 0 eS s1.2.2.2 [])).bind fun y58 => bif (!y58) then some (.inr (.inr (false))) else (gQ0n (⟨#[122, 105, 112, 109, 97, 112]⟩ : ByteArray) [(Val.mk 4 0 eS s1.2.2.2 []), y54.1]).bind fun y60 => bif (!((decide (y60.2 = 0)) == s1.2.1)) then some (.inr (.inr (false))) else (gQ0n (⟨#[107, 101, 121, 115]⟩ : ByteArray) [y60.1]).bind fun y62 => (gQ0n (⟨#[115, 111, 114, 116]⟩ : ByteArray) [(Val.mk 4 0 eS s1.2.2.2 [])]).bind fun y63 => bif (!s1.2.1) then (gQ3q).bind fun y65 => some (.inr (.inr (y65))) else (tQ6z y62.1 y63.1).bind fun y66 => bif y66 then (gQ3q).bind fun y68 => some (.inr (.inr (y68))) else some (.inr (.inr (false))) else (gQ0n (⟨#[114, 101, 118, 101, 114, 115, 101]⟩ : ByteArray) [(Val.mk 4 0 eS s1.2.2.2 [])]).bind fun y69 => (gQ0n (⟨#[114, 101, 118, 101, 114, 115, 101]⟩ : ByteArray) [y69.1]).bind fun y70 => bif (!decide (y69.2 = 0)) then some (.inr (.inr (false))) else bif (!decide (y70.2 = 0)) then some (.inr (.inr (false))) else (tQ6z y70.1 (Val.mk 4 0 eS s1.2.2.2 [])).bind fun y73 => bif (!y73) then some (.inr (.inr (false))) else (gQ0n (⟨#[122, 105, 112, 109, 97, 112]⟩ : ByteArray) [(Val.mk 4 0 eS s1.2.2.2 []), y69.1]).bind fun y75 => bif (!((decide (y75.2 = 0)) == s1.2.1)) then some (.inr (.inr (false))) else (gQ0n (⟨#[107, 101, 121, 115]⟩ : ByteArray) [y75.1]).bind fun y77 => (gQ0n (⟨#[115, 111, 114, 116]⟩ : ByteArray) [(Val.mk 4 0 eS s1.2.2.2 [])]).bind fun y78 => bif (!s1.2.1) then (gQ3q).bind fun y80 => some (.inr (.inr (y80))) else (tQ6z y77.1 y78.1).bind fun y81 => bif y81 then (gQ3q).bind fun y83 => some (.inr (.inr (y83))) else some (.inr (.inr (false)))
noncomputable def gQ3c (l_ : List ByteArray) (by_ : ByteArray) (s1 : Bool × Bool × Int × List Val) : Option ((Bool × Bool × Int × List Val) ⊕ (Bool)) :=
 bif (decide (s1.2.2.1 < (l_.length : Int))) then (idx l_ s1.2.2.1).bind fun x10 => (idx l_ s1.2.2.1).bind fun x11 => bif (decide ((x11.size : Int) > 50)) then (gQ3q).bind fun y13 => some (.inr (y13)) else (q21 (Val.mk 3 0 x10 [] [])).bind fun y14 => bif (!decide (y14 = 0)) then (gQ3q).bind fun y16 => some (.inr (y16)) else q8 (gQ3d l_ by_ x10 s1) (0, s1.1) else q8 (gQ3f by_ s1) (1, s1.1)
noncomputable def gQ3i (l_ : List ByteArray) (x85 : ByteArray) (s1b : Bool × Int × List Val) (s3 : Int × Bool) : Option ((Int × Bool) ⊕ ((Int) ⊕ ((Bool × Int × List Val) ⊕ (Bool)))) :=
 bif (decide (s3.1 < s1b.2.1)) then bif s3.2 then (idx l_ s3.1).bind fun x96 => (idx l_ s1b.2.1).bind fun x97 => some (.inl ((IntKind.i64.wrap (s3.1 + 1)), (!decide (x96 = x97)))) else some (.inl ((IntKind.i64.wrap (s3.1 + 1)), false)) else (app 80 s1b.2.2 [(Val.mk 3 0 x85 [] [])]).bind fun l98 => some (.inr (.inr (.inl (s3.2, (IntKind.i64.wrap (s1b.2.1 + 1)), l98))))
noncomputable def gQ3h (l_ : List ByteArray) (x85 : ByteArray) (s1b : Bool × Int × List Val) (s2b : Int) : Option ((Int) ⊕ ((Bool × Int × List Val) ⊕ (Bool))) :=
 (idx l_ s1b.2.1).bind fun x92 => bif (decide (s2b < (x92.size : Int))) then some (.inl (IntKind.i64.wrap (s2b + 1))) else q8 (gQ3i l_ x85 s1b) (0, s1b.1)
noncomputable def gQ3j (by_ : ByteArray) (s1b : Bool × Int × List Val) (s2b : Int) : Option ((Int) ⊕ ((Bool × Int × List Val) ⊕ (Bool))) :=
 bif (decide (s2b < (by_.size : Int))) then some (.inl (IntKind.i64.wrap (s2b + 1))) else (gQ0n (⟨#[106, 111, 105, 110]⟩ : ByteArray) [(Val.mk 3 0 by_ [] []), (Val.mk 4 0 eS s1b.2.2 [])]).bind fun y100 => (gQ0n (⟨#[115, 112, 108, 105, 116]⟩ : ByteArray) [(Val.mk 3 0 by_ [] []), y100.1]).bind fun y101 => (gQ0n (⟨#[114, 101, 118, 101, 114, 115, 101]⟩ : ByteArray) [(Val.mk 4 0 eS s1b.2.2 [])]).bind fun y102 => (gQ0n (⟨#[114, 101, 118, 101, 114, 115, 101]⟩ : ByteArray) [y102.1]).bind fun y103 => bif (!decide (y102.2 = 0)) then some (.inr (.inr (false))) else bif (!decide (y103.2 = 0)) then some (.inr (.inr (false))) else (tQ6z y103.1 (Val.mk 4 0 eS s1b.2.2 [])).bind fun y106 => bif (!y106) then some (.inr (.inr (false))) else (gQ0n (⟨#[122, 105, 112, 109, 97, 112]⟩ : ByteArray) [(Val.mk 4 0 eS s1b.2.2 []), y102.1]).bind fun y108 => bif (!((decide (y108.2 = 0)) == s1b.1)) then some (.inr (.inr (false))) else (gQ0n (⟨#[107, 101, 121, 115]⟩ : ByteArray) [y108.1]).bind fun y110 => (gQ0n (⟨#[115, 111, 114, 116]⟩ : ByteArray) [(Val.mk 4 0 eS s1b.2.2 [])]).bind fun y111 => bif (!s1b.1) then (gQ3q).bind fun y113 => some (.inr (.inr (y113))) else (tQ6z y110.1 y111.1).bind fun y114 => bif y114 then (gQ3q).bind fun y116 => some (.inr (.inr (y116))) else some (.inr (.inr (false)))
noncomputable def gQ3g (l_ : List ByteArray) (by_ : ByteArray) (s1b : Bool × Int × List Val) : Option ((Bool × Int × List Val) ⊕ (Bool)) :=
 bif (decide (s1b.2.1 < (l_.length : Int))) then (idx l_ s1b.2.1).bind fun x85 => (idx l_ s1b.2.1).bind fun x86 => bif (decide ((x86.size : Int) > 50)) then (gQ3q).bind fun y88 => some (.inr (y88)) else (q21 (Val.mk 3 0 x85 [] [])).bind fun y89 => bif (!decide (y89 = 0)) then (gQ3q).bind fun y91 => some (.inr (y91)) else q8 (gQ3h l_ x85 s1b) 0 else q8 (gQ3j by_ s1b) 1
noncomputable def gQ3b  (l_ : List ByteArray) (by_ : ByteArray) : Option (Bool) :=
 bif (decide ((l_.length : Int) > 60)) then (gQ3q).bind fun y2 => some (y2) else bif (decide ((by_.size : Int) > 50)) then (gQ3q).bind fun y4 => some (y4) else (q21 (Val.mk 3 0 by_ [] [])).bind fun y5 => bif (!decide (y5 = 0)) then (gQ3q).bind fun y7 => some (y7) else bif (!decide (by_ = eS)) then q8 (gQ3c l_ by_) ((decide ((l_.length : Int) > 0)), true, 0, []) else q8 (gQ3g l_ by_) (true, 0, [])
theorem gQ3k (hb : Base E E0 G) (he : ∀ w, E w → EnvV w)   (l_ : List ByteArray) (by_ : ByteArray) : ∀ r_ : Bool, gQ3b l_ by_ = some r_ →
 Pure E E0 Tryz.prog 6 [.cell (vL flS l_), .cell (vS by_)] (c1 (vB r_)) := by
 refine fnE hb Tryz.func6 rfl fun r_ hq => ?_
 refine ifE hb 11 [30, 31] [] hq (fun hq _ => ?_) (fun hq _ => ?_)
 refine q6 hb 14 hq (gQ3r hb he ) fun y2 hy2 hq => ?_
 exact retE hb 2 (injO hq).symm
 refine ifE hb 5 [34, 35, 36] [] hq (fun hq _ => ?_) (fun hq _ => ?_)
 refine q6 hb 9 hq (gQ3r hb he ) fun y4 hy4 hq => ?_
 exact retE hb 2 (injO hq).symm
 refine q6 hb 2 hq (q9q hb he (Val.mk 3 0 by_ [] [])) fun y5 hy5 hq => ?_
 refine ifE hb 3 [40, 41] [] hq (fun hq _ => ?_) (fun hq _ => ?_)
 refine q6 hb 3 hq (gQ3r hb he ) fun y7 hy7 hq => ?_
 exact retE hb 2 (injO hq).symm
 refine ifE hb 13 [45, 46] [] hq (fun hq hc8 => ?_) (fun hq _ => ?_)
 refine cpE hb 13 [0, 1, 5, 6, 7, 8] (s' := ⟨none, [pk Tryz.f6 250], [(0, [pk Tryz.f6 63])], sl 225 [(0, c1 (vL flS l_)), (1, c1 (vS by_)), (5, pt 0), (6, c1 (vB (decide ((l_.length : Int) > 0)))), (7, c1 (vB true)), (8, c1 (vi 0))], [bx [vi 4, vi 0, vS eS, vN, vN]]⟩) ?_
 refine q69 hb 0 0 3 5 (cs := [vi 4, vi 0, vS eS, vN, vN]) (by kernel_rfl) ?_
 refine qj hb 0 (gQ3c l_ by_) (fun s1 => sl 225 [(0, c1 (vL flS l_)), (1, c1 (vS by_)), (5, pt 0), (6, c1 (vB s1.1)), (7, c1 (vB s1.2.1)), (8, c1 (vi s1.2.2.1))]) (fun s1 => [bx [vi 4, vi 0, vS eS, vO flV 1 s1.2.2.2, vN], some (arO true flV.sz 0 (flV.f s1.2.2.2))]) [0, 1, 5, 6, 7, 8] [] 2 (s0 := ((decide ((l_.length : Int) > 0)), true, 0, [])) ⟨(by kernel_rfl), (qc _ _ _ _ _), trivial⟩ hq (fun s1 o1 hq hn1 he1 => ?_)
 refine ifE hb 8 [54] [] hq (fun hq _ => ?_) (fun hq _ => ?_)
 refine idxE hb flS 8 hq fun x10 hx10 hq => ?_
 refine idxE hb flS 10 hq fun x11 hx11 hq => ?_
 refine ifE hb 4 [67, 68] [] hq (fun hq _ => ?_) (fun hq _ => ?_)
 refine q6 hb 8 hq (gQ3r hb he ) fun y13 hy13 hq => ?_
 exact retE hb 2 (he1 _ (injO hq))
 refine q6 hb 1 hq (q9q hb he (Val.mk 3 0 x10 [] [])) fun y14 hy14 hq => ?_
 refine ifE hb 3 [71, 72] [] hq (fun hq _ => ?_) (fun hq _ => ?_)
 refine q6 hb 3 hq (gQ3r hb he ) fun y16 hy16 hq => ?_
 exact retE hb 2 (he1 _ (injO hq))
 refine cpE hb 8 [0, 1, 5, 6, 7, 8, 9, 10] (s' := ⟨none, [pk Tryz.f6 128154], [(2, [pk Tryz.f6 32039]), (1, [pk Tryz.f6 2003, pk Tryz.f6 250]), (0, [pk Tryz.f6 63])], sl 225 [(0, c1 (vL flS l_)), (1, c1 (vS by_)), (5, pt 0), (6, c1 (vB s1.1)), (7, c1 (vB s1.2.1)), (8, c1 (vi s1.2.2.1)), (9, pt 2), (10, c1 (vi 0))], [bx [vi 4, vi 0, vS eS, vO flV 1 s1.2.2.2, vN], some (arO true flV.sz 0 (flV.f s1.2.2.2)), bx [vi 3, vi 0, vS x10, vN, vN]]⟩) ?_
 refine qj hb 0 (gQ3d l_ by_ x10 s1) (fun s2 => sl 225 [(0, c1 (vL flS l_)), (1, c1 (vS by_)), (5, pt 0), (6, c1 (vB s2.2)), (7, c1 (vB s1.2.1)), (8, c1 (vi s1.2.2.1)), (9, pt 2), (10, c1 (vi s2.1))]) (fun s2 => [bx [vi 4, vi 0, vS eS, vO flV 1 s1.2.2.2, vN], some (arO true flV.sz 0 (flV.f s1.2.2.2)), bx [vi 3, vi 0, vS x10, vN, vN]]) [0, 1, 5, 6, 7, 8, 9, 10] [] 3 (s0 := (0, s1.1)) ⟨(by kernel_rfl), (qc _ _ _ _ _), (by kernel_rfl), trivial⟩ hq (fun s2 o2 hq hn2 he2 => ?_)
 refine idxE hb flS 6 hq fun x17 hx17 hq => ?_
 refine ifE hb 4 [80] [] hq (fun hq _ => ?_) (fun hq _ => ?_)
 refine q1b hb mixed 4 13 [] ?_
 refine ifE hb 2 [6, 83, 84] [] hq (fun hq _ => ?_) (fun hq _ => ?_)
 refine knE hb 3 [86, 87] [] (b := (decide (by_ = eS))) (v := false) (not_t hc8) ?_
 refine idxE hb flS 2 hq fun x20 hx20 hq => ?_
 refine q9x hb 2 hq fun c21 hc21 hq => ?_
 refine q9x hb 1 hq fun c22 hc22 hq => ?_
 exact qd hb 12 [0, 1, 5, 6, 7, 8, 9, 10] [] 3 (hn2 _ (injO hq)) ⟨(by kernel_rfl), (qc _ _ _ _ _), (by kernel_rfl), trivial⟩
 exact qd hb 23 [0, 1, 5, 6, 7, 8, 9, 10] [] 3 (hn2 _ (injO hq)) ⟨(by kernel_rfl), (qc _ _ _ _ _), (by kernel_rfl), trivial⟩
 refine qj hb 8 (gQ3e l_ x10 s1 s2) (fun s3 => sl 225 [(0, c1 (vL flS l_)), (1, c1 (vS by_)), (5, pt 0), (6, c1 (vB s2.2)), (7, c1 (vB s3.2)), (8, c1 (vi s1.2.2.1)), (9, pt 2), (11, c1 (vi s3.1))]) (fun s3 => [bx [vi 4, vi 0, vS eS, vO flV 1 s1.2.2.2, vN], some (arO true flV.sz 0 (flV.f s1.2.2.2)), bx [vi 3, vi 0, vS x10, vN, vN]]) [0, 1, 5, 6, 7, 8, 9, 11] [] 3 (s0 := (0, s1.2.1)) ⟨(by kernel_rfl), (qc _ _ _ _ _), (by kernel_rfl), trivial⟩ hq (fun s3 o3 hq hn3 he3 => ?_)
 refine ifE hb 7 [101] [] hq (fun hq _ => ?_) (fun hq _ => ?_)
 refine q1b hb mixed 4 10 [] ?_
 refine ifE hb 2 [7, 104, 105] [] hq (fun hq _ => ?_) (fun hq _ => ?_)
 refine idxE hb flS 2 hq fun x25 hx25 hq => ?_
 refine idxE hb flS 3 hq fun x26 hx26 hq => ?_
 exact qd hb 12 [0, 1, 5, 6, 7, 8, 9, 11] [] 3 (hn3 _ (injO hq)) ⟨(by kernel_rfl), (qc _ _ _ _ _), (by kernel_rfl), trivial⟩
 exact qd hb 19 [0, 1, 5, 6, 7, 8, 9, 11] [] 3 (hn3 _ (injO hq)) ⟨(by kernel_rfl), (qc _ _ _ _ _), (by kernel_rfl), trivial⟩
 refine q20 flV hb 7 1 true 0 (flV.one (Val.mk 3 0 x10 [] [])) hq fun l27 hl27 hq => ?_
 exact qd hb 9 [0, 1, 5, 6, 7, 8] [] 2 (hn1 _ ((he2 _ ((he3 _ (injO hq)).symm)).symm)) ⟨(by kernel_rfl), (qc _ _ _ _ _), trivial⟩
 refine qj hb 8 (gQ3f by_ s1) (fun s2 => sl 225 [(1, c1 (vS by_)), (5, pt 0), (6, c1 (vB s2.2)), (7, c1 (vB s1.2.1)), (12, c1 (vi s2.1))]) (fun s2 => [bx [vi 4, vi 0, vS eS, vO flV 1 s1.2.2.2, vN], some (arO true flV.sz 0 (flV.f s1.2.2.2))]) [1, 5, 6, 7, 12] [] 2 (s0 := (1, s1.1)) ⟨(by kernel_rfl), (qc _ _ _ _ _), trivial⟩ hq (fun s2 o2 hq hn2 he2 => ?_)
 refine ifE hb 8 [125] [] hq (fun hq _ => ?_) (fun hq _ => ?_)
 refine q1b hb mixed 4 7 [] ?_
 refine ifE hb 2 [6, 128, 129] [] hq (fun hq _ => ?_) (fun hq _ => ?_)
 refine q9x hb 2 hq fun c30 hc30 hq => ?_
 refine q9x hb 1 hq fun c31 hc31 hq => ?_
 exact qd hb 11 [1, 5, 6, 7, 12] [] 2 (hn2 _ (injO hq)) ⟨(by kernel_rfl), (qc _ _ _ _ _), trivial⟩
 exact qd hb 16 [1, 5, 6, 7, 12] [] 2 (hn2 _ (injO hq)) ⟨(by kernel_rfl), (qc _ _ _ _ _), trivial⟩
 refine q22 hb 10 1 true (sz := flV.sz) (fr := 0) (cs := flV.f s1.2.2.2) (by kernel_rfl) (Nat.zero_le _) ?_
 refine q4w hb 0 0 3 (cs := [vi 4, vi 0, vS eS, vO flV 1 s1.2.2.2, vN]) (c := vO flV 1 s1.2.2.2) (q3p flV (nb := true) (id := 1) (xs := s1.2.2.2) (by kernel_rfl)) (by kernel_rfl) ?_
 have hp := (gQ0p hb he (⟨#[106, 111, 105, 110]⟩ : ByteArray) [(Val.mk 3 0 by_ [] []), (Val.mk 4 0 eS s1.2.2.2 [])])
 simp only [aV, aT, kind_mk, qy, qz, qw, qx, Ty.kind_mk, Ty.elems_mk, Ty.names_mk, q12, q15, q14, q11, q10, q13] at hp
 refine q6 hb 4 hq hp fun y32 hy32 hq => ?_
 have hp := (gQ0p hb he (⟨#[115, 112, 108, 105, 116]⟩ : ByteArray) [(Val.mk 3 0 by_ [] []), y32.1])
 simp only [aV, aT, kind_mk, qy, qz, qw, qx, Ty.kind_mk, Ty.elems_mk, Ty.names_mk, q12, q15, q14, q11, q10, q13] at hp
 refine q6 hb 12 hq hp fun y33 hy33 hq => ?_
 refine ifE hb 12 [6, 153, 154] [] hq (fun hq _ => ?_) (fun hq _ => ?_)
 refine ifE hb 4 [156, 157, 158] [] hq (fun hq _ => ?_) (fun hq _ => ?_)
 refine ifE hb 3 [160, 161] [] hq (fun hq _ => ?_) (fun hq _ => ?_)
 exact retE hb 12 (he1 _ ((he2 _ (injO hq)).symm))
 refine q6 hb 2 hq (tQ70 hb he y33.1 (Val.mk 4 0 eS s1.2.2.2 [])) fun y37 hy37 hq => ?_
 refine ifE hb 4 [165, 166, 167] [] hq (fun hq _ => ?_) (fun hq _ => ?_)
 exact retE hb 5 (he1 _ ((he2 _ (injO hq)).symm))
 have hp := (gQ0p hb he (⟨#[114, 101, 118, 101, 114, 115, 101]⟩ : ByteArray) [(Val.mk 4 0 eS s1.2.2.2 [])])
 simp only [aV, aT, kind_mk, qy, qz, qw, qx, Ty.kind_mk, Ty.elems_mk, Ty.names_mk, q12, q15, q14, q11, q10, q13] at hp
 refine q6 hb 6 hq hp fun y39 hy39 hq => ?_
 have hp := (gQ0p hb he (⟨#[114, 101, 118, 101, 114, 115, 101]⟩ : ByteArray) [y39.1])
 simp only [aV, aT, kind_mk, qy, qz, qw, qx, Ty.kind_mk, Ty.elems_mk, Ty.names_mk, q12, q15, q14, q11, q10, q13] at hp
 refine q6 hb 11 hq hp fun y40 hy40 hq => ?_
 refine ifE hb 13 [181, 182] [] hq (fun hq _ => ?_) (fun hq _ => ?_)
 exact retE hb 15 (he1 _ ((he2 _ (injO hq)).symm))
 refine ifE hb 4 [184, 185, 186] [] hq (fun hq _ => ?_) (fun hq _ => ?_)
 exact retE hb 11 (he1 _ ((he2 _ (injO hq)).symm))
 refine q6 hb 2 hq (tQ70 hb he y40.1 (Val.mk 4 0 eS s1.2.2.2 [])) fun y43 hy43 hq => ?_
 refine ifE hb 3 [190, 191] [] hq (fun hq _ => ?_) (fun hq _ => ?_)
 exact retE hb 5 (he1 _ ((he2 _ (injO hq)).symm))
 have hp := (gQ0p hb he (⟨#[122, 105, 112, 109, 97, 112]⟩ : ByteArray) [(Val.mk 4 0 eS s1.2.2.2 []), y39.1])
 simp only [aV, aT, kind_mk, qy, qz, qw, qx, Ty.kind_mk, Ty.elems_mk, Ty.names_mk, q12, q15, q14, q11, q10, q13] at hp
 refine q6 hb 7 hq hp fun y45 hy45 hq => ?_
 refine ifE hb 15 [202] [] hq (fun hq _ => ?_) (fun hq _ => ?_)
 exact retE hb 5 (he1 _ ((he2 _ (injO hq)).symm))
 have hp := (gQ0p hb he (⟨#[107, 101, 121, 115]⟩ : ByteArray) [y45.1])
 simp only [aV, aT, kind_mk, qy, qz, qw, qx, Ty.kind_mk, Ty.elems_mk, Ty.names_mk, q12, q15, q14, q11, q10, q13] at hp
 refine q6 hb 6 hq hp fun y47 hy47 hq => ?_
 have hp := (gQ0p hb he (⟨#[115, 111, 114, 116]⟩ : ByteArray) [(Val.mk 4 0 eS s1.2.2.2 [])])
 simp only [aV, aT, kind_mk, qy, qz, qw, qx, Ty.kind_mk, Ty.elems_mk, Ty.names_mk, q12, q15, q14, q11, q10, q13] at hp
 refine q6 hb 11 hq hp fun y48 hy48 hq => ?_
 refine ifE hb 12 [216, 217] [] hq (fun hq _ => ?_) (fun hq _ => ?_)
 refine q6 hb 5 hq (gQ3r hb he ) fun y50 hy50 hq => ?_
 exact retE hb 3 (he1 _ ((he2 _ (injO hq)).symm))
 refine q6 hb 2 hq (tQ70 hb he y47.1 y48.1) fun y51 hy51 hq => ?_
 refine ifE hb 2 [220, 221, 222] [] hq (fun hq _ => ?_) (fun hq _ => ?_)
 refine q6 hb 0 hq (gQ3r hb he ) fun y53 hy53 hq => ?_
 exact retE hb 3 (he1 _ ((he2 _ (injO hq)).symm))
 exact retE hb 4 (he1 _ ((he2 _ (injO hq)).symm))
 have hp := (gQ0p hb he (⟨#[114, 101, 118, 101, 114, 115, 101]⟩ : ByteArray) [(Val.mk 4 0 eS s1.2.2.2 [])])
 simp only [aV, aT, kind_mk, qy, qz, qw, qx, Ty.kind_mk, Ty.elems_mk, Ty.names_mk, q12, q15, q14, q11, q10, q13] at hp
 refine q6 hb 16 hq hp fun y54 hy54 hq => ?_
 have hp := (gQ0p hb he (⟨#[114, 101, 118, 101, 114, 115, 101]⟩ : ByteArray) [y54.1])
 simp only [aV, aT, kind_mk, qy, qz, qw, qx, Ty.kind_mk, Ty.elems_mk, Ty.names_mk, q12, q15, q14, q11, q10, q13] at hp
 refine q6 hb 11 hq hp fun y55 hy55 hq => ?_
 refine ifE hb 13 [181, 182] [] hq (fun hq _ => ?_) (fun hq _ => ?_)
 exact retE hb 15 (he1 _ ((he2 _ (injO hq)).symm))
 refine ifE hb 4 [184, 185, 186] [] hq (fun hq _ => ?_) (fun hq _ => ?_)
 exact retE hb 11 (he1 _ ((he2 _ (injO hq)).symm))
 refine q6 hb 2 hq (tQ70 hb he y55.1 (Val.mk 4 0 eS s1.2.2.2 [])) fun y58 hy58 hq => ?_
 refine ifE hb 3 [190, 191] [] hq (fun hq _ => ?_) (fun hq _ => ?_)
 exact retE hb 5 (he1 _ ((he2 _ (injO hq)).symm))
 have hp := (gQ0p hb he (⟨#[122, 105, 112, 109, 97, 112]⟩ : ByteArray) [(Val.mk 4 0 eS s1.2.2.2 []), y54.1])
 simp only [aV, aT, kind_mk, qy, qz, qw, qx, Ty.kind_mk, Ty.elems_mk, Ty.names_mk, q12, q15, q14, q11, q10, q13] at hp
 refine q6 hb 7 hq hp fun y60 hy60 hq => ?_
 refine ifE hb 15 [202] [] hq (fun hq _ => ?_) (fun hq _ => ?_)
 exact retE hb 5 (he1 _ ((he2 _ (injO hq)).symm))
 have hp := (gQ0p hb he (⟨#[107, 101, 121, 115]⟩ : ByteArray) [y60.1])
 simp only [aV, aT, kind_mk, qy, qz, qw, qx, Ty.kind_mk, Ty.elems_mk, Ty.names_mk, q12, q15, q14, q11, q10, q13] at hp
 refine q6 hb 6 hq hp fun y62 hy62 hq => ?_
 have hp := (gQ0p hb he (⟨#[115, 111, 114, 116]⟩ : ByteArray) [(Val.mk 4 0 eS s1.2.2.2 [])])
 simp only [aV, aT, kind_mk, qy, qz, qw, qx, Ty.kind_mk, Ty.elems_mk, Ty.names_mk, q12, q15, q14, q11, q10, q13] at hp
 refine q6 hb 11 hq hp fun y63 hy63 hq => ?_
 refine ifE hb 12 [216, 217] [] hq (fun hq _ => ?_) (fun hq _ => ?_)
 refine q6 hb 5 hq (gQ3r hb he ) fun y65 hy65 hq => ?_
 exact retE hb 3 (he1 _ ((he2 _ (injO hq)).symm))
 refine q6 hb 2 hq (tQ70 hb he y62.1 y63.1) fun y66 hy66 hq => ?_
 refine ifE hb 2 [220, 221, 222] [] hq (fun hq _ => ?_) (fun hq _ => ?_)
 refine q6 hb 0 hq (gQ3r hb he ) fun y68 hy68 hq => ?_
 exact retE hb 3 (he1 _ ((he2 _ (injO hq)).symm))
 exact retE hb 4 (he1 _ ((he2 _ (injO hq)).symm))
 have hp := (gQ0p hb he (⟨#[114, 101, 118, 101, 114, 115, 101]⟩ : ByteArray) [(Val.mk 4 0 eS s1.2.2.2 [])])
 simp only [aV, aT, kind_mk, qy, qz, qw, qx, Ty.kind_mk, Ty.elems_mk, Ty.names_mk, q12, q15, q14, q11, q10, q13] at hp
 refine q6 hb 20 hq hp fun y69 hy69 hq => ?_
 have hp := (gQ0p hb he (⟨#[114, 101, 118, 101, 114, 115, 101]⟩ : ByteArray) [y69.1])
 simp only [aV, aT, kind_mk, qy, qz, qw, qx, Ty.kind_mk, Ty.elems_mk, Ty.names_mk, q12, q15, q14, q11, q10, q13] at hp
 refine q6 hb 11 hq hp fun y70 hy70 hq => ?_
 refine ifE hb 13 [181, 182] [] hq (fun hq _ => ?_) (fun hq _ => ?_)
 exact retE hb 15 (he1 _ ((he2 _ (injO hq)).symm))
 refine ifE hb 4 [184, 185, 186] [] hq (fun hq _ => ?_) (fun hq _ => ?_)
 exact retE hb 11 (he1 _ ((he2 _ (injO hq)).symm))
 refine q6 hb 2 hq (tQ70 hb he y70.1 (Val.mk 4 0 eS s1.2.2.2 [])) fun y73 hy73 hq => ?_
 refine ifE hb 3 [190, 191] [] hq (fun hq _ => ?_) (fun hq _ => ?_)
 exact retE hb 5 (he1 _ ((he2 _ (injO hq)).symm))
 have hp := (gQ0p hb he (⟨#[122, 105, 112, 109, 97, 112]⟩ : ByteArray) [(Val.mk 4 0 eS s1.2.2.2 []), y69.1])
 simp only [aV, aT, kind_mk, qy, qz, qw, qx, Ty.kind_mk, Ty.elems_mk, Ty.names_mk, q12, q15, q14, q11, q10, q13] at hp
 refine q6 hb 7 hq hp fun y75 hy75 hq => ?_
 refine ifE hb 15 [202] [] hq (fun hq _ => ?_) (fun hq _ => ?_)
 exact retE hb 5 (he1 _ ((he2 _ (injO hq)).symm))
 have hp := (gQ0p hb he (⟨#[107, 101, 121, 115]⟩ : ByteArray) [y75.1])
 simp only [aV, aT, kind_mk, qy, qz, qw, qx, Ty.kind_mk, Ty.elems_mk, Ty.names_mk, q12, q15, q14, q11, q10, q13] at hp
 refine q6 hb 6 hq hp fun y77 hy77 hq => ?_
 have hp := (gQ0p hb he (⟨#[115, 111, 114, 116]⟩ : ByteArray) [(Val.mk 4 0 eS s1.2.2.2 [])])
 simp only [aV, aT, kind_mk, qy, qz, qw, qx, Ty.kind_mk, Ty.elems_mk, Ty.names_mk, q12, q15, q14, q11, q10, q13] at hp
 refine q6 hb 11 hq hp fun y78 hy78 hq => ?_
 refine ifE hb 12 [216, 217] [] hq (fun hq _ => ?_) (fun hq _ => ?_)
 refine q6 hb 5 hq (gQ3r hb he ) fun y80 hy80 hq => ?_
 exact retE hb 3 (he1 _ ((he2 _ (injO hq)).symm))
 refine q6 hb 2 hq (tQ70 hb he y77.1 y78.1) fun y81 hy81 hq => ?_
 refine ifE hb 2 [220, 221, 222] [] hq (fun hq _ => ?_) (fun hq _ => ?_)
 refine q6 hb 0 hq (gQ3r hb he ) fun y83 hy83 hq => ?_
 exact retE hb 3 (he1 _ ((he2 _ (injO hq)).symm))
 exact retE hb 4 (he1 _ ((he2 _ (injO hq)).symm))
 refine cpE hb 13 [0, 1, 5, 6, 7, 8] (s' := ⟨none, [pk Tryz.f6 250], [(0, [pk Tryz.f6 63])], sl 225 [(0, c1 (vL flS l_)), (1, c1 (vS by_)), (5, pt 0), (6, c1 (vB false)), (7, c1 (vB true)), (8, c1 (vi 0))], [bx [vi 4, vi 0, vS eS, vN, vN]]⟩) ?_
 refine q69 hb 0 0 3 5 (cs := [vi 4, vi 0, vS eS, vN, vN]) (by kernel_rfl) ?_
 refine qj hb 0 (gQ3g l_ by_) (fun s1b => sl 225 [(0, c1 (vL flS l_)), (1, c1 (vS by_)), (5, pt 0), (6, c1 (vB false)), (7, c1 (vB s1b.1)), (8, c1 (vi s1b.2.1))]) (fun s1b => [bx [vi 4, vi 0, vS eS, vO flV 1 s1b.2.2, vN], some (arO true flV.sz 0 (flV.f s1b.2.2))]) [0, 1, 5, 6, 7, 8] [] 2 (s0 := (true, 0, [])) ⟨(by kernel_rfl), (qc _ _ _ _ _), trivial⟩ hq (fun s1b o1 hq hn1 he1 => ?_)
 refine ifE hb 8 [54] [] hq (fun hq _ => ?_) (fun hq _ => ?_)
 refine idxE hb flS 8 hq fun x85 hx85 hq => ?_
 refine idxE hb flS 10 hq fun x86 hx86 hq => ?_
 refine ifE hb 4 [67, 68] [] hq (fun hq _ => ?_) (fun hq _ => ?_)
 refine q6 hb 8 hq (gQ3r hb he ) fun y88 hy88 hq => ?_
 exact retE hb 2 (he1 _ (injO hq))
 refine q6 hb 1 hq (q9q hb he (Val.mk 3 0 x85 [] [])) fun y89 hy89 hq => ?_
 refine ifE hb 3 [71, 72] [] hq (fun hq _ => ?_) (fun hq _ => ?_)
 refine q6 hb 3 hq (gQ3r hb he ) fun y91 hy91 hq => ?_
 exact retE hb 2 (he1 _ (injO hq))
 refine cpE hb 8 [0, 1, 5, 6, 7, 8, 9, 10] (s' := ⟨none, [pk Tryz.f6 128154], [(2, [pk Tryz.f6 32039]), (1, [pk Tryz.f6 2003, pk Tryz.f6 250]), (0, [pk Tryz.f6 63])], sl 225 [(0, c1 (vL flS l_)), (1, c1 (vS by_)), (5, pt 0), (6, c1 (vB false)), (7, c1 (vB s1b.1)), (8, c1 (vi s1b.2.1)), (9, pt 2), (10, c1 (vi 0))], [bx [vi 4, vi 0, vS eS, vO flV 1 s1b.2.2, vN], some (arO true flV.sz 0 (flV.f s1b.2.2)), bx [vi 3, vi 0, vS x85, vN, vN]]⟩) ?_
 refine qj hb 0 (gQ3h l_ x85 s1b) (fun s2b => sl 225 [(0, c1 (vL flS l_)), (1, c1 (vS by_)), (5, pt 0), (6, c1 (vB false)), (7, c1 (vB s1b.1)), (8, c1 (vi s1b.2.1)), (9, pt 2), (10, c1 (vi s2b))]) (fun s2b => [bx [vi 4, vi 0, vS eS, vO flV 1 s1b.2.2, vN], some (arO true flV.sz 0 (flV.f s1b.2.2)), bx [vi 3, vi 0, vS x85, vN, vN]]) [0, 1, 5, 6, 7, 8, 9, 10] [] 3 (s0 := 0) ⟨(by kernel_rfl), (qc _ _ _ _ _), (by kernel_rfl), trivial⟩ hq (fun s2b o2 hq hn2 he2 => ?_)
 refine idxE hb flS 6 hq fun x92 hx92 hq => ?_
 refine ifE hb 4 [80] [] hq (fun hq _ => ?_) (fun hq _ => ?_)
 refine q1b hb mixed 4 13 [] ?_
 exact qd hb 25 [0, 1, 5, 6, 7, 8, 9, 10] [] 3 (hn2 _ (injO hq)) ⟨(by kernel_rfl), (qc _ _ _ _ _), (by kernel_rfl), trivial⟩
 refine qj hb 8 (gQ3i l_ x85 s1b) (fun s3 => sl 225 [(0, c1 (vL flS l_)), (1, c1 (vS by_)), (5, pt 0), (6, c1 (vB false)), (7, c1 (vB s3.2)), (8, c1 (vi s1b.2.1)), (9, pt 2), (11, c1 (vi s3.1))]) (fun s3 => [bx [vi 4, vi 0, vS eS, vO flV 1 s1b.2.2, vN], some (arO true flV.sz 0 (flV.f s1b.2.2)), bx [vi 3, vi 0, vS x85, vN, vN]]) [0, 1, 5, 6, 7, 8, 9, 11] [] 3 (s0 := (0, s1b.1)) ⟨(by kernel_rfl), (qc _ _ _ _ _), (by kernel_rfl), trivial⟩ hq (fun s3 o3 hq hn3 he3 => ?_)
 refine ifE hb 7 [101] [] hq (fun hq _ => ?_) (fun hq _ => ?_)
 refine q1b hb mixed 4 10 [] ?_
 refine ifE hb 2 [7, 104, 105] [] hq (fun hq _ => ?_) (fun hq _ => ?_)
 refine idxE hb flS 2 hq fun x96 hx96 hq => ?_
 refine idxE hb flS 3 hq fun x97 hx97 hq => ?_
 exact qd hb 12 [0, 1, 5, 6, 7, 8, 9, 11] [] 3 (hn3 _ (injO hq)) ⟨(by kernel_rfl), (qc _ _ _ _ _), (by kernel_rfl), trivial⟩
 exact qd hb 19 [0, 1, 5, 6, 7, 8, 9, 11] [] 3 (hn3 _ (injO hq)) ⟨(by kernel_rfl), (qc _ _ _ _ _), (by kernel_rfl), trivial⟩
 refine q20 flV hb 7 1 true 0 (flV.one (Val.mk 3 0 x85 [] [])) hq fun l98 hl98 hq => ?_
 exact qd hb 9 [0, 1, 5, 6, 7, 8] [] 2 (hn1 _ ((he2 _ ((he3 _ (injO hq)).symm)).symm)) ⟨(by kernel_rfl), (qc _ _ _ _ _), trivial⟩
 refine qj hb 8 (gQ3j by_ s1b) (fun s2b => sl 225 [(1, c1 (vS by_)), (5, pt 0), (6, c1 (vB false)), (7, c1 (vB s1b.1)), (12, c1 (vi s2b))]) (fun s2b => [bx [vi 4, vi 0, vS eS, vO flV 1 s1b.2.2, vN], some (arO true flV.sz 0 (flV.f s1b.2.2))]) [1, 5, 6, 7, 12] [] 2 (s0 := 1) ⟨(by kernel_rfl), (qc _ _ _ _ _), trivial⟩ hq (fun s2b o2 hq hn2 he2 => ?_)
 refine ifE hb 8 [125] [] hq (fun hq _ => ?_) (fun hq _ => ?_)
 refine q1b hb mixed 4 7 [] ?_
 exact qd hb 18 [1, 5, 6, 7, 12] [] 2 (hn2 _ (injO hq)) ⟨(by kernel_rfl), (qc _ _ _ _ _), trivial⟩
 refine q22 hb 10 1 true (sz := flV.sz) (fr := 0) (cs := flV.f s1b.2.2) (by kernel_rfl) (Nat.zero_le _) ?_
 refine q4w hb 0 0 3 (cs := [vi 4, vi 0, vS eS, vO flV 1 s1b.2.2, vN]) (c := vO flV 1 s1b.2.2) (q3p flV (nb := true) (id := 1) (xs := s1b.2.2) (by kernel_rfl)) (by kernel_rfl) ?_
 have hp := (gQ0p hb he (⟨#[106, 111, 105, 110]⟩ : ByteArray) [(Val.mk 3 0 by_ [] []), (Val.mk 4 0 eS s1b.2.2 [])])
 simp only [aV, aT, kind_mk, qy, qz, qw, qx, Ty.kind_mk, Ty.elems_mk, Ty.names_mk, q12, q15, q14, q11, q10, q13] at hp
 refine q6 hb 4 hq hp fun y100 hy100 hq => ?_
 have hp := (gQ0p hb he (⟨#[115, 112, 108, 105, 116]⟩ : ByteArray) [(Val.mk 3 0 by_ [] []), y100.1])
 simp only [aV, aT, kind_mk, qy, qz, qw, qx, Ty.kind_mk, Ty.elems_mk, Ty.names_mk, q12, q15, q14, q11, q10, q13] at hp
 refine q6 hb 12 hq hp fun y101 hy101 hq => ?_
 have hp := (gQ0p hb he (⟨#[114, 101, 118, 101, 114, 115, 101]⟩ : ByteArray) [(Val.mk 4 0 eS s1b.2.2 [])])
 simp only [aV, aT, kind_mk, qy, qz, qw, qx, Ty.kind_mk, Ty.elems_mk, Ty.names_mk, q12, q15, q14, q11, q10, q13] at hp
 refine q6 hb 32 hq hp fun y102 hy102 hq => ?_
 have hp := (gQ0p hb he (⟨#[114, 101, 118, 101, 114, 115, 101]⟩ : ByteArray) [y102.1])
 simp only [aV, aT, kind_mk, qy, qz, qw, qx, Ty.kind_mk, Ty.elems_mk, Ty.names_mk, q12, q15, q14, q11, q10, q13] at hp
 refine q6 hb 11 hq hp fun y103 hy103 hq => ?_
 refine ifE hb 13 [181, 182] [] hq (fun hq _ => ?_) (fun hq _ => ?_)
 exact retE hb 15 (he1 _ ((he2 _ (injO hq)).symm))
 refine ifE hb 4 [184, 185, 186] [] hq (fun hq _ => ?_) (fun hq _ => ?_)
 exact retE hb 11 (he1 _ ((he2 _ (injO hq)).symm))
 refine q6 hb 2 hq (tQ70 hb he y103.1 (Val.mk 4 0 eS s1b.2.2 [])) fun y106 hy106 hq => ?_
 refine ifE hb 3 [190, 191] [] hq (fun hq _ => ?_) (fun hq _ => ?_)
 exact retE hb 5 (he1 _ ((he2 _ (injO hq)).symm))
 have hp := (gQ0p hb he (⟨#[122, 105, 112, 109, 97, 112]⟩ : ByteArray) [(Val.mk 4 0 eS s1b.2.2 []), y102.1])
 simp only [aV, aT, kind_mk, qy, qz, qw, qx, Ty.kind_mk, Ty.elems_mk, Ty.names_mk, q12, q15, q14, q11, q10, q13] at hp
 refine q6 hb 7 hq hp fun y108 hy108 hq => ?_
 refine ifE hb 15 [202] [] hq (fun hq _ => ?_) (fun hq _ => ?_)
 exact retE hb 5 (he1 _ ((he2 _ (injO hq)).symm))
 have hp := (gQ0p hb he (⟨#[107, 101, 121, 115]⟩ : ByteArray) [y108.1])
 simp only [aV, aT, kind_mk, qy, qz, qw, qx, Ty.kind_mk, Ty.elems_mk, Ty.names_mk, q12, q15, q14, q11, q10, q13] at hp
 refine q6 hb 6 hq hp fun y110 hy110 hq => ?_
 have hp := (gQ0p hb he (⟨#[115, 111, 114, 116]⟩ : ByteArray) [(Val.mk 4 0 eS s1b.2.2 [])])
 simp only [aV, aT, kind_mk, qy, qz, qw, qx, Ty.kind_mk, Ty.elems_mk, Ty.names_mk, q12, q15, q14, q11, q10, q13] at hp
 refine q6 hb 11 hq hp fun y111 hy111 hq => ?_
 refine ifE hb 12 [216, 217] [] hq (fun hq _ => ?_) (fun hq _ => ?_)
 refine q6 hb 5 hq (gQ3r hb he ) fun y113 hy113 hq => ?_
 exact retE hb 3 (he1 _ ((he2 _ (injO hq)).symm))
 refine q6 hb 2 hq (tQ70 hb he y110.1 y111.1) fun y114 hy114 hq => ?_
 refine ifE hb 2 [220, 221, 222] [] hq (fun hq _ => ?_) (fun hq _ => ?_)
 refine q6 hb 0 hq (gQ3r hb he ) fun y116 hy116 hq => ?_
 exact retE hb 3 (he1 _ ((he2 _ (injO hq)).symm))
 exact retE hb 4 (he1 _ ((he2 _ (injO hq)).symm))
noncomputable def gQ3w (r_l18_fill : Val → List Val → Int → Int → Option (Val × Int)) (v_ : Val) (l_ : List Val) (depth_ : Int) (s1 : Int × Int × List Val) : Option ((Int × Int × List Val) ⊕ (Val × Int)) :=
 bif (decide (s1.1 < (v_.items.length : Int))) then bif (decide (depth_ > 0)) then (idx v_.items s1.1).bind fun x8 => (r_l18_fill x8 l_ s1.2.1 (IntKind.i64.wrap (depth_ - 1))).bind fun y9 => (app 80 s1.2.2 [y9.1]).bind fun l10 => some (.inl ((IntKind.i64.wrap (s1.1 + 1)), y9.2, l10)) else some (.inr ((Val.mk v_.kind v_.num v_.str s1.2.2 v_.keys), s1.2.1)) else some (.inr ((Val.mk v_.kind v_.num v_.str s1.2.2 v_.keys), s1.2.1))
noncomputable def gQ3x (r_l18_fill : Val → List Val → Int → Int → Option (Val × Int)) (v_ : Val) (l_ : List Val) (depth_ : Int) (s1 : Int × Int × List Val) : Option ((Int × Int × List Val) ⊕ (Val × Int)) :=
 bif (decide (s1.1 < (v_.items.length : Int))) then bif (decide (depth_ > 0)) then (idx v_.items s1.1).bind fun x13 => (r_l18_fill x13 l_ s1.2.1 (IntKind.i64.wrap (depth_ - 1))).bind fun y14 => (app 80 s1.2.2 [y14.1]).bind fun l15 => some (.inl ((IntKind.i64.wrap (s1.1 + 1)), y14.2, l15)) else some (.inr ((Val.mk v_.kind v_.num v_.str s1.2.2 v_.keys), s1.2.1)) else some (.inr ((Val.mk v_.kind v_.num v_.str s1.2.2 v_.keys), s1.2.1))
noncomputable def gQ3v (r_l18_fill : Val → List Val → Int → Int → Option (Val × Int)) (v_ : Val) (l_ : List Val) (at_ : Int) (depth_ : Int) : Option (Val × Int) :=
 bif (decide (v_.kind = 6)) then bif (decide ((l_.length : Int) > 0)) then (rem (l_.length : Int) at_).bind fun x3 => (idx l_ x3).bind fun x4 => (rem (l_.length : Int) (IntKind.i64.wrap (at_ + 1))).bind fun x5 => some (x4, x5) else q8 (gQ3w r_l18_fill v_ l_ depth_) (0, at_, []) else q8 (gQ3x r_l18_fill v_ l_ depth_) (0, at_, [])
theorem gQ3y (hb : Base E E0 G) (he : ∀ w, E w → EnvV w) (r_l18_fill : Val → List Val → Int → Int → Option (Val × Int)) (hr_l18_fill : ∀ (a0 : Val) (a1 : List Val) (a2 : Int) (a3 : Int) (r : Val × Int), r_l18_fill a0 a1 a2 a3 = some r → Pure E E0 Tryz.prog 44 [.agg (aV a0), .cell (vL flV a1), .cell (vi a2), .cell (vi a3)] (.tup [.agg (aV r.1), .cell (vi r.2)])) (v_ : Val) (l_ : List Val) (at_ : Int) (depth_ : Int) : ∀ r_ : Val × Int, gQ3v r_l18_fill v_ l_ at_ depth_ = some r_ →
 Pure E E0 Tryz.prog 44 [.agg (aV v_), .cell (vL flV l_), .cell (vi at_), .cell (vi depth_)] (.tup [.agg (aV r_.1), .cell (vi r_.2)]) := by
 refine fnE hb Tryz.func44 rfl fun r_ hq => ?_
 refine ifE hb 13 [16, 17] [] hq (fun hq _ => ?_) (fun hq _ => ?_)
 refine ifE hb 5 [20, 21] [] hq (fun hq _ => ?_) (fun hq _ => ?_)
 refine q1b hb mixed 2 12 [7, 8, 9, 10, 11] ?_
 refine remE (kd := .i64) hb 4 hq fun x3 hx3 hq => ?_
 refine idxE hb flV 0 hq fun x4 hx4 hq => ?_
 refine remE (kd := .i64) hb 5 hq fun x5 hx5 hq => ?_
 refine flokE hb 0 [7, 8, 9, 10, 11] (q8z (by kernel_rfl) (q8z (by kernel_rfl) (q8z (by kernel_rfl) (q8z (by kernel_rfl) (q8z (qrt (by kernel_rfl) hx5) qrs))))) ?_
 exact retE hb 3 (injO hq).symm
 refine q69 hb 22 2 3 5 (cs := [vi v_.kind, vi v_.num, vS v_.str, vN, vL flS v_.keys]) (by kernel_rfl) ?_
 refine qj hb 0 (gQ3w r_l18_fill v_ l_ depth_) (fun s1 => sl 76 [(1, c1 (vL flV l_)), (2, c1 (vi s1.2.1)), (3, c1 (vi depth_)), (4, pt 0), (8, pt 1), (10, pt 2), (11, c1 (vi s1.1))]) (fun s1 => [bx (aV v_), bx zV, bx [vi v_.kind, vi v_.num, vS v_.str, vO flV 3 s1.2.2, vL flS v_.keys], some (arO true flV.sz 0 (flV.f s1.2.2))]) [1, 2, 3, 4, 8, 10, 11] [] 4 (s0 := (0, at_, [])) ⟨(by kernel_rfl), (by kernel_rfl), (by kernel_rfl), (qc _ _ _ _ _), trivial⟩ hq (fun s1 o1 hq hn1 he1 => ?_)
 refine ifE hb 9 [47, 48] [] hq (fun hq _ => ?_) (fun hq _ => ?_)
 refine ifE hb 4 [50, 51] [] hq (fun hq _ => ?_) (fun hq _ => ?_)
 refine idxE hb flV 9 hq fun x8 hx8 hq => ?_
 refine q6 hb 5 hq (hr_l18_fill x8 l_ s1.2.1 (IntKind.i64.wrap (depth_ - 1))) fun y9 hy9 hq => ?_
 refine q20 flV hb 13 3 true 0 (flV.one y9.1) hq fun l10 hl10 hq => ?_
 exact qd hb 13 [1, 2, 3, 4, 8, 10, 11] [] 4 (hn1 _ (injO hq)) ⟨(by kernel_rfl), (by kernel_rfl), (by kernel_rfl), (qc _ _ _ _ _), trivial⟩
 refine q22 hb 9 3 true (sz := flV.sz) (fr := 0) (cs := flV.f s1.2.2) (by kernel_rfl) (Nat.zero_le _) ?_
 refine q4w hb 0 1 3 (cs := [vi v_.kind, vi v_.num, vS v_.str, vO flV 3 s1.2.2, vL flS v_.keys]) (c := vO flV 3 s1.2.2) (q3p flV (nb := true) (id := 3) (xs := s1.2.2) (by kernel_rfl)) (by kernel_rfl) ?_
 exact retE hb 0 (he1 _ (injO hq))
 refine q22 hb 13 3 true (sz := flV.sz) (fr := 0) (cs := flV.f s1.2.2) (by kernel_rfl) (Nat.zero_le _) ?_
 refine q4w hb 0 1 3 (cs := [vi v_.kind, vi v_.num, vS v_.str, vO flV 3 s1.2.2, vL flS v_.keys]) (c := vO flV 3 s1.2.2) (q3p flV (nb := true) (id := 3) (xs := s1.2.2) (by kernel_rfl)) (by kernel_rfl) ?_
 exact retE hb 0 (he1 _ (injO hq))
 refine q69 hb 27 2 3 5 (cs := [vi v_.kind, vi v_.num, vS v_.str, vN, vL flS v_.keys]) (by kernel_rfl) ?_
 refine qj hb 0 (gQ3x r_l18_fill v_ l_ depth_) (fun s1 => sl 76 [(1, c1 (vL flV l_)), (2, c1 (vi s1.2.1)), (3, c1 (vi depth_)), (4, pt 0), (8, pt 1), (10, pt 2), (11, c1 (vi s1.1))]) (fun s1 => [bx (aV v_), bx zV, bx [vi v_.kind, vi v_.num, vS v_.str, vO flV 3 s1.2.2, vL flS v_.keys], some (arO true flV.sz 0 (flV.f s1.2.2))]) [1, 2, 3, 4, 8, 10, 11] [] 4 (s0 := (0, at_, [])) ⟨(by kernel_rfl), (by kernel_rfl), (by kernel_rfl), (qc _ _ _ _ _), trivial⟩ hq (fun s1 o1 hq hn1 he1 => ?_)
 refine ifE hb 9 [47, 48] [] hq (fun hq _ => ?_) (fun hq _ => ?_)
 refine ifE hb 4 [50, 51] [] hq (fun hq _ => ?_) (fun hq _ => ?_)
 refine idxE hb flV 9 hq fun x13 hx13 hq => ?_
 refine q6 hb 5 hq (hr_l18_fill x13 l_ s1.2.1 (IntKind.i64.wrap (depth_ - 1))) fun y14 hy14 hq => ?_
 refine q20 flV hb 13 3 true 0 (flV.one y14.1) hq fun l15 hl15 hq => ?_
 exact qd hb 13 [1, 2, 3, 4, 8, 10, 11] [] 4 (hn1 _ (injO hq)) ⟨(by kernel_rfl), (by kernel_rfl), (by kernel_rfl), (qc _ _ _ _ _), trivial⟩
 refine q22 hb 9 3 true (sz := flV.sz) (fr := 0) (cs := flV.f s1.2.2) (by kernel_rfl) (Nat.zero_le _) ?_
 refine q4w hb 0 1 3 (cs := [vi v_.kind, vi v_.num, vS v_.str, vO flV 3 s1.2.2, vL flS v_.keys]) (c := vO flV 3 s1.2.2) (q3p flV (nb := true) (id := 3) (xs := s1.2.2) (by kernel_rfl)) (by kernel_rfl) ?_
 exact retE hb 0 (he1 _ (injO hq))
 refine q22 hb 13 3 true (sz := flV.sz) (fr := 0) (cs := flV.f s1.2.2) (by kernel_rfl) (Nat.zero_le _) ?_
 refine q4w hb 0 1 3 (cs := [vi v_.kind, vi v_.num, vS v_.str, vO flV 3 s1.2.2, vL flS v_.keys]) (c := vO flV 3 s1.2.2) (q3p flV (nb := true) (id := 3) (xs := s1.2.2) (by kernel_rfl)) (by kernel_rfl) ?_
 exact retE hb 0 (he1 _ (injO hq))
noncomputable def tQ6v (rec : Val → (List Val) × Int × Int → Option (Val × Int)) (a : Val) (b : (List Val) × Int × Int) : Option (Val × Int) :=
 gQ3v (fun a0 a1 a2 a3 => rec a0 (a1, a2, a3)) a b.1 b.2.1 b.2.2
noncomputable def tQ6t (a0 : Val) (a1 : List Val) (a2 : Int) (a3 : Int) : Option (Val × Int) := tieF relV wfV tQ6v a0 (a1, a2, a3)
theorem tQ6u (hb : Base E E0 G) (he : ∀ w, E w → EnvV w) (a0 : Val) (a1 : List Val) (a2 : Int) (a3 : Int) (r : Val × Int) (hq : tQ6t a0 a1 a2 a3 = some r) : Pure E E0 Tryz.prog 44 [.agg (aV a0), .cell (vL flV a1), .cell (vi a2), .cell (vi a3)] (.tup [.agg (aV r.1), .cell (vi r.2)]) :=
 q4s (C := fun a b r => Pure E E0 Tryz.prog 44 [.agg (aV a), .cell (vL flV b.1), .cell (vi b.2.1), .cell (vi b.2.2)] (.tup [.agg (aV r.1), .cell (vi r.2)])) (fun rec hr a b r hq => gQ3y hb he (fun a0 a1 a2 a3 => rec a0 (a1, a2, a3)) (fun a0 a1 a2 a3 r e => hr a0 (a1, a2, a3) r e) a b.1 b.2.1 b.2.2 r hq) a0 (a1, a2, a3) r hq
noncomputable def gQ48 (args_ : List Val) (l_ : List Val) (s1 : Int × Int × List Val) : Option ((Int × Int × List Val) ⊕ (List Val × Bool)) :=
 bif (decide (s1.2.1 < (args_.length : Int))) then (idx args_ s1.2.1).bind fun x2 => (tQ6t x2 l_ s1.1 32).bind fun y3 => (q9e y3.1 400).bind fun y4 => bif (!y4) then some (.inr ([], false)) else (q21 y3.1).bind fun y6 => bif (!decide (y6 = 0)) then some (.inr ([], false)) else (app 80 s1.2.2 [y3.1]).bind fun l8 => some (.inl (y3.2, (IntKind.i64.wrap (s1.2.1 + 1)), l8)) else some (.inr (s1.2.2, true))
noncomputable def gQ47  (args_ : List Val) (l_ : List Val) : Option (List Val × Bool) :=
 q8 (gQ48 args_ l_) (0, 0, [])
theorem gQ49 (hb : Base E E0 G) (he : ∀ w, E w → EnvV w)   (args_ : List Val) (l_ : List Val) : ∀ r_ : List Val × Bool, gQ47 args_ l_ = some r_ →
 Pure E E0 Tryz.prog 18 [.cell (vL flV args_), .cell (vL flV l_)] (.tup [.cell (vL flV r_.1), .cell (vB r_.2)]) := by
 refine fnE hb Tryz.func18 rfl fun r_ hq => ?_
 refine q3y hb 19 6 5 ?_
 refine qj hb 0 (gQ48 args_ l_) (fun s1 => sl 41 [(0, c1 (vL flV args_)), (1, c1 (vL flV l_)), (6, c1 (vO flV 0 s1.2.2)), (7, c1 (vi s1.1)), (8, c1 (vi s1.2.1))]) (fun s1 => [some (arO true flV.sz 0 (flV.f s1.2.2))]) [0, 1, 6, 7, 8] [] 1 (s0 := (0, 0, [])) ⟨(qc _ _ _ _ _), trivial⟩ hq (fun s1 o1 hq hn1 he1 => ?_)
 refine ifE hb 8 [14] [] hq (fun hq _ => ?_) (fun hq _ => ?_)
 refine idxE hb flV 8 hq fun x2 hx2 hq => ?_
 refine q6 hb 3 hq (tQ6u hb he x2 l_ s1.1 32) fun y3 hy3 hq => ?_
 refine q6 hb 11 hq (qm0 hb he y3.1 400) fun y4 hy4 hq => ?_
 refine ifE hb 2 [29, 30] [] hq (fun hq _ => ?_) (fun hq _ => ?_)
 exact retE hb 11 (he1 _ (injO hq))
 refine q6 hb 1 hq (q9q hb he y3.1) fun y6 hy6 hq => ?_
 refine ifE hb 3 [33, 34] [] hq (fun hq _ => ?_) (fun hq _ => ?_)
 exact retE hb 6 (he1 _ (injO hq))
 refine q20 flV hb 7 0 true 0 (flV.one y3.1) hq fun l8 hl8 hq => ?_
 exact qd hb 12 [0, 1, 6, 7, 8] [] 1 (hn1 _ (injO hq)) ⟨(qc _ _ _ _ _), trivial⟩
 refine q22 hb 8 0 true (sz := flV.sz) (fr := 0) (cs := flV.f s1.2.2) (by kernel_rfl) (Nat.zero_le _) ?_
 refine q4x hb 0 4 (c := vO flV 0 s1.2.2) (q3p flV (nb := true) (id := 0) (xs := s1.2.2) (by kernel_rfl)) ?_
 exact retE hb 0 (he1 _ (injO hq))
noncomputable def gQ69 (r_value_Refines : Val → Val → Option (Bool)) (s1_ : List Val) (s2_ : List Val) (s1i : Int) : Option ((Int) ⊕ (Bool)) :=
 bif (decide (s1i < (s1_.length : Int))) then (idx s1_ s1i).bind fun x3 => (idx s2_ s1i).bind fun x4 => (r_value_Refines x3 x4).bind fun y5 => bif (!y5) then some (.inr (false)) else some (.inl (IntKind.i64.wrap (s1i + 1))) else some (.inr (true))
noncomputable def gQ68 (r_value_Refines : Val → Val → Option (Bool)) (s1_ : List Val) (s2_ : List Val) : Option (Bool) :=
 bif (!decide ((s1_.length : Int) = (s2_.length : Int))) then some (false) else q8 (gQ69 r_value_Refines s1_ s2_) 0
theorem gQ6a (hb : Base E E0 G) (he : ∀ w, E w → EnvV w) (r_value_Refines : Val → Val → Option (Bool)) (hr_value_Refines : ∀ (a0 : Val) (a1 : Val) (r : Bool), r_value_Refines a0 a1 = some r → Pure E E0 Tryz.prog 19 [.agg (aV a0), .agg (aV a1)] (c1 (vB r))) (s1_ : List Val) (s2_ : List Val) : ∀ r_ : Bool, gQ68 r_value_Refines s1_ s2_ = some r_ →
 Pure E E0 Tryz.prog 46 [.cell (vL flV s1_), .cell (vL flV s2_), .cell (.pv (.sc (.func (.func 19) #[] #[])))] (c1 (vB r_)) := by
 refine fnE hb Tryz.func46 rfl fun r_ hq => ?_
 refine ifE hb 13 [14] [] hq (fun hq _ => ?_) (fun hq _ => ?_)
 exact retE hb 5 (injO hq).symm
 refine qj hb 10 (gQ69 r_value_Refines s1_ s2_) (fun s1i => sl 32 [(1, c1 (vL flV s2_)), (2, c1 (.pv (.sc (.func (.func 19) #[] #[])))), (15, c1 (vL flV s1_)), (16, c1 (vi (s1_.length : Int))), (17, c1 (vi s1i))]) (fun s1i => []) [1, 2, 15, 16, 17] [] 0 (s0 := 0) trivial hq (fun s1i o1 hq hn1 he1 => ?_)
 refine ifE hb 5 [18] [] hq (fun hq _ => ?_) (fun hq _ => ?_)
 refine idxE hb flV 7 hq fun x3 hx3 hq => ?_
 refine idxE hb flV 9 hq fun x4 hx4 hq => ?_
 refine q6 hb 9 hq (hr_value_Refines x3 x4) fun y5 hy5 hq => ?_
 refine ifE hb 2 [30] [] hq (fun hq _ => ?_) (fun hq _ => ?_)
 exact retE hb 5 (he1 _ (injO hq))
 exact qd hb 7 [1, 2, 15, 16, 17] [] 0 (hn1 _ (injO hq)) trivial
 exact retE hb 6 (he1 _ (injO hq))
noncomputable def gQ66 (r_value_Refines : Val → Val → Option (Bool)) (a_ : Val) (b_ : Val) : Option (Bool) :=
 bif (decide (b_.kind = 6)) then some (true) else bif (decide (a_.kind = b_.kind)) then bif (decide (a_.num = b_.num)) then bif (decide (a_.str = b_.str)) then (gQ4y a_.keys b_.keys).bind fun y5 => bif y5 then (gQ68 r_value_Refines a_.items b_.items).bind fun y7 => some (y7) else some (false) else some (false) else some (false) else some (false)
theorem gQ67 (hb : Base E E0 G) (he : ∀ w, E w → EnvV w) (r_value_Refines : Val → Val → Option (Bool)) (hr_value_Refines : ∀ (a0 : Val) (a1 : Val) (r : Bool), r_value_Refines a0 a1 = some r → Pure E E0 Tryz.prog 19 [.agg (aV a0), .agg (aV a1)] (c1 (vB r))) (a_ : Val) (b_ : Val) : ∀ r_ : Bool, gQ66 r_value_Refines a_ b_ = some r_ →
 Pure E E0 Tryz.prog 19 [.agg (aV a_), .agg (aV b_)] (c1 (vB r_)) := by
 refine fnE hb Tryz.func19 rfl fun r_ hq => ?_
 refine ifE hb 13 [7] [] hq (fun hq _ => ?_) (fun hq _ => ?_)
 exact retE hb 5 (injO hq).symm
 refine ifE hb 10 [12, 13] [] hq (fun hq _ => ?_) (fun hq _ => ?_)
 refine ifE hb 7 [18, 19, 20] [] hq (fun hq _ => ?_) (fun hq _ => ?_)
 refine ifE hb 7 [25, 26, 27] [] hq (fun hq _ => ?_) (fun hq _ => ?_)
 refine q6 hb 4 hq (gQ50 hb he a_.keys b_.keys) fun y5 hy5 hq => ?_
 refine ifE hb 2 [32, 33, 34] [] hq (fun hq _ => ?_) (fun hq _ => ?_)
 refine q6 hb 4 hq (gQ6a hb he r_value_Refines hr_value_Refines a_.items b_.items) fun y7 hy7 hq => ?_
 exact retE hb 3 (injO hq).symm
 exact retE hb 8 (injO hq).symm
 exact retE hb 15 (injO hq).symm
 exact retE hb 22 (injO hq).symm
 exact retE hb 29 (injO hq).symm
noncomputable def tQ7d (rec : Val → Val → Option (Bool)) (a : Val) (b : Val) : Option (Bool) :=
 gQ66 (fun a0 a1 => rec a0 a1) a b
noncomputable def tQ7b (a0 : Val) (a1 : Val) : Option (Bool) := tieF relV wfV tQ7d a0 a1
theorem tQ7c (hb : Base E E0 G) (he : ∀ w, E w → EnvV w) (a0 : Val) (a1 : Val) (r : Bool) (hq : tQ7b a0 a1 = some r) : Pure E E0 Tryz.prog 19 [.agg (aV a0), .agg (aV a1)] (c1 (vB r)) :=
 q4s (C := fun a b r => Pure E E0 Tryz.prog 19 [.agg (aV a), .agg (aV b)] (c1 (vB r))) (fun rec hr a b r hq => gQ67 hb he (fun a0 a1 => rec a0 a1) (fun a0 a1 r e => hr a0 a1 r e) a b r hq) a0 a1 r hq
noncomputable def gQ3o  (name_ : ByteArray) (args_ : List Val) (l_ : List Val) : Option (Bool) :=
 (gQ3s args_).bind fun y1 => bif (!y1) then (gQ3q).bind fun y3 => some (y3) else (gQ3s l_).bind fun y4 => bif (!y4) then (gQ3q).bind fun y6 => some (y6) else bif (decide ((l_.length : Int) > 8)) then (gQ3q).bind fun y8 => some (y8) else (gQ47 args_ l_).bind fun y9 => bif (!y9.2) then (gQ3q).bind fun y11 => some (y11) else (gQ0n name_ args_).bind fun y12 => (gQ0n name_ y9.1).bind fun y13 => bif (!decide (y12.2 = 0)) then bif (!decide (y13.2 = 0)) then (gQ3q).bind fun y16 => some (y16) else some (false) else bif (!decide (y13.2 = 0)) then (gQ3q).bind fun y18 => some (y18) else (tQ7b y13.1 y12.1).bind fun y19 => bif y19 then (gQ3q).bind fun y21 => some (y21) else some (false)
theorem gQ3p (hb : Base E E0 G) (he : ∀ w, E w → EnvV w)   (name_ : ByteArray) (args_ : List Val) (l_ : List Val) : ∀ r_ : Bool, gQ3o name_ args_ l_ = some r_ →
 Pure E E0 Tryz.prog 7 [.cell (vS name_), .cell (vL flV args_), .cell (vL flV l_)] (c1 (vB r_)) := by
 refine fnE hb Tryz.func7 rfl fun r_ hq => ?_
 refine q6 hb 8 hq (gQ3u hb he args_) fun y1 hy1 hq => ?_
 refine ifE hb 2 [15, 16] [] hq (fun hq _ => ?_) (fun hq _ => ?_)
 refine q6 hb 13 hq (gQ3r hb he ) fun y3 hy3 hq => ?_
 exact retE hb 2 (injO hq).symm
 refine q6 hb 1 hq (gQ3u hb he l_) fun y4 hy4 hq => ?_
 refine ifE hb 3 [19, 20, 21] [] hq (fun hq _ => ?_) (fun hq _ => ?_)
 refine q6 hb 8 hq (gQ3r hb he ) fun y6 hy6 hq => ?_
 exact retE hb 2 (injO hq).symm
 refine ifE hb 5 [24, 25] [] hq (fun hq _ => ?_) (fun hq _ => ?_)
 refine q6 hb 3 hq (gQ3r hb he ) fun y8 hy8 hq => ?_
 exact retE hb 2 (injO hq).symm
 refine q6 hb 6 hq (gQ49 hb he args_ l_) fun y9 hy9 hq => ?_
 refine ifE hb 12 [34] [] hq (fun hq _ => ?_) (fun hq _ => ?_)
 refine q6 hb 3 hq (gQ3r hb he ) fun y11 hy11 hq => ?_
 exact retE hb 2 (injO hq).symm
 refine q6 hb 6 hq (gQ0p hb he name_ args_) fun y12 hy12 hq => ?_
 refine q6 hb 11 hq (gQ0p hb he name_ y9.1) fun y13 hy13 hq => ?_
 refine ifE hb 13 [49] [] hq (fun hq _ => ?_) (fun hq _ => ?_)
 refine ifE hb 6 [51, 52] [] hq (fun hq _ => ?_) (fun hq _ => ?_)
 refine q6 hb 0 hq (gQ3r hb he ) fun y16 hy16 hq => ?_
 exact retE hb 3 (injO hq).symm
 exact retE hb 4 (injO hq).symm
 refine ifE hb 7 [56, 57] [] hq (fun hq _ => ?_) (fun hq _ => ?_)
 refine q6 hb 5 hq (gQ3r hb he ) fun y18 hy18 hq => ?_
 exact retE hb 3 (injO hq).symm
 refine q6 hb 2 hq (tQ7c hb he y13.1 y12.1) fun y19 hy19 hq => ?_
 refine ifE hb 2 [60, 61, 62] [] hq (fun hq _ => ?_) (fun hq _ => ?_)
 refine q6 hb 0 hq (gQ3r hb he ) fun y21 hy21 hq => ?_
 exact retE hb 3 (injO hq).symm
 exact retE hb 4 (injO hq).symm
end Abs
end Go.Proofs.YtagadjpmkggjdaaGreatDoor
