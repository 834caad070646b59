/-
  strlit.escape: Go functions as functions over plain values, with the proof that the code computes them; printed by gen.py.
-/
import Derived.Test.YtpidpioifnnllaaGreatDoorAbsX
import Derived.Test.YtpidpioifnnllaaGreatDoorCtG
import Derived.Test.YtpidpioifnnllaaGreatDoorACb
import Derived.Test.YtpidpioifnnllaaGreatDoorAbsN
namespace Go.Proofs.YtpidpioifnnllaaGreatDoor
namespace Abs
open Go.RowKit
variable {E : World → Prop} {E0 : Nat} {G : Nat → Option (List PV)}
set_option maxRecDepth 100000
set_option linter.unusedVariables false
set_option linter.unusedSimpArgs false
attribute [local irreducible] adv J KE KO mPut mSto q5l mFrm qbf hedS unl Pure Ok sl qf awpL awp asq asqD asqX asqF
noncomputable def gQ3v (s_:ByteArray) (s1:Int×Int):Option ((Int×Int)⊕(Int×Int×Int)) :=
 bif (decide (s1.2 < (s_.size:Int))) then bif (decide (s1.2 < 6)) then (sidx s_ s1.2).bind fun c3=>(q6f (⟨#[48,49,50,51,52,53,54,55,56,57,97,98,99,100,101,102]⟩:ByteArray) c3).bind fun y4=>bif (decide (y4 < 0)) then bif (decide (s1.2=(s_.size:Int))) then some (.inr (0,0,40)) else (sidx s_ s1.2).bind fun c7=>bif (!decide (c7=125)) then some (.inr (0,0,2)) else bif (decide (s1.2=0)) then some (.inr (0,0,2)) else bif (decide (s1.2 > 1)) then (sidx s_ 0).bind fun c11=>bif (decide (c11=48)) then some (.inr (0,0,2)) else (q33 s1.1).bind fun y13=>bif (!y13) then some (.inr (0,0,2)) else some (.inr (s1.1,(IntKind.i64.wrap (s1.2+1)),0)) else (q33 s1.1).bind fun y15=>bif (!y15) then some (.inr (0,0,2)) else some (.inr (s1.1,(IntKind.i64.wrap (s1.2+1)),0)) else some (.inl ((IntKind.i32.wrap ((IntKind.i32.wrap (16*s1.1))+(IntKind.i32.wrap y4))),(IntKind.i64.wrap (s1.2+1)))) else bif (decide (s1.2=(s_.size:Int))) then some (.inr (0,0,40)) else (sidx s_ s1.2).bind fun c18=>bif (!decide (c18=125)) then some (.inr (0,0,2)) else bif (decide (s1.2=0)) then some (.inr (0,0,2)) else bif (decide (s1.2 > 1)) then (sidx s_ 0).bind fun c22=>bif (decide (c22=48)) then some (.inr (0,0,2)) else (q33 s1.1).bind fun y24=>bif (!y24) then some (.inr (0,0,2)) else some (.inr (s1.1,(IntKind.i64.wrap (s1.2+1)),0)) else (q33 s1.1).bind fun y26=>bif (!y26) then some (.inr (0,0,2)) else some (.inr (s1.1,(IntKind.i64.wrap (s1.2+1)),0)) else bif (decide (s1.2=(s_.size:Int))) then some (.inr (0,0,40)) else (sidx s_ s1.2).bind fun c29=>bif (!decide (c29=125)) then some (.inr (0,0,2)) else bif (decide (s1.2=0)) then some (.inr (0,0,2)) else bif (decide (s1.2 > 1)) then (sidx s_ 0).bind fun c33=>bif (decide (c33=48)) then some (.inr (0,0,2)) else (q33 s1.1).bind fun y35=>bif (!y35) then some (.inr (0,0,2)) else some (.inr (s1.1,(IntKind.i64.wrap (s1.2+1)),0)) else (q33 s1.1).bind fun y37=>bif (!y37) then some (.inr (0,0,2)) else some (.inr (s1.1,(IntKind.i64.wrap (s1.2+1)),0))
noncomputable def gQ3u  (s_:ByteArray):Option (Int×Int×Int) :=
 qf (gQ3v s_) (0,0)
theorem gQ3w (hb : Base E E0 G) (he : ∀ w, E w → EnvV w)   (s_ : ByteArray) : ∀ r_ : Int × Int × Int, gQ3u s_ = some r_ →
 Pure E E0 Tryz.prog 138 [.cell (vS s_)] (.tup [.cell (vI .i32 r_.1), .cell (vi r_.2.1), .cell (vi r_.2.2)]) := by
 refine fnE hb Tryz.func138 rfl fun r_ hq => ?_
 refine q15 hb 13 (gQ3v s_) (fun s1 => sl 58 [(0, c1 (vS s_)), (5, c1 (vI .i32 s1.1)), (6, c1 (vi s1.2))]) (fun s1 => []) [0, 5, 6] [] 0 (s0 := (0, 0)) trivial hq (fun s1 o1 hq hn1 he1 => ?_)
 refine ifE hb 8 [11, 12] [] hq (fun hq _ => ?_) (fun hq _ => ?_)
 refine ifE hb 4 [14, 15] [] hq (fun hq _ => ?_) (fun hq _ => ?_)
 refine qp hb 8 hq fun c3 hc3 hq => ?_
 refine q8 hb 0 hq (qju hb he (⟨#[48, 49, 50, 51, 52, 53, 54, 55, 56, 57, 97, 98, 99, 100, 101, 102]⟩ : ByteArray) c3) fun y4 hy4 hq => ?_
 refine ifE hb 8 [23] [] hq (fun hq _ => ?_) (fun hq _ => ?_)
 refine ifE hb 10 [32] [] hq (fun hq _ => ?_) (fun hq _ => ?_)
 exact retE hb 7 (he1 _ (injO hq))
 refine qp hb 7 hq fun c7 hc7 hq => ?_
 refine ifE hb 2 [36, 37] [] hq (fun hq _ => ?_) (fun hq _ => ?_)
 exact retE hb 25 (he1 _ (injO hq))
 refine ifE hb 4 [39, 40, 41] [] hq (fun hq _ => ?_) (fun hq _ => ?_)
 exact retE hb 21 (he1 _ (injO hq))
 refine ifE hb 3 [43, 44] [] hq (fun hq _ => ?_) (fun hq _ => ?_)
 refine qp hb 1 hq fun c11 hc11 hq => ?_
 refine ifE hb 4 [47, 48, 49, 50] [] hq (fun hq _ => ?_) (fun hq _ => ?_)
 exact retE hb 12 (he1 _ (injO hq))
 refine q8 hb 1 hq (q82 hb he s1.1) fun y13 hy13 hq => ?_
 refine ifE hb 3 [53, 54] [] hq (fun hq _ => ?_) (fun hq _ => ?_)
 exact retE hb 7 (he1 _ (injO hq))
 exact retE hb 11 (he1 _ (injO hq))
 refine q8 hb 7 hq (q82 hb he s1.1) fun y15 hy15 hq => ?_
 refine ifE hb 3 [53, 54] [] hq (fun hq _ => ?_) (fun hq _ => ?_)
 exact retE hb 7 (he1 _ (injO hq))
 exact retE hb 11 (he1 _ (injO hq))
 exact qk hb 16 [0, 5, 6] [] 0 (hn1 _ (injO hq)) trivial
 refine ifE hb 10 [32] [] hq (fun hq _ => ?_) (fun hq _ => ?_)
 exact retE hb 7 (he1 _ (injO hq))
 refine qp hb 7 hq fun c18 hc18 hq => ?_
 refine ifE hb 2 [36, 37] [] hq (fun hq _ => ?_) (fun hq _ => ?_)
 exact retE hb 25 (he1 _ (injO hq))
 refine ifE hb 4 [39, 40, 41] [] hq (fun hq _ => ?_) (fun hq _ => ?_)
 exact retE hb 21 (he1 _ (injO hq))
 refine ifE hb 3 [43, 44] [] hq (fun hq _ => ?_) (fun hq _ => ?_)
 refine qp hb 1 hq fun c22 hc22 hq => ?_
 refine ifE hb 4 [47, 48, 49, 50] [] hq (fun hq _ => ?_) (fun hq _ => ?_)
 exact retE hb 12 (he1 _ (injO hq))
 refine q8 hb 1 hq (q82 hb he s1.1) fun y24 hy24 hq => ?_
 refine ifE hb 3 [53, 54] [] hq (fun hq _ => ?_) (fun hq _ => ?_)
 exact retE hb 7 (he1 _ (injO hq))
 exact retE hb 11 (he1 _ (injO hq))
 refine q8 hb 7 hq (q82 hb he s1.1) fun y26 hy26 hq => ?_
 refine ifE hb 3 [53, 54] [] hq (fun hq _ => ?_) (fun hq _ => ?_)
 exact retE hb 7 (he1 _ (injO hq))
 exact retE hb 11 (he1 _ (injO hq))
 refine ifE hb 14 [32] [] hq (fun hq _ => ?_) (fun hq _ => ?_)
 exact retE hb 7 (he1 _ (injO hq))
 refine qp hb 7 hq fun c29 hc29 hq => ?_
 refine ifE hb 2 [36, 37] [] hq (fun hq _ => ?_) (fun hq _ => ?_)
 exact retE hb 25 (he1 _ (injO hq))
 refine ifE hb 4 [39, 40, 41] [] hq (fun hq _ => ?_) (fun hq _ => ?_)
 exact retE hb 21 (he1 _ (injO hq))
 refine ifE hb 3 [43, 44] [] hq (fun hq _ => ?_) (fun hq _ => ?_)
 refine qp hb 1 hq fun c33 hc33 hq => ?_
 refine ifE hb 4 [47, 48, 49, 50] [] hq (fun hq _ => ?_) (fun hq _ => ?_)
 exact retE hb 12 (he1 _ (injO hq))
 refine q8 hb 1 hq (q82 hb he s1.1) fun y35 hy35 hq => ?_
 refine ifE hb 3 [53, 54] [] hq (fun hq _ => ?_) (fun hq _ => ?_)
 exact retE hb 7 (he1 _ (injO hq))
 exact retE hb 11 (he1 _ (injO hq))
 refine q8 hb 7 hq (q82 hb he s1.1) fun y37 hy37 hq => ?_
 refine ifE hb 3 [53, 54] [] hq (fun hq _ => ?_) (fun hq _ => ?_)
 exact retE hb 7 (he1 _ (injO hq))
 exact retE hb 11 (he1 _ (injO hq))
noncomputable def gQ3s  (s_:ByteArray):Option (Int×Int×Int) :=
 bif (decide (s_=eS)) then some (0,0,40) else (sidx s_ 0).bind fun c2=>bif (decide (c2=110)) then some (10,1,0) else bif (decide (c2=114)) then some (13,1,0) else bif (decide (c2=116)) then some (9,1,0) else bif (decide (c2=34)) then (sidx s_ 0).bind fun c7=>some ((IntKind.i32.wrap c7),1,0) else bif (decide (c2=92)) then (sidx s_ 0).bind fun c9=>some ((IntKind.i32.wrap c9),1,0) else bif (decide (c2=117)) then bif (decide ((s_.size:Int)=1)) then some (0,0,40) else (sidx s_ 1).bind fun c12=>bif (!decide (c12=123)) then some (0,0,2) else (sslc s_ 2 (s_.size:Int)).bind fun x14=>(gQ3u x14).bind fun y15=>some (y15.1,(IntKind.i64.wrap (y15.2.1+2)),y15.2.2) else some (0,0,2)
theorem gQ3t (hb : Base E E0 G) (he : ∀ w, E w → EnvV w)   (s_ : ByteArray) : ∀ r_ : Int × Int × Int, gQ3s s_ = some r_ →
 Pure E E0 Tryz.prog 118 [.cell (vS s_)] (.tup [.cell (vI .i32 r_.1), .cell (vi r_.2.1), .cell (vi r_.2.2)]) := by
 refine fnE hb Tryz.func118 rfl fun r_ hq => ?_
 refine ifE hb 12 [9] [] hq (fun hq _ => ?_) (fun hq _ => ?_)
 exact retE hb 7 (injO hq).symm
 refine qp hb 6 hq fun c2 hc2 hq => ?_
 refine ifE hb 7 [12, 13] [] hq (fun hq _ => ?_) (fun hq _ => ?_)
 exact retE hb 7 (injO hq).symm
 refine ifE hb 6 [14, 15] [] hq (fun hq _ => ?_) (fun hq _ => ?_)
 exact retE hb 7 (injO hq).symm
 refine ifE hb 6 [16, 17] [] hq (fun hq _ => ?_) (fun hq _ => ?_)
 exact retE hb 7 (injO hq).symm
 refine ifE hb 7 [18, 19] [] hq (fun hq _ => ?_) (fun hq _ => ?_)
 refine qp hb 6 hq fun c7 hc7 hq => ?_
 exact retE hb 5 (injO hq).symm
 refine ifE hb 5 [18, 20] [] hq (fun hq _ => ?_) (fun hq _ => ?_)
 refine qp hb 4 hq fun c9 hc9 hq => ?_
 exact retE hb 5 (injO hq).symm
 refine ifE hb 6 [24, 25] [] hq (fun hq _ => ?_) (fun hq _ => ?_)
 refine ifE hb 8 [28] [] hq (fun hq _ => ?_) (fun hq _ => ?_)
 exact retE hb 7 (injO hq).symm
 refine qp hb 6 hq fun c12 hc12 hq => ?_
 refine ifE hb 2 [31] [] hq (fun hq _ => ?_) (fun hq _ => ?_)
 exact retE hb 7 (injO hq).symm
 refine q2d hb 5 hq fun x14 hx14 hq => ?_
 refine q8 hb 0 hq (gQ3w hb he x14) fun y15 hy15 hq => ?_
 exact retE hb 18 (injO hq).symm
 exact retE hb 9 (injO hq).symm
end Abs
end Go.Proofs.YtpidpioifnnllaaGreatDoor
