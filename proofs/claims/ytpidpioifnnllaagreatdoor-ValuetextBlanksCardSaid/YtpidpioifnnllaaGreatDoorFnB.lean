/-
  the reader: Go functions as functions over plain values, with the proof that the code computes them; printed by gen.py.
-/
import Derived.Test.YtpidpioifnnllaaGreatDoorQsG
import Derived.Test.YtpidpioifnnllaaGreatDoorCtG
import Derived.Test.YtpidpioifnnllaaGreatDoorAbsN
namespace Go.Proofs.YtpidpioifnnllaaGreatDoor
namespace Abs
open Go.RowKit
variable {E : World → Prop} {E0 : Nat} {G : Nat → Option (List PV)}
set_option maxRecDepth 100000
set_option linter.unusedVariables false
set_option linter.unusedSimpArgs false
attribute [local irreducible] adv J KE KO mPut mSto q5l mFrm qbf hedS unl Pure Ok sl qf awpL awp asq asqD asqX asqF
noncomputable def gQ4p  (v_:Val):Option (ByteArray) :=
 bif (decide (v_.kind=1)) then bif (decide (v_.num=1)) then some (⟨#[116,114,117,101]⟩:ByteArray) else some (⟨#[102,97,108,115,101]⟩:ByteArray) else bif (decide (v_.kind=2)) then (q7g v_.num).bind fun y4=>some (y4) else bif (decide (v_.kind=3)) then (q95 v_.str).bind fun y6=>some (y6) else bif (decide (v_.kind=4)) then some (⟨#[91,93]⟩:ByteArray) else bif (decide (v_.kind=5)) then some (⟨#[123,125]⟩:ByteArray) else bif (decide (v_.kind=6)) then some (⟨#[40,117,110,107,110,111,119,110,41]⟩:ByteArray) else some (⟨#[110,117,108,108]⟩:ByteArray)
theorem gQ4q (hb : Base E E0 G) (he : ∀ w, E w → EnvV w)   (v_ : Val) : ∀ r_ : ByteArray, gQ4p v_ = some r_ →
 Pure E E0 Tryz.prog 30 [.agg (aV v_)] (c1 (vS r_)) := by
 refine fnE hb Tryz.func30 rfl fun r_ hq => ?_
 refine ifE hb 17 [5, 6] [] hq (fun hq _ => ?_) (fun hq _ => ?_)
 refine ifE hb 8 [9] [] hq (fun hq _ => ?_) (fun hq _ => ?_)
 exact retE hb 5 (injO hq).symm
 exact retE hb 6 (injO hq).symm
 refine ifE hb 6 [10, 11] [] hq (fun hq _ => ?_) (fun hq _ => ?_)
 refine q8 hb 5 hq (qrf hb he v_.num) fun y4 hy4 hq => ?_
 exact retE hb 2 (injO hq).symm
 refine ifE hb 6 [15, 16] [] hq (fun hq _ => ?_) (fun hq _ => ?_)
 refine q8 hb 5 hq (qml hb he v_.str) fun y6 hy6 hq => ?_
 exact retE hb 2 (injO hq).symm
 refine ifE hb 6 [20, 21] [] hq (fun hq _ => ?_) (fun hq _ => ?_)
 exact retE hb 5 (injO hq).symm
 refine ifE hb 6 [22, 23] [] hq (fun hq _ => ?_) (fun hq _ => ?_)
 exact retE hb 5 (injO hq).symm
 refine ifE hb 6 [24, 25] [] hq (fun hq _ => ?_) (fun hq _ => ?_)
 exact retE hb 5 (injO hq).symm
 exact retE hb 7 (injO hq).symm
noncomputable def gQ4n  (v_:Val):Option (ByteArray×ByteArray) :=
 bif (decide (v_.kind=5)) then some ((⟨#[123]⟩:ByteArray),(⟨#[125]⟩:ByteArray)) else some ((⟨#[91]⟩:ByteArray),(⟨#[93]⟩:ByteArray))
theorem gQ4o (hb : Base E E0 G) (he : ∀ w, E w → EnvV w)   (v_ : Val) : ∀ r_ : ByteArray × ByteArray, gQ4n v_ = some r_ →
 Pure E E0 Tryz.prog 31 [.agg (aV v_)] (.tup [.cell (vS r_.1), .cell (vS r_.2)]) := by
 refine fnE hb Tryz.func31 rfl fun r_ hq => ?_
 refine ifE hb 13 [6] [] hq (fun hq _ => ?_) (fun hq _ => ?_)
 exact retE hb 6 (injO hq).symm
 exact retE hb 7 (injO hq).symm
noncomputable def gQ4l  (v_:Val) (i_:Int):Option (ByteArray) :=
 bif (decide (v_.kind=5)) then bif (decide (i_ < (v_.keys.length:Int))) then (idx v_.keys i_).bind fun x3=>(q95 x3).bind fun y4=>(cat y4 (⟨#[58,32]⟩:ByteArray)).bind fun x5=>some (x5) else some (eS) else some (eS)
theorem gQ4m (hb : Base E E0 G) (he : ∀ w, E w → EnvV w)   (v_ : Val) (i_ : Int) : ∀ r_ : ByteArray, gQ4l v_ i_ = some r_ →
 Pure E E0 Tryz.prog 33 [.agg (aV v_), .cell (vi i_)] (c1 (vS r_)) := by
 refine fnE hb Tryz.func33 rfl fun r_ hq => ?_
 refine ifE hb 12 [7, 8] [] hq (fun hq _ => ?_) (fun hq _ => ?_)
 refine ifE hb 7 [13, 14] [] hq (fun hq _ => ?_) (fun hq _ => ?_)
 refine idxE hb flS 6 hq fun x3 hx3 hq => ?_
 refine q8 hb 1 hq (qml hb he x3) fun y4 hy4 hq => ?_
 refine catE hb 0 hq fun x5 hx5 hq => ?_
 exact retE hb 2 (injO hq).symm
 exact retE hb 6 (injO hq).symm
 exact retE hb 13 (injO hq).symm
noncomputable def gQ3k (rs:ByteArray) (s1:Int):Option ((Int)⊕((Int×Int)⊕(Int×Int))) :=
 bif (decide (s1 < (rs.size:Int))) then (sidx rs s1).bind fun c2=>(q6f (⟨#[32,9,10,13]⟩:ByteArray) c2).bind fun y3=>bif (decide (y3 ≥ 0)) then some (.inl (IntKind.i64.wrap (s1+1))) else bif (decide (s1=(rs.size:Int))) then some (.inr (.inl (40,s1))) else (sidx rs s1).bind fun c6=>some (.inr (.inr (c6,s1))) else bif (decide (s1=(rs.size:Int))) then some (.inr (.inl (40,s1))) else (sidx rs s1).bind fun c8=>some (.inr (.inr (c8,s1)))
noncomputable def gQ3j  (rs:ByteArray) (ra:Int):Option ((Int×Int)⊕(Int×Int)) :=
 qf (gQ3k rs) ra
theorem gQ3l (hb : Base E E0 G) (he : ∀ w, E w → EnvV w)   (rs : ByteArray) (ra : Int) : ∀ r_ : (Int × Int) ⊕ (Int × Int), gQ3j rs ra = some r_ →
 OkR E E0 Tryz.prog 61 [] [vS rs, vi ra] dD (fun y : Int × Int => c1 (vI .u8 y.1)) (fun y => [vS rs, vi y.2]) r_ := by
 refine fnL hb Tryz.func61 rfl fun r_ hq => ?_
 refine q15 hb 6 (gQ3k rs) (fun s1 => sl 58 [(0, pt 0)]) (fun s1 => [bx [vS rs, vi s1]]) [0] [] 1 (s0 := ra) ⟨(by kernel_rfl), trivial⟩ hq (fun s1 o1 hq hn1 he1 => ?_)
 refine qv hb mixed 2 19 [] ?_
 refine ifE hb 11 [12, 13] [] hq (fun hq _ => ?_) (fun hq _ => ?_)
 refine qp hb 9 hq fun c2 hc2 hq => ?_
 refine q8 hb 0 hq (qju hb he (⟨#[32, 9, 10, 13]⟩ : ByteArray) c2) fun y3 hy3 hq => ?_
 refine ifE hb 3 [24, 25] [] hq (fun hq _ => ?_) (fun hq _ => ?_)
 exact qk hb 14 [0] [] 1 (hn1 _ (injO hq)) ⟨(by kernel_rfl), trivial⟩
 refine qv hb mixed 4 9 [] ?_
 refine ifE hb 12 [42] [] hq (fun hq _ => ?_) (fun hq _ => ?_)
 exact q38 hb 7 0 (q3a hb he rs s1 40 s1) (fun T σ => panL (he1 _ (injO hq)) T σ)
 refine qv hb mixed 3 8 [] ?_
 refine qp hb 9 hq fun c6 hc6 hq => ?_
 exact q1w hb 2 (he1 _ (injO hq))
 refine qv hb mixed 18 9 [] ?_
 refine ifE hb 12 [42] [] hq (fun hq _ => ?_) (fun hq _ => ?_)
 exact q38 hb 7 0 (q3a hb he rs s1 40 s1) (fun T σ => panL (he1 _ (injO hq)) T σ)
 refine qv hb mixed 3 8 [] ?_
 refine qp hb 9 hq fun c8 hc8 hq => ?_
 exact q1w hb 2 (he1 _ (injO hq))
noncomputable def gQ3e  (rs:ByteArray) (ra:Int) (end_:Int):Option ((Int×Int)⊕(Bool×Int)) :=
 lbind (gQ3j rs ra) (fun p2=>some (.inl p2)) fun y1=>bif (decide (y1.1=44)) then some (.inr (true,(IntKind.i64.wrap (y1.2+1)))) else bif (decide (y1.1=end_)) then some (.inr (false,(IntKind.i64.wrap (y1.2+1)))) else some (.inl (2,y1.2))
theorem gQ3f (hb : Base E E0 G) (he : ∀ w, E w → EnvV w)   (rs : ByteArray) (ra : Int) (end_ : Int) : ∀ r_ : (Int × Int) ⊕ (Bool × Int), gQ3e rs ra end_ = some r_ →
 OkR E E0 Tryz.prog 95 [.cell (vI .u8 end_)] [vS rs, vi ra] dD (fun y : Bool × Int => c1 (vB y.1)) (fun y => [vS rs, vi y.2]) r_ := by
 refine fnL hb Tryz.func95 rfl fun r_ hq => ?_
 refine q2n hb 8 0 hq (gQ3l hb he rs ra) (fun p2 _ hq => panL (injO hq).symm) (fun y1 hy1 hq => ?_)
 refine ifE hb 7 [13, 14] [] hq (fun hq _ => ?_) (fun hq _ => ?_)
 exact q1w hb 16 (injO hq).symm
 refine ifE hb 7 [22, 24] [] hq (fun hq _ => ?_) (fun hq _ => ?_)
 exact q1w hb 16 (injO hq).symm
 exact q38 hb 7 0 (q3a hb he rs y1.2 2 y1.2) (fun T σ => panL (injO hq).symm T σ)
noncomputable def gQ3m  (rs:ByteArray) (ra:Int):Option ((Int×Int)⊕(ByteArray×Int)) :=
 (sslc rs ra (rs.size:Int)).bind fun x1=>(qbi x1).bind fun y2=>bif (!decide (y2.2.2=0)) then some (.inl (y2.2.2,ra)) else some (.inr (y2.1,(IntKind.i64.wrap (ra+y2.2.1))))
theorem gQ3n (hb : Base E E0 G) (he : ∀ w, E w → EnvV w)   (rs : ByteArray) (ra : Int) : ∀ r_ : (Int × Int) ⊕ (ByteArray × Int), gQ3m rs ra = some r_ →
 OkR E E0 Tryz.prog 65 [] [vS rs, vi ra] dD (fun y : ByteArray × Int => c1 (vS y.1)) (fun y => [vS rs, vi y.2]) r_ := by
 refine fnL hb Tryz.func65 rfl fun r_ hq => ?_
 refine qv hb mixed 5 14 [12, 13] ?_
 refine q2d hb 8 hq fun x1 hx1 hq => ?_
 refine q8 hb 0 hq (qwn hb he x1) fun y2 hy2 hq => ?_
 refine ifE hb 15 [21] [] hq (fun hq _ => ?_) (fun hq _ => ?_)
 exact q38 hb 8 0 (q3a hb he rs ra y2.2.2 ra) (fun T σ => panL (injO hq).symm T σ)
 exact q1w hb 19 (injO hq).symm
noncomputable def gQ4e (r_value_copied:Val→Option (Val)) (l_:List Val) (s1:Int×List Val):Option ((Int×List Val)⊕(List Val)) :=
 bif (decide (s1.1 < (l_.length:Int))) then (idx l_ s1.1).bind fun x4=>(r_value_copied x4).bind fun y5=>(app 80 s1.2 [y5]).bind fun l6=>some (.inl ((IntKind.i64.wrap (s1.1+1)),l6)) else some (.inr (s1.2))
noncomputable def gQ4d (r_value_copied:Val→Option (Val)) (l_:List Val):Option (List Val) :=
 bif (decide ((l_.length:Int)=0)) then some ([]) else (mkc 80 (l_.length:Int)).bind fun u2=>qf (gQ4e r_value_copied l_) (0,[])
theorem gQ4f (hb : Base E E0 G) (he : ∀ w, E w → EnvV w) (r_value_copied : Val → Option (Val)) (hr_value_copied : ∀ (a0 : Val) (r : Val), r_value_copied a0 = some r → Pure E E0 Tryz.prog 117 [.agg (aV a0)] (.one (.agg (aV r)))) (l_ : List Val) : ∀ r_ : List Val, gQ4d r_value_copied l_ = some r_ →
 Pure E E0 Tryz.prog 137 [.cell (vL flV l_)] (c1 (vL flV r_)) := by
 refine fnE hb Tryz.func137 rfl fun r_ hq => ?_
 refine ifE hb 11 [8] [] hq (fun hq _ => ?_) (fun hq _ => ?_)
 exact retE hb 5 (injO hq).symm
 refine mk0E flV hb 6 hq fun u2 hu2 hq => ?_
 refine q15 hb 10 (gQ4e r_value_copied l_) (fun s1 => sl 25 [(3, c1 (vO flV 0 s1.2)), (12, c1 (vL flV l_)), (13, c1 (vi (l_.length : Int))), (14, c1 (vi s1.1))]) (fun s1 => [some (arO false flV.sz 0 (flV.f s1.2))]) [3, 12, 13, 14] [] 1 (s0 := (0, [])) ⟨(ql _ _ _ _ _), trivial⟩ hq (fun s1 o1 hq hn1 he1 => ?_)
 refine ifE hb 5 [15] [] hq (fun hq _ => ?_) (fun hq _ => ?_)
 refine idxE hb flV 6 hq fun x4 hx4 hq => ?_
 refine q8 hb 7 hq (hr_value_copied x4) fun y5 hy5 hq => ?_
 refine q10 flV hb 1 0 false 0 (flV.one y5) hq fun l6 hl6 hq => ?_
 exact qk hb 7 [3, 12, 13, 14] [] 1 (hn1 _ (injO hq)) ⟨(ql _ _ _ _ _), trivial⟩
 refine q2g hb 7 0 false (sz := flV.sz) (fr := 0) (cs := flV.f s1.2) (by kernel_rfl) (Nat.zero_le _) ?_
 refine q3k hb 0 2 (c := vO flV 0 s1.2) (q2o flV (nb := false) (id := 0) (xs := s1.2) (by kernel_rfl)) ?_
 exact retE hb 0 (he1 _ (injO hq))
noncomputable def gQ4b (r_value_copies:List Val→Option (List Val)) (v_:Val):Option (Val) :=
 (clone 16 v_.keys).bind fun y1=>(r_value_copies v_.items).bind fun y2=>some (Val.mk v_.kind v_.num v_.str y2 y1)
theorem gQ4c (hb : Base E E0 G) (he : ∀ w, E w → EnvV w) (r_value_copies : List Val → Option (List Val)) (hr_value_copies : ∀ (a0 : List Val) (r : List Val), r_value_copies a0 = some r → Pure E E0 Tryz.prog 137 [.cell (vL flV a0)] (c1 (vL flV r))) (v_ : Val) : ∀ r_ : Val, gQ4b r_value_copies v_ = some r_ →
 Pure E E0 Tryz.prog 117 [.agg (aV v_)] (.one (.agg (aV r_))) := by
 refine fnE hb Tryz.func117 rfl fun r_ hq => ?_
 refine q8 hb 9 hq (qq0 hb he v_.keys) fun y1 hy1 hq => ?_
 refine q8 hb 7 hq (hr_value_copies v_.items) fun y2 hy2 hq => ?_
 exact retE hb 8 (injO hq).symm
noncomputable def tQ5h (rec:Val→Unit→Option (Val)) (a:Val) (b:Unit):Option (Val) :=
 gQ4b (gQ4d (fun a0=>rec a0 ())) a
noncomputable def tQ5f (a0:Val):Option (Val):=tieF relV wfV tQ5h a0 ()
theorem tQ5g (hb:Base E E0 G) (he:∀ w,E w→EnvV w) (a0:Val) (r:Val) (hq:tQ5f a0=some r):Pure E E0 Tryz.prog 117 [.agg (aV a0)] (.one (.agg (aV r))) :=
 q4h (C:=fun a b r=>Pure E E0 Tryz.prog 117 [.agg (aV a)] (.one (.agg (aV r)))) (fun rec hr a b r hq=>gQ4c hb he (gQ4d (fun a0=>rec a0 ())) (gQ4f hb he (fun a0=>rec a0 ()) (fun a0 r e=>hr a0 () r e)) a r hq) a0 () r hq
noncomputable def gQ41 (keys_:List ByteArray) (items_:List Val) (l5:List Int) (s2:Int×List Val×List ByteArray):Option ((Int×List Val×List ByteArray)⊕((Int×List Int)⊕(Val×Int))) :=
 bif (decide (s2.1 < (l5.length:Int))) then (idx l5 s2.1).bind fun x7=>bif (decide (s2.1 > 0)) then (idx keys_ x7).bind fun x9=>(idx s2.2.2 (IntKind.i64.wrap (s2.1 - 1))).bind fun x10=>bif (decide (x9=x10)) then some (.inr (.inr ((Val.mk 0 0 eS [] []),8))) else (idx keys_ x7).bind fun x12=>(app 16 s2.2.2 [x12]).bind fun l13=>(idx items_ x7).bind fun x14=>(tQ5f x14).bind fun y15=>(app 80 s2.2.1 [y15]).bind fun l16=>some (.inl ((IntKind.i64.wrap (s2.1+1)),l16,l13)) else (idx keys_ x7).bind fun x17=>(app 16 s2.2.2 [x17]).bind fun l18=>(idx items_ x7).bind fun x19=>(tQ5f x19).bind fun y20=>(app 80 s2.2.1 [y20]).bind fun l21=>some (.inl ((IntKind.i64.wrap (s2.1+1)),l21,l18)) else some (.inr (.inr ((Val.mk 5 0 eS s2.2.1 s2.2.2),0)))
noncomputable def gQ40 (keys_:List ByteArray) (items_:List Val) (l2:List Int) (s1:Int×List Int):Option ((Int×List Int)⊕(Val×Int)) :=
 bif (decide (s1.1 < (l2.length:Int))) then (idx s1.2 s1.1).bind fun x4=>some (.inl ((IntKind.i64.wrap (s1.1+1)),(upd s1.2 s1.1 s1.1))) else (q5n keys_ s1.2).bind fun l5=>qf (gQ41 keys_ items_ l5) (0,[],[])
noncomputable def gQ3z  (keys_:List ByteArray) (items_:List Val):Option (Val×Int) :=
 bif (!decide ((keys_.length:Int)=(items_.length:Int))) then some ((Val.mk 0 0 eS [] []),1) else (mkl 8 (keys_.length:Int) 0).bind fun l2=>qf (gQ40 keys_ items_ l2) (0,l2)
theorem gQ42 (hb : Base E E0 G) (he : ∀ w, E w → EnvV w)   (keys_ : List ByteArray) (items_ : List Val) : ∀ r_ : Val × Int, gQ3z keys_ items_ = some r_ →
 Pure E E0 Tryz.prog 96 [.cell (vL flS keys_), .cell (vL flV items_)] (.tup [.agg (aV r_.1), .cell (vi r_.2)]) := by
 refine fnE hb Tryz.func96 rfl fun r_ hq => ?_
 refine ifE hb 15 [15] [] hq (fun hq _ => ?_) (fun hq _ => ?_)
 exact retE hb 7 (injO hq).symm
 refine mkE (flI .i64) hb 6 hq fun l2 hl2 hq => ?_
 refine qeo (flI .i64) hb 6 2 false 0 l2 ?_
 refine q15 hb 3 (gQ40 keys_ items_ l2) (fun s1 => sl 78 [(1, c1 (vL flV items_)), (2, pt 0), (4, pt 1), (6, c1 (vO (flI .i64) 2 s1.2)), (21, c1 (vi (l2.length : Int))), (22, c1 (vi s1.1))]) (fun s1 => [bx [vL flS keys_], bx zV, some (arO false (flI .i64).sz 0 ((flI .i64).f s1.2))]) [1, 2, 4, 6, 21, 22] [] 3 (s0 := (0, l2)) ⟨(by kernel_rfl), (by kernel_rfl), (ql _ _ _ _ _), trivial⟩ hq (fun s1 o1 hq hn1 he1 => ?_)
 refine ifE hb 5 [23] [] hq (fun hq _ => ?_) (fun hq _ => ?_)
 refine q69 (flI .i64) hb 13 2 false 0 hq fun x4 hx4 hq => ?_
 refine qg7 (flI .i64) hb 0 2 hx4 s1.1 ?_
 refine q3k hb 2 6 (c := vO (flI .i64) 2 s1.2) (qam (qcd (flI .i64) (qcc s1.2 s1.1 s1.1))) ?_
 exact qk hb 4 [1, 2, 4, 6, 21, 22] [] 3 (hn1 _ (injO hq)) ⟨(by kernel_rfl), (by kernel_rfl), (ql _ _ _ _ _), trivial⟩
 refine qhw hb 6 hq (qw1 hb he 2 false 0 keys_ s1.2 (by kernel_rfl) (by kernel_rfl)) fun l5 hl5 hq => ?_
 refine q3k hb 1 6 (c := vO (flI .i64) 2 s1.2) (qam (qcd (flI .i64) (qsx hl5))) ?_
 refine qeo (flI .i64) hb 10 2 false 0 l5 ?_
 refine cpE hb 3 [1, 2, 4, 8, 34, 35, 36] (s' := ⟨none, [pk Tryz.f96 1018], [(2, [pk Tryz.f96 255])], sl 78 [(1, c1 (vL flV items_)), (2, pt 0), (4, pt 1), (8, pt 3), (34, c1 (vO (flI .i64) 2 l5)), (35, c1 (vi (l5.length : Int))), (36, c1 (vi 0))], [bx [vL flS keys_], bx zV, some (arO false (flI .i64).sz 0 ((flI .i64).f l5)), bx [vi 5, vi 0, vS eS, vN, vN]]⟩) ?_
 refine q7n hb 0 3 3 5 (cs := [vi 5, vi 0, vS eS, vN, vN]) (by kernel_rfl) ?_
 refine q7n hb 0 3 4 1 (cs := [vi 5, vi 0, vS eS, vO flV 4 [], vN]) (by kernel_rfl) ?_
 refine q15 hb 0 (gQ41 keys_ items_ l5) (fun s2 => sl 78 [(1, c1 (vL flV items_)), (2, pt 0), (4, pt 1), (8, pt 3), (34, c1 (vO (flI .i64) 2 l5)), (35, c1 (vi (l5.length : Int))), (36, c1 (vi s2.1))]) (fun s2 => [bx [vL flS keys_], bx zV, some (arO false (flI .i64).sz 0 ((flI .i64).f l5)), bx [vi 5, vi 0, vS eS, vO flV 4 s2.2.1, vO flS 5 s2.2.2], some (arO true flV.sz 0 (flV.f s2.2.1)), some (arO true flS.sz 0 (flS.f s2.2.2))]) [1, 2, 4, 8, 34, 35, 36] [] 6 (s0 := (0, [], [])) ⟨(by kernel_rfl), (by kernel_rfl), (ql _ _ _ _ _), (by kernel_rfl), (ql _ _ _ _ _), (ql _ _ _ _ _), trivial⟩ hq (fun s2 o2 hq hn2 he2 => ?_)
 refine ifE hb 5 [37] [] hq (fun hq _ => ?_) (fun hq _ => ?_)
 refine q69 (flI .i64) hb 7 2 false 0 hq fun x7 hx7 hq => ?_
 refine qbc (flI .i64) hb 0 2 false 0 hx7 rfl ?_
 refine qv hb mixed 5 13 [] ?_
 refine ifE hb 3 [42, 43] [] hq (fun hq _ => ?_) (fun hq _ => ?_)
 refine idxE hb flS 2 hq fun x9 hx9 hq => ?_
 refine q69 flS hb 5 5 true 0 hq fun x10 hx10 hq => ?_
 refine qbc flS hb 0 5 true 0 hx10 rfl ?_
 refine ifE hb 4 [54, 55] [] hq (fun hq _ => ?_) (fun hq _ => ?_)
 exact retE hb 7 (he1 _ ((he2 _ (injO hq)).symm))
 refine qv hb mixed 3 7 [] ?_
 refine idxE hb flS 4 hq fun x12 hx12 hq => ?_
 refine q10 flS hb 3 5 true 0 (flS.one x12) hq fun l13 hl13 hq => ?_
 refine qv hb mixed 3 8 [] ?_
 refine idxE hb flV 4 hq fun x14 hx14 hq => ?_
 refine q8 hb 1 hq (tQ5g hb he x14) fun y15 hy15 hq => ?_
 refine q10 flV hb 2 4 true 0 (flV.one y15) hq fun l16 hl16 hq => ?_
 exact qk hb 8 [1, 2, 4, 8, 34, 35, 36] [] 6 (hn2 _ (injO hq)) ⟨(by kernel_rfl), (by kernel_rfl), (ql _ _ _ _ _), (by kernel_rfl), (ql _ _ _ _ _), (ql _ _ _ _ _), trivial⟩
 refine qv hb mixed 17 7 [] ?_
 refine idxE hb flS 4 hq fun x17 hx17 hq => ?_
 refine q10 flS hb 3 5 true 0 (flS.one x17) hq fun l18 hl18 hq => ?_
 refine qv hb mixed 3 8 [] ?_
 refine idxE hb flV 4 hq fun x19 hx19 hq => ?_
 refine q8 hb 1 hq (tQ5g hb he x19) fun y20 hy20 hq => ?_
 refine q10 flV hb 2 4 true 0 (flV.one y20) hq fun l21 hl21 hq => ?_
 exact qk hb 8 [1, 2, 4, 8, 34, 35, 36] [] 6 (hn2 _ (injO hq)) ⟨(by kernel_rfl), (by kernel_rfl), (ql _ _ _ _ _), (by kernel_rfl), (ql _ _ _ _ _), (ql _ _ _ _ _), trivial⟩
 refine q2g hb 8 4 true (sz := flV.sz) (fr := 0) (cs := flV.f s2.2.1) (by kernel_rfl) (Nat.zero_le _) ?_
 refine q3w hb 0 1 3 (cs := [vi 5, vi 0, vS eS, vO flV 4 s2.2.1, vO flS 5 s2.2.2]) (c := vO flV 4 s2.2.1) (q2o flV (nb := true) (id := 4) (xs := s2.2.1) (by kernel_rfl)) (by kernel_rfl) ?_
 refine q2g hb 0 5 true (sz := flS.sz) (fr := 0) (cs := flS.f s2.2.2) (by kernel_rfl) (Nat.zero_le _) ?_
 refine q3w hb 0 1 4 (cs := [vi 5, vi 0, vS eS, vL flV s2.2.1, vO flS 5 s2.2.2]) (c := vO flS 5 s2.2.2) (q2o flS (nb := true) (id := 5) (xs := s2.2.2) (by kernel_rfl)) (by kernel_rfl) ?_
 exact retE hb 0 (he1 _ ((he2 _ (injO hq)).symm))
noncomputable def gQ47  (s_:ByteArray):Option (Val) :=
 some (Val.mk 3 0 s_ [] [])
theorem gQ48 (hb : Base E E0 G) (he : ∀ w, E w → EnvV w)   (s_ : ByteArray) : ∀ r_ : Val, gQ47 s_ = some r_ →
 Pure E E0 Tryz.prog 64 [.cell (vS s_)] (.one (.agg (aV r_))) := by
 refine fnE hb Tryz.func64 rfl fun r_ hq => ?_
 exact retE hb 10 (injO hq).symm
noncomputable def gQ45  (n_:Int):Option (Val) :=
 some (Val.mk 2 n_ eS [] [])
theorem gQ46 (hb : Base E E0 G) (he : ∀ w, E w → EnvV w)   (n_ : Int) : ∀ r_ : Val, gQ45 n_ = some r_ →
 Pure E E0 Tryz.prog 99 [.cell (vi n_)] (.one (.agg (aV r_))) := by
 refine fnE hb Tryz.func99 rfl fun r_ hq => ?_
 exact retE hb 10 (injO hq).symm
noncomputable def gQ3h (rs:ByteArray) (ra:Int) (s1:Int):Option ((Int)⊕((Int×Int)⊕(Val×Int))) :=
 bif (decide (s1 < (rs.size:Int))) then (sidx rs s1).bind fun c2=>bif (decide (c2 ≥ 48)) then (sidx rs s1).bind fun c4=>bif (decide (c4≤57)) then some (.inl (IntKind.i64.wrap (s1+1))) else (sslc rs ra s1).bind fun x6=>(q31 x6).bind fun y7=>bif (!decide (y7.2=0)) then some (.inr (.inl (y7.2,ra))) else (gQ45 y7.1).bind fun y9=>some (.inr (.inr (y9,s1))) else (sslc rs ra s1).bind fun x10=>(q31 x10).bind fun y11=>bif (!decide (y11.2=0)) then some (.inr (.inl (y11.2,ra))) else (gQ45 y11.1).bind fun y13=>some (.inr (.inr (y13,s1))) else (sslc rs ra s1).bind fun x14=>(q31 x14).bind fun y15=>bif (!decide (y15.2=0)) then some (.inr (.inl (y15.2,ra))) else (gQ45 y15.1).bind fun y17=>some (.inr (.inr (y17,s1)))
noncomputable def gQ3g  (rs:ByteArray) (ra:Int):Option ((Int×Int)⊕(Val×Int)) :=
 qf (gQ3h rs ra) (IntKind.i64.wrap (ra+1))
theorem gQ3i (hb : Base E E0 G) (he : ∀ w, E w → EnvV w)   (rs : ByteArray) (ra : Int) : ∀ r_ : (Int × Int) ⊕ (Val × Int), gQ3g rs ra = some r_ →
 OkR E E0 Tryz.prog 66 [] [vS rs, vi ra] dD (fun y : Val × Int => .one (.agg (aV y.1))) (fun y => [vS rs, vi y.2]) r_ := by
 refine fnL hb Tryz.func66 rfl fun r_ hq => ?_
 refine q15 hb 15 (gQ3h rs ra) (fun s1 => sl 67 [(0, pt 0), (2, pt 1), (3, c1 (vi s1))]) (fun s1 => [bx [vS rs, vi ra], bx zV]) [0, 2, 3] [] 2 (s0 := (IntKind.i64.wrap (ra + 1))) ⟨(by kernel_rfl), (by kernel_rfl), trivial⟩ hq (fun s1 o1 hq hn1 he1 => ?_)
 refine ifE hb 11 [17, 18] [] hq (fun hq _ => ?_) (fun hq _ => ?_)
 refine qp hb 5 hq fun c2 hc2 hq => ?_
 refine ifE hb 3 [25, 26, 27] [] hq (fun hq _ => ?_) (fun hq _ => ?_)
 refine qp hb 5 hq fun c4 hc4 hq => ?_
 refine ifE hb 3 [34, 35] [] hq (fun hq _ => ?_) (fun hq _ => ?_)
 exact qk hb 9 [0, 2, 3] [] 2 (hn1 _ (injO hq)) ⟨(by kernel_rfl), (by kernel_rfl), trivial⟩
 refine qv hb mixed 3 14 [13] ?_
 refine q2d hb 9 hq fun x6 hx6 hq => ?_
 refine q8 hb 0 hq (qfi hb he x6) fun y7 hy7 hq => ?_
 refine ifE hb 13 [53] [] hq (fun hq _ => ?_) (fun hq _ => ?_)
 exact q38 hb 8 0 (q3a hb he rs ra y7.2 ra) (fun T σ => panL (he1 _ (injO hq)) T σ)
 refine q8 hb 13 hq (gQ46 hb he y7.1) fun y9 hy9 hq => ?_
 exact q1w hb 2 (he1 _ (injO hq))
 refine qv hb mixed 12 14 [13] ?_
 refine q2d hb 9 hq fun x10 hx10 hq => ?_
 refine q8 hb 0 hq (qfi hb he x10) fun y11 hy11 hq => ?_
 refine ifE hb 13 [53] [] hq (fun hq _ => ?_) (fun hq _ => ?_)
 exact q38 hb 8 0 (q3a hb he rs ra y11.2 ra) (fun T σ => panL (he1 _ (injO hq)) T σ)
 refine q8 hb 13 hq (gQ46 hb he y11.1) fun y13 hy13 hq => ?_
 exact q1w hb 2 (he1 _ (injO hq))
 refine qv hb mixed 21 14 [13] ?_
 refine q2d hb 9 hq fun x14 hx14 hq => ?_
 refine q8 hb 0 hq (qfi hb he x14) fun y15 hy15 hq => ?_
 refine ifE hb 13 [53] [] hq (fun hq _ => ?_) (fun hq _ => ?_)
 exact q38 hb 8 0 (q3a hb he rs ra y15.2 ra) (fun T σ => panL (he1 _ (injO hq)) T σ)
 refine q8 hb 13 hq (gQ46 hb he y15.1) fun y17 hy17 hq => ?_
 exact q1w hb 2 (he1 _ (injO hq))
noncomputable def gQ43  :Option (Val) :=
 some (Val.mk 0 0 eS [] [])
theorem gQ44 (hb : Base E E0 G) (he : ∀ w, E w → EnvV w)    : ∀ r_ : Val, gQ43 = some r_ →
 Pure E E0 Tryz.prog 100 [] (.one (.agg (aV r_))) := by
 refine fnE hb Tryz.func100 rfl fun r_ hq => ?_
 exact retE hb 9 (injO hq).symm
noncomputable def gQ3x  (b_:Bool):Option (Val) :=
 bif b_ then some (Val.mk 1 1 eS [] []) else some (Val.mk 1 0 eS [] [])
theorem gQ3y (hb : Base E E0 G) (he : ∀ w, E w → EnvV w)   (b_ : Bool) : ∀ r_ : Val, gQ3x b_ = some r_ →
 Pure E E0 Tryz.prog 101 [.cell (vB b_)] (.one (.agg (aV r_))) := by
 refine fnE hb Tryz.func101 rfl fun r_ hq => ?_
 refine ifE hb 15 [0, 5] [] hq (fun hq _ => ?_) (fun hq _ => ?_)
 exact retE hb 10 (injO hq).symm
 exact retE hb 7 (injO hq).symm
noncomputable def gQ49  :Option (Val) :=
 some (Val.mk 6 0 eS [] [])
theorem gQ4a (hb : Base E E0 G) (he : ∀ w, E w → EnvV w)    : ∀ r_ : Val, gQ49 = some r_ →
 Pure E E0 Tryz.prog 102 [] (.one (.agg (aV r_))) := by
 refine fnE hb Tryz.func102 rfl fun r_ hq => ?_
 exact retE hb 9 (injO hq).symm
noncomputable def gQ3q  (rs:ByteArray) (ra:Int):Option ((Int×Int)⊕(Val×Int)) :=
 (gQ43).bind fun y1=>(gQ3x true).bind fun y2=>(gQ3x false).bind fun y3=>(gQ49).bind fun y4=>(gQ4p y1).bind fun y5=>(sslc rs ra (rs.size:Int)).bind fun x6=>(q7h x6 y5).bind fun y7=>bif y7 then some (.inr (y1,(IntKind.i64.wrap (ra+(y5.size:Int))))) else (gQ4p y2).bind fun y9=>(sslc rs ra (rs.size:Int)).bind fun x10=>(q7h x10 y9).bind fun y11=>bif y11 then some (.inr (y2,(IntKind.i64.wrap (ra+(y9.size:Int))))) else (gQ4p y3).bind fun y13=>(sslc rs ra (rs.size:Int)).bind fun x14=>(q7h x14 y13).bind fun y15=>bif y15 then some (.inr (y3,(IntKind.i64.wrap (ra+(y13.size:Int))))) else (gQ4p y4).bind fun y17=>(sslc rs ra (rs.size:Int)).bind fun x18=>(q7h x18 y17).bind fun y19=>bif y19 then some (.inr (y4,(IntKind.i64.wrap (ra+(y17.size:Int))))) else some (.inl (2,ra))
theorem gQ3r (hb : Base E E0 G) (he : ∀ w, E w → EnvV w)   (rs : ByteArray) (ra : Int) : ∀ r_ : (Int × Int) ⊕ (Val × Int), gQ3q rs ra = some r_ →
 OkR E E0 Tryz.prog 67 [] [vS rs, vi ra] dD (fun y : Val × Int => .one (.agg (aV y.1))) (fun y => [vS rs, vi y.2]) r_ := by
 refine fnL hb Tryz.func67 rfl fun r_ hq => ?_
 refine q8 hb 7 hq (gQ44 hb he ) fun y1 hy1 hq => ?_
 refine q8 hb 0 hq (gQ3y hb he true) fun y2 hy2 hq => ?_
 refine q8 hb 0 hq (gQ3y hb he false) fun y3 hy3 hq => ?_
 refine q8 hb 0 hq (gQ4a hb he ) fun y4 hy4 hq => ?_
 refine cpE hb 4 [0, 2, 10, 11] (s' := ⟨none, [pk Tryz.f67 26], [(0, [pk Tryz.f67 7])], sl 45 [(0, pt 0), (2, pt 1), (10, .one (.agg [vi y1.kind, vi y1.num, vS y1.str, vL flV y1.items, vL flS y1.keys, vi y2.kind, vi y2.num, vS y2.str, vL flV y2.items, vL flS y2.keys, vi y3.kind, vi y3.num, vS y3.str, vL flV y3.items, vL flS y3.keys, vi y4.kind, vi y4.num, vS y4.str, vL flV y4.items, vL flS y4.keys])), (11, c1 (vi 0))], [bx [vS rs, vi ra], bx zV]⟩) ?_
 refine q9b hb 0 ?_
 refine q8 hb 18 hq (gQ4q hb he y1) fun y5 hy5 hq => ?_
 refine qv hb mixed 3 10 [] ?_
 refine q2d hb 8 hq fun x6 hx6 hq => ?_
 refine q8 hb 2 hq (qaz hb he x6 y5) fun y7 hy7 hq => ?_
 refine ifE hb 1 [26] [] hq (fun hq _ => ?_) (fun hq _ => ?_)
 exact q1w hb 19 (injO hq).symm
 refine cpE hb 7 [0, 2, 10, 11] (s' := ⟨none, [pk Tryz.f67 26], [(0, [pk Tryz.f67 7])], sl 45 [(0, pt 0), (2, pt 1), (10, .one (.agg [vi y1.kind, vi y1.num, vS y1.str, vL flV y1.items, vL flS y1.keys, vi y2.kind, vi y2.num, vS y2.str, vL flV y2.items, vL flS y2.keys, vi y3.kind, vi y3.num, vS y3.str, vL flV y3.items, vL flS y3.keys, vi y4.kind, vi y4.num, vS y4.str, vL flV y4.items, vL flS y4.keys])), (11, c1 (vi 1))], [bx [vS rs, vi ra], bx zV, bx (aV y1)]⟩) ?_
 refine q9b hb 0 ?_
 refine q8 hb 18 hq (gQ4q hb he y2) fun y9 hy9 hq => ?_
 refine qv hb mixed 3 10 [] ?_
 refine q2d hb 8 hq fun x10 hx10 hq => ?_
 refine q8 hb 2 hq (qaz hb he x10 y9) fun y11 hy11 hq => ?_
 refine ifE hb 1 [26] [] hq (fun hq _ => ?_) (fun hq _ => ?_)
 exact q1w hb 19 (injO hq).symm
 refine cpE hb 7 [0, 2, 10, 11] (s' := ⟨none, [pk Tryz.f67 26], [(0, [pk Tryz.f67 7])], sl 45 [(0, pt 0), (2, pt 1), (10, .one (.agg [vi y1.kind, vi y1.num, vS y1.str, vL flV y1.items, vL flS y1.keys, vi y2.kind, vi y2.num, vS y2.str, vL flV y2.items, vL flS y2.keys, vi y3.kind, vi y3.num, vS y3.str, vL flV y3.items, vL flS y3.keys, vi y4.kind, vi y4.num, vS y4.str, vL flV y4.items, vL flS y4.keys])), (11, c1 (vi 2))], [bx [vS rs, vi ra], bx zV, bx (aV y1), bx (aV y2)]⟩) ?_
 refine q9b hb 0 ?_
 refine q8 hb 18 hq (gQ4q hb he y3) fun y13 hy13 hq => ?_
 refine qv hb mixed 3 10 [] ?_
 refine q2d hb 8 hq fun x14 hx14 hq => ?_
 refine q8 hb 2 hq (qaz hb he x14 y13) fun y15 hy15 hq => ?_
 refine ifE hb 1 [26] [] hq (fun hq _ => ?_) (fun hq _ => ?_)
 exact q1w hb 19 (injO hq).symm
 refine cpE hb 7 [0, 2, 10, 11] (s' := ⟨none, [pk Tryz.f67 26], [(0, [pk Tryz.f67 7])], sl 45 [(0, pt 0), (2, pt 1), (10, .one (.agg [vi y1.kind, vi y1.num, vS y1.str, vL flV y1.items, vL flS y1.keys, vi y2.kind, vi y2.num, vS y2.str, vL flV y2.items, vL flS y2.keys, vi y3.kind, vi y3.num, vS y3.str, vL flV y3.items, vL flS y3.keys, vi y4.kind, vi y4.num, vS y4.str, vL flV y4.items, vL flS y4.keys])), (11, c1 (vi 3))], [bx [vS rs, vi ra], bx zV, bx (aV y1), bx (aV y2), bx (aV y3)]⟩) ?_
 refine q9b hb 0 ?_
 refine q8 hb 18 hq (gQ4q hb he y4) fun y17 hy17 hq => ?_
 refine qv hb mixed 3 10 [] ?_
 refine q2d hb 8 hq fun x18 hx18 hq => ?_
 refine q8 hb 2 hq (qaz hb he x18 y17) fun y19 hy19 hq => ?_
 refine ifE hb 1 [26] [] hq (fun hq _ => ?_) (fun hq _ => ?_)
 exact q1w hb 19 (injO hq).symm
 refine cpE hb 7 [0, 2, 10, 11] (s' := ⟨none, [pk Tryz.f67 26], [(0, [pk Tryz.f67 7])], sl 45 [(0, pt 0), (2, pt 1), (10, .one (.agg [vi y1.kind, vi y1.num, vS y1.str, vL flV y1.items, vL flS y1.keys, vi y2.kind, vi y2.num, vS y2.str, vL flV y2.items, vL flS y2.keys, vi y3.kind, vi y3.num, vS y3.str, vL flV y3.items, vL flS y3.keys, vi y4.kind, vi y4.num, vS y4.str, vL flV y4.items, vL flS y4.keys])), (11, c1 (vi 4))], [bx [vS rs, vi ra], bx zV, bx (aV y1), bx (aV y2), bx (aV y3), bx (aV y4)]⟩) ?_
 refine q9b hb 0 ?_
 exact q38 hb 14 0 (q3a hb he rs ra 2 ra) (fun T σ => panL (injO hq).symm T σ)
noncomputable def gQ39 (r_rd_value:ByteArray→Int→Int→Option ((Int×Int)⊕(Val×Int))) (rs:ByteArray) (depth_:Int) (s1:Int×Bool×List Val):Option ((Int×Bool×List Val)⊕((Int×Int)⊕(Val×Int))) :=
 bif s1.2.1 then lbind (r_rd_value rs s1.1 depth_) (fun p6=>some (.inr (.inl p6))) fun y5=>(app 80 s1.2.2 [y5.1]).bind fun l7=>lbind (gQ3e rs y5.2 93) (fun p9=>some (.inr (.inl p9))) fun y8=>some (.inl (y8.2,y8.1,l7)) else some (.inr (.inr ((Val.mk 4 0 eS s1.2.2 []),s1.1)))
noncomputable def gQ38 (r_rd_value:ByteArray→Int→Int→Option ((Int×Int)⊕(Val×Int))) (rs:ByteArray) (ra:Int) (depth_:Int):Option ((Int×Int)⊕(Val×Int)) :=
 lbind (gQ3j rs ra) (fun p2=>some (.inl p2)) fun y1=>bif (decide (y1.1=93)) then some (.inr ((Val.mk 4 0 eS [] []),(IntKind.i64.wrap (y1.2+1)))) else qf (gQ39 r_rd_value rs depth_) (y1.2,true,[])
theorem gQ3a (hb : Base E E0 G) (he : ∀ w, E w → EnvV w) (r_rd_value : ByteArray → Int → Int → Option ((Int × Int) ⊕ (Val × Int))) (hr_rd_value : ∀ (a0 : ByteArray) (a1 : Int) (a2 : Int) (r : (Int × Int) ⊕ (Val × Int)), r_rd_value a0 a1 a2 = some r → OkR E E0 Tryz.prog 40 [.cell (vi a2)] [vS a0, vi a1] dD (fun y : Val × Int => .one (.agg (aV y.1))) (fun y => [vS a0, vi y.2]) r) (rs : ByteArray) (ra : Int) (depth_ : Int) : ∀ r_ : (Int × Int) ⊕ (Val × Int), gQ38 r_rd_value rs ra depth_ = some r_ →
 OkR E E0 Tryz.prog 62 [.cell (vi depth_)] [vS rs, vi ra] dD (fun y : Val × Int => .one (.agg (aV y.1))) (fun y => [vS rs, vi y.2]) r_ := by
 refine fnL hb Tryz.func62 rfl fun r_ hq => ?_
 refine q2n hb 14 0 hq (gQ3l hb he rs ra) (fun p2 _ hq => panL (injO hq).symm) (fun y1 hy1 hq => ?_)
 refine ifE hb 2 [10] [] hq (fun hq _ => ?_) (fun hq _ => ?_)
 exact q1w hb 17 (injO hq).symm
 refine q7n hb 8 2 3 5 (cs := [vi 4, vi 0, vS eS, vN, vN]) (by kernel_rfl) ?_
 refine q15 hb 0 (gQ39 r_rd_value rs depth_) (fun s1 => sl 31 [(0, pt 0), (1, c1 (vi depth_)), (4, pt 1), (5, pt 2), (6, c1 (vB s1.2.1))]) (fun s1 => [bx [vS rs, vi s1.1], bx zV, bx [vi 4, vi 0, vS eS, vO flV 3 s1.2.2, vN], some (arO true flV.sz 0 (flV.f s1.2.2))]) [0, 1, 4, 5, 6] [] 4 (s0 := (y1.2, true, [])) ⟨(by kernel_rfl), (by kernel_rfl), (by kernel_rfl), (ql _ _ _ _ _), trivial⟩ hq (fun s1 o1 hq hn1 he1 => ?_)
 refine ifE hb 5 [6, 19] [] hq (fun hq _ => ?_) (fun hq _ => ?_)
 refine drawLE hb mixed 4 4 [0, 1] [2] 6 0 hq (hr_rd_value rs s1.1 depth_) (fun p6 _ hq => panL (he1 _ (injO hq))) (fun y5 hy5 hq => ?_)
 refine q10 flV hb 0 3 true 0 (flV.one y5.1) hq fun l7 hl7 hq => ?_
 refine q2n hb 6 0 hq (gQ3f hb he rs y5.2 93) (fun p9 _ hq => panL (he1 _ (injO hq))) (fun y8 hy8 hq => ?_)
 exact qk hb 2 [0, 1, 4, 5, 6] [] 4 (hn1 _ (injO hq)) ⟨(by kernel_rfl), (by kernel_rfl), (by kernel_rfl), (ql _ _ _ _ _), trivial⟩
 refine q2g hb 7 3 true (sz := flV.sz) (fr := 0) (cs := flV.f s1.2.2) (by kernel_rfl) (Nat.zero_le _) ?_
 refine q3w hb 0 1 3 (cs := [vi 4, vi 0, vS eS, vO flV 3 s1.2.2, vN]) (c := vO flV 3 s1.2.2) (q2o flV (nb := true) (id := 3) (xs := s1.2.2) (by kernel_rfl)) (by kernel_rfl) ?_
 exact q1w hb 0 (he1 _ (injO hq))
noncomputable def gQ3c (r_rd_value:ByteArray→Int→Int→Option ((Int×Int)⊕(Val×Int))) (rs:ByteArray) (depth_:Int) (s1:Int×Bool×List (ByteArray×Bool)×List ByteArray×List Val):Option ((Int×Bool×List (ByteArray×Bool)×List ByteArray×List Val)⊕((Int×Int)⊕(Val×Int))) :=
 bif s1.2.1 then lbind (gQ3j rs s1.1) (fun p6=>some (.inr (.inl p6))) fun y5=>bif (!decide (y5.1=34)) then some (.inr (.inl (2,y5.2))) else lbind (gQ3m rs y5.2) (fun p9=>some (.inr (.inl p9))) fun y8=>bif (q2j s1.2.2.1 y8.1 false) then some (.inr (.inl (8,y5.2))) else lbind (gQ3j rs y8.2) (fun p12=>some (.inr (.inl p12))) fun y11=>bif (!decide (y11.1=58)) then some (.inr (.inl (2,y11.2))) else (app 16 s1.2.2.2.1 [y8.1]).bind fun l14=>lbind (r_rd_value rs (IntKind.i64.wrap (y11.2+1)) depth_) (fun p16=>some (.inr (.inl p16))) fun y15=>(app 80 s1.2.2.2.2 [y15.1]).bind fun l17=>lbind (gQ3e rs y15.2 125) (fun p19=>some (.inr (.inl p19))) fun y18=>some (.inl (y18.2,y18.1,(mput s1.2.2.1 y8.1 true),l14,l17)) else (gQ3z s1.2.2.2.1 s1.2.2.2.2).bind fun y20=>some (.inr (.inr (y20.1,s1.1)))
noncomputable def gQ3b (r_rd_value:ByteArray→Int→Int→Option ((Int×Int)⊕(Val×Int))) (rs:ByteArray) (ra:Int) (depth_:Int):Option ((Int×Int)⊕(Val×Int)) :=
 lbind (gQ3j rs ra) (fun p2=>some (.inl p2)) fun y1=>bif (decide (y1.1=125)) then some (.inr ((Val.mk 5 0 eS [] []),(IntKind.i64.wrap (y1.2+1)))) else qf (gQ3c r_rd_value rs depth_) (y1.2,true,[],[],[])
theorem gQ3d (hb : Base E E0 G) (he : ∀ w, E w → EnvV w) (r_rd_value : ByteArray → Int → Int → Option ((Int × Int) ⊕ (Val × Int))) (hr_rd_value : ∀ (a0 : ByteArray) (a1 : Int) (a2 : Int) (r : (Int × Int) ⊕ (Val × Int)), r_rd_value a0 a1 a2 = some r → OkR E E0 Tryz.prog 40 [.cell (vi a2)] [vS a0, vi a1] dD (fun y : Val × Int => .one (.agg (aV y.1))) (fun y => [vS a0, vi y.2]) r) (rs : ByteArray) (ra : Int) (depth_ : Int) : ∀ r_ : (Int × Int) ⊕ (Val × Int), gQ3b r_rd_value rs ra depth_ = some r_ →
 OkR E E0 Tryz.prog 63 [.cell (vi depth_)] [vS rs, vi ra] dD (fun y : Val × Int => .one (.agg (aV y.1))) (fun y => [vS rs, vi y.2]) r_ := by
 refine fnL hb Tryz.func63 rfl fun r_ hq => ?_
 refine q2n hb 21 0 hq (gQ3l hb he rs ra) (fun p2 _ hq => panL (injO hq).symm) (fun y1 hy1 hq => ?_)
 refine ifE hb 2 [16] [] hq (fun hq _ => ?_) (fun hq _ => ?_)
 exact q1w hb 17 (injO hq).symm
 refine ownTE hb 8 5 1 ?_
 refine ownTE hb 0 6 5 ?_
 refine q15 hb 0 (gQ3c r_rd_value rs depth_) (fun s1 => sl 84 [(0, pt 0), (1, c1 (vi depth_)), (4, pt 1), (5, c1 (vO flS 3 s1.2.2.2.1)), (6, c1 (vO flV 4 s1.2.2.2.2)), (7, c1 (.mapr 2)), (8, c1 (vB s1.2.1))]) (fun s1 => [bx [vS rs, vi s1.1], bx zV, some (.mp false (encM flB s1.2.2.1)), some (arO true flS.sz 0 (flS.f s1.2.2.2.1)), some (arO true flV.sz 0 (flV.f s1.2.2.2.2))]) [0, 1, 4, 5, 6, 7, 8] [] 5 (s0 := (y1.2, true, [], [], [])) ⟨(by kernel_rfl), (by kernel_rfl), rfl, (ql _ _ _ _ _), (ql _ _ _ _ _), trivial⟩ hq (fun s1 o1 hq hn1 he1 => ?_)
 refine ifE hb 5 [8, 25] [] hq (fun hq _ => ?_) (fun hq _ => ?_)
 refine q2n hb 8 0 hq (gQ3l hb he rs s1.1) (fun p6 _ hq => panL (he1 _ (injO hq))) (fun y5 hy5 hq => ?_)
 refine ifE hb 2 [30] [] hq (fun hq _ => ?_) (fun hq _ => ?_)
 exact q38 hb 7 0 (q3a hb he rs y5.2 2 y5.2) (fun T σ => panL (he1 _ (injO hq)) T σ)
 refine q2n hb 13 0 hq (gQ3n hb he rs y5.2) (fun p9 _ hq => panL (he1 _ (injO hq))) (fun y8 hy8 hq => ?_)
 refine lookE flB hb 7 2 false false s1.2.2.1 y8.1 false ?_
 refine ifE hb 1 [45] [] hq (fun hq _ => ?_) (fun hq _ => ?_)
 exact q38 hb 4 0 (q3a hb he rs y8.2 8 y5.2) (fun T σ => panL (he1 _ (injO hq)) T σ)
 refine mputE flB hb 6 2 false s1.2.2.1 y8.1 true ?_
 refine q2n hb 5 0 hq (gQ3l hb he rs y8.2) (fun p12 _ hq => panL (he1 _ (injO hq))) (fun y11 hy11 hq => ?_)
 refine ifE hb 2 [53] [] hq (fun hq _ => ?_) (fun hq _ => ?_)
 exact q38 hb 7 0 (q3a hb he rs y11.2 2 y11.2) (fun T σ => panL (he1 _ (injO hq)) T σ)
 refine q10 flS hb 18 3 true 0 (flS.one y8.1) hq fun l14 hl14 hq => ?_
 refine q2n hb 6 0 hq (hr_rd_value rs (IntKind.i64.wrap (y11.2 + 1)) depth_) (fun p16 _ hq => panL (he1 _ (injO hq))) (fun y15 hy15 hq => ?_)
 refine q10 flV hb 1 4 true 0 (flV.one y15.1) hq fun l17 hl17 hq => ?_
 refine q2n hb 5 0 hq (gQ3f hb he rs y15.2 125) (fun p19 _ hq => panL (he1 _ (injO hq))) (fun y18 hy18 hq => ?_)
 exact qk hb 2 [0, 1, 4, 5, 6, 7, 8] [] 5 (hn1 _ (injO hq)) ⟨(by kernel_rfl), (by kernel_rfl), rfl, (ql _ _ _ _ _), (ql _ _ _ _ _), trivial⟩
 refine q2g hb 3 3 true (sz := flS.sz) (fr := 0) (cs := flS.f s1.2.2.2.1) (by kernel_rfl) (Nat.zero_le _) ?_
 refine q2g hb 0 4 true (sz := flV.sz) (fr := 0) (cs := flV.f s1.2.2.2.2) (by kernel_rfl) (Nat.zero_le _) ?_
 refine callME hb 3 (vs := [.cell (vO flS 3 s1.2.2.2.1), .cell (vO flV 4 s1.2.2.2.2)]) hq (qjk (qjj (qe4 flS (b := true) (id := 3) (fr := (flS.f s1.2.2.2.1).length) (xs := s1.2.2.2.1) (by kernel_rfl))) (qjk (qjj (qe4 flV (b := true) (id := 4) (fr := (flV.f s1.2.2.2.2).length) (xs := s1.2.2.2.2) (by kernel_rfl))) rfl)) (qlc (qlb (qld flS (nb := true) (id := 3) (xs := s1.2.2.2.1) (by kernel_rfl))) (qlc (qlb (qld flV (nb := true) (id := 4) (xs := s1.2.2.2.2) (by kernel_rfl))) rfl)) (gQ42 hb he s1.2.2.2.1 s1.2.2.2.2) fun y20 hy20 hq => ?_
 exact q1w hb 12 (he1 _ (injO hq))
noncomputable def gQ3o (r_rd_mapping:ByteArray→Int→Int→Option ((Int×Int)⊕(Val×Int))) (r_rd_list:ByteArray→Int→Int→Option ((Int×Int)⊕(Val×Int))) (rs:ByteArray) (ra:Int) (depth_:Int):Option ((Int×Int)⊕(Val×Int)) :=
 lbind (gQ3j rs ra) (fun p2=>some (.inl p2)) fun y1=>bif (decide (y1.1=91)) then bif (decide (depth_=32)) then some (.inl (4,y1.2)) else lbind (r_rd_list rs (IntKind.i64.wrap (y1.2+1)) (IntKind.i64.wrap (depth_+1))) (fun p6=>some (.inl p6)) fun y5=>some (.inr (y5.1,y5.2)) else bif (decide (y1.1=123)) then bif (decide (depth_=32)) then some (.inl (4,y1.2)) else lbind (r_rd_mapping rs (IntKind.i64.wrap (y1.2+1)) (IntKind.i64.wrap (depth_+1))) (fun p10=>some (.inl p10)) fun y9=>some (.inr (y9.1,y9.2)) else bif (decide (y1.1=34)) then lbind (gQ3m rs y1.2) (fun p13=>some (.inl p13)) fun y12=>(gQ47 y12.1).bind fun y14=>some (.inr (y14,y12.2)) else bif (decide (y1.1=45)) then lbind (gQ3g rs y1.2) (fun p17=>some (.inl p17)) fun y16=>some (.inr (y16.1,y16.2)) else bif (decide (y1.1 ≥ 48)) then bif (decide (y1.1≤57)) then lbind (gQ3g rs y1.2) (fun p21=>some (.inl p21)) fun y20=>some (.inr (y20.1,y20.2)) else lbind (gQ3q rs y1.2) (fun p23=>some (.inl p23)) fun y22=>some (.inr (y22.1,y22.2)) else lbind (gQ3q rs y1.2) (fun p25=>some (.inl p25)) fun y24=>some (.inr (y24.1,y24.2))
theorem gQ3p (hb : Base E E0 G) (he : ∀ w, E w → EnvV w) (r_rd_mapping : ByteArray → Int → Int → Option ((Int × Int) ⊕ (Val × Int))) (r_rd_list : ByteArray → Int → Int → Option ((Int × Int) ⊕ (Val × Int))) (hr_rd_mapping : ∀ (a0 : ByteArray) (a1 : Int) (a2 : Int) (r : (Int × Int) ⊕ (Val × Int)), r_rd_mapping a0 a1 a2 = some r → OkR E E0 Tryz.prog 63 [.cell (vi a2)] [vS a0, vi a1] dD (fun y : Val × Int => .one (.agg (aV y.1))) (fun y => [vS a0, vi y.2]) r) (hr_rd_list : ∀ (a0 : ByteArray) (a1 : Int) (a2 : Int) (r : (Int × Int) ⊕ (Val × Int)), r_rd_list a0 a1 a2 = some r → OkR E E0 Tryz.prog 62 [.cell (vi a2)] [vS a0, vi a1] dD (fun y : Val × Int => .one (.agg (aV y.1))) (fun y => [vS a0, vi y.2]) r) (rs : ByteArray) (ra : Int) (depth_ : Int) : ∀ r_ : (Int × Int) ⊕ (Val × Int), gQ3o r_rd_mapping r_rd_list rs ra depth_ = some r_ →
 OkR E E0 Tryz.prog 40 [.cell (vi depth_)] [vS rs, vi ra] dD (fun y : Val × Int => .one (.agg (aV y.1))) (fun y => [vS rs, vi y.2]) r_ := by
 refine fnL hb Tryz.func40 rfl fun r_ hq => ?_
 refine q2n hb 7 0 hq (gQ3l hb he rs ra) (fun p2 _ hq => panL (injO hq).symm) (fun y1 hy1 hq => ?_)
 refine ifE hb 9 [10, 11] [] hq (fun hq hc3 => ?_) (fun hq hc3 => ?_)
 refine ifE hb 12 [16] [] hq (fun hq _ => ?_) (fun hq _ => ?_)
 exact q38 hb 7 0 (q3a hb he rs y1.2 4 y1.2) (fun T σ => panL (injO hq).symm T σ)
 refine knE hb 19 [31] [] (b := (decide (y1.1 = 91))) (v := true) hc3 ?_
 refine q2n hb 6 0 hq (hr_rd_list rs (IntKind.i64.wrap (y1.2 + 1)) (IntKind.i64.wrap (depth_ + 1))) (fun p6 _ hq => panL (injO hq).symm) (fun y5 hy5 hq => ?_)
 exact q1w hb 2 (injO hq).symm
 refine ifE hb 5 [8, 13, 14] [] hq (fun hq _ => ?_) (fun hq _ => ?_)
 refine ifE hb 7 [16] [] hq (fun hq _ => ?_) (fun hq _ => ?_)
 exact q38 hb 7 0 (q3a hb he rs y1.2 4 y1.2) (fun T σ => panL (injO hq).symm T σ)
 refine knE hb 19 [31] [] (b := (decide (y1.1 = 91))) (v := false) hc3 ?_
 refine q2n hb 7 0 hq (hr_rd_mapping rs (IntKind.i64.wrap (y1.2 + 1)) (IntKind.i64.wrap (depth_ + 1))) (fun p10 _ hq => panL (injO hq).symm) (fun y9 hy9 hq => ?_)
 exact q1w hb 2 (injO hq).symm
 refine ifE hb 7 [40, 42] [] hq (fun hq _ => ?_) (fun hq _ => ?_)
 refine q2n hb 4 0 hq (gQ3n hb he rs y1.2) (fun p13 _ hq => panL (injO hq).symm) (fun y12 hy12 hq => ?_)
 refine q8 hb 0 hq (gQ48 hb he y12.1) fun y14 hy14 hq => ?_
 exact q1w hb 2 (injO hq).symm
 refine ifE hb 6 [48, 49] [] hq (fun hq _ => ?_) (fun hq _ => ?_)
 refine q2n hb 13 0 hq (gQ3i hb he rs y1.2) (fun p17 _ hq => panL (injO hq).symm) (fun y16 hy16 hq => ?_)
 exact q1w hb 2 (injO hq).symm
 refine ifE hb 3 [51, 52] [] hq (fun hq _ => ?_) (fun hq _ => ?_)
 refine ifE hb 6 [46, 54, 55, 56] [] hq (fun hq _ => ?_) (fun hq _ => ?_)
 refine q2n hb 4 0 hq (gQ3i hb he rs y1.2) (fun p21 _ hq => panL (injO hq).symm) (fun y20 hy20 hq => ?_)
 exact q1w hb 2 (injO hq).symm
 refine q2n hb 6 0 hq (gQ3r hb he rs y1.2) (fun p23 _ hq => panL (injO hq).symm) (fun y22 hy22 hq => ?_)
 exact q1w hb 2 (injO hq).symm
 refine q2n hb 12 0 hq (gQ3r hb he rs y1.2) (fun p25 _ hq => panL (injO hq).symm) (fun y24 hy24 hq => ?_)
 exact q1w hb 2 (injO hq).symm
noncomputable def tQ5e (rec:Int→ByteArray×Int→Option ((Int×Int)⊕(Val×Int))) (a:Int) (b:ByteArray×Int):Option ((Int×Int)⊕(Val×Int)) :=
 gQ3o (gQ3b (fun a0 a1 a2=>rec a2 (a0,a1))) (gQ38 (fun a0 a1 a2=>rec a2 (a0,a1))) b.1 b.2 a
noncomputable def tQ5c (a0:ByteArray) (a1:Int) (a2:Int):Option ((Int×Int)⊕(Val×Int)):=tieF relD wfD tQ5e a2 (a0,a1)
theorem tQ5d (hb:Base E E0 G) (he:∀ w,E w→EnvV w) (a0:ByteArray) (a1:Int) (a2:Int) (r:(Int×Int)⊕(Val×Int)) (hq:tQ5c a0 a1 a2=some r):OkR E E0 Tryz.prog 40 [.cell (vi a2)] [vS a0,vi a1] dD (fun y:Val×Int=>.one (.agg (aV y.1))) (fun y=>[vS a0,vi y.2]) r :=
 q4h (C:=fun a b r=>OkR E E0 Tryz.prog 40 [.cell (vi a)] [vS b.1,vi b.2] dD (fun y:Val×Int=>.one (.agg (aV y.1))) (fun y=>[vS b.1,vi y.2]) r) (fun rec hr a b r hq=>gQ3p hb he (gQ3b (fun a0 a1 a2=>rec a2 (a0,a1))) (gQ38 (fun a0 a1 a2=>rec a2 (a0,a1))) (gQ3d hb he (fun a0 a1 a2=>rec a2 (a0,a1)) (fun a0 a1 a2 r e=>hr a2 (a0,a1) r e)) (gQ3a hb he (fun a0 a1 a2=>rec a2 (a0,a1)) (fun a0 a1 a2 r e=>hr a2 (a0,a1) r e)) b.1 b.2 a r hq) a2 (a0,a1) r hq
end Abs
end Go.Proofs.YtpidpioifnnllaaGreatDoor
