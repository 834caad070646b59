/-
  the laws: Go functions as functions over plain values, with the proof that the code computes them; printed by gen.py.
-/
import Derived.Test.YtpidpioifnnllaaGreatDoorCtXR
import Derived.Test.YtpidpioifnnllaaGreatDoorAbsN
namespace Go.Proofs.YtpidpioifnnllaaGreatDoor
namespace Abs
open Go.RowKit
variable {E : World → Prop} {E0 : Nat} {G : Nat → Option (List PV)}
set_option maxRecDepth 100000
set_option linter.unusedVariables false
set_option linter.unusedSimpArgs false
attribute [local irreducible] adv J KE KO mPut mSto q5l mFrm qbf hedS unl Pure Ok sl qf awpL awp asq asqD asqX asqF
noncomputable def gQ17 (r_r07_Depth:Val→Option (Int)) (v_:Val) (s1:Int×Int):Option ((Int×Int)⊕(Int)) :=
 bif (decide (s1.2 < (v_.items.length:Int))) then (idx v_.items s1.2).bind fun x2=>(r_r07_Depth x2).bind fun y3=>some (.inl ((if y3 > s1.1 then y3 else s1.1),(IntKind.i64.wrap (s1.2+1)))) else some (.inr (IntKind.i64.wrap (s1.1+1)))
noncomputable def gQ16 (r_r07_Depth:Val→Option (Int)) (v_:Val):Option (Int) :=
 qf (gQ17 r_r07_Depth v_) (0,0)
theorem gQ18 (hb : Base E E0 G) (he : ∀ w, E w → EnvV w) (r_r07_Depth : Val → Option (Int)) (hr_r07_Depth : ∀ (a0 : Val) (r : Int), r_r07_Depth a0 = some r → Pure E E0 Tryz.prog 19 [.agg (aV a0)] (c1 (vi r))) (v_ : Val) : ∀ r_ : Int, gQ16 r_r07_Depth v_ = some r_ →
 Pure E E0 Tryz.prog 19 [.agg (aV v_)] (c1 (vi r_)) := by
 refine fnE hb Tryz.func19 rfl fun r_ hq => ?_
 refine q15 hb 15 (gQ17 r_r07_Depth v_) (fun s1 => sl 22 [(1, pt 0), (3, c1 (vi s1.1)), (4, c1 (vi s1.2))]) (fun s1 => [bx (aV v_)]) [1, 3, 4] [] 1 (s0 := (0, 0)) ⟨(by kernel_rfl), trivial⟩ hq (fun s1 o1 hq hn1 he1 => ?_)
 refine ifE hb 9 [9] [] hq (fun hq _ => ?_) (fun hq _ => ?_)
 refine idxE hb flV 9 hq fun x2 hx2 hq => ?_
 refine q8 hb 1 hq (hr_r07_Depth x2) fun y3 hy3 hq => ?_
 exact qk hb 9 [1, 3, 4] [] 1 (hn1 _ (injO hq)) ⟨(by kernel_rfl), trivial⟩
 exact retE hb 8 (he1 _ (injO hq))
noncomputable def tQ4w (rec:Val→Unit→Option (Int)) (a:Val) (b:Unit):Option (Int) :=
 gQ16 (fun a0=>rec a0 ()) a
noncomputable def tQ4u (a0:Val):Option (Int):=tieF relV wfV tQ4w a0 ()
theorem tQ4v (hb:Base E E0 G) (he:∀ w,E w→EnvV w) (a0:Val) (r:Int) (hq:tQ4u a0=some r):Pure E E0 Tryz.prog 19 [.agg (aV a0)] (c1 (vi r)) :=
 q4h (C:=fun a b r=>Pure E E0 Tryz.prog 19 [.agg (aV a)] (c1 (vi r))) (fun rec hr a b r hq=>gQ18 hb he (fun a0=>rec a0 ()) (fun a0 r e=>hr a0 () r e) a r hq) a0 () r hq
noncomputable def gQ1e (r_r07_Nodes:Val→Option (Int)) (v_:Val) (s1:Int×Int):Option ((Int×Int)⊕(Int)) :=
 bif (decide (s1.2 < (v_.items.length:Int))) then (idx v_.items s1.2).bind fun x2=>(r_r07_Nodes x2).bind fun y3=>some (.inl ((IntKind.i64.wrap (s1.1+y3)),(IntKind.i64.wrap (s1.2+1)))) else some (.inr (s1.1))
noncomputable def gQ1d (r_r07_Nodes:Val→Option (Int)) (v_:Val):Option (Int) :=
 qf (gQ1e r_r07_Nodes v_) (1,0)
theorem gQ1f (hb : Base E E0 G) (he : ∀ w, E w → EnvV w) (r_r07_Nodes : Val → Option (Int)) (hr_r07_Nodes : ∀ (a0 : Val) (r : Int), r_r07_Nodes a0 = some r → Pure E E0 Tryz.prog 20 [.agg (aV a0)] (c1 (vi r))) (v_ : Val) : ∀ r_ : Int, gQ1d r_r07_Nodes v_ = some r_ →
 Pure E E0 Tryz.prog 20 [.agg (aV v_)] (c1 (vi r_)) := by
 refine fnE hb Tryz.func20 rfl fun r_ hq => ?_
 refine q15 hb 15 (gQ1e r_r07_Nodes v_) (fun s1 => sl 21 [(1, pt 0), (3, c1 (vi s1.1)), (4, c1 (vi s1.2))]) (fun s1 => [bx (aV v_)]) [1, 3, 4] [] 1 (s0 := (1, 0)) ⟨(by kernel_rfl), trivial⟩ hq (fun s1 o1 hq hn1 he1 => ?_)
 refine ifE hb 9 [9] [] hq (fun hq _ => ?_) (fun hq _ => ?_)
 refine idxE hb flV 9 hq fun x2 hx2 hq => ?_
 refine q8 hb 1 hq (hr_r07_Nodes x2) fun y3 hy3 hq => ?_
 exact qk hb 9 [1, 3, 4] [] 1 (hn1 _ (injO hq)) ⟨(by kernel_rfl), trivial⟩
 exact retE hb 7 (he1 _ (injO hq))
noncomputable def tQ52 (rec:Val→Unit→Option (Int)) (a:Val) (b:Unit):Option (Int) :=
 gQ1d (fun a0=>rec a0 ()) a
noncomputable def tQ50 (a0:Val):Option (Int):=tieF relV wfV tQ52 a0 ()
theorem tQ51 (hb:Base E E0 G) (he:∀ w,E w→EnvV w) (a0:Val) (r:Int) (hq:tQ50 a0=some r):Pure E E0 Tryz.prog 20 [.agg (aV a0)] (c1 (vi r)) :=
 q4h (C:=fun a b r=>Pure E E0 Tryz.prog 20 [.agg (aV a)] (c1 (vi r))) (fun rec hr a b r hq=>gQ1f hb he (fun a0=>rec a0 ()) (fun a0 r e=>hr a0 () r e) a r hq) a0 () r hq
noncomputable def gQ0g  (v_:Val):Option (Bool) :=
 (tQ4u v_).bind fun y1=>bif (decide (y1≤32)) then (tQ50 v_).bind fun y3=>bif (decide (y3≤200)) then (q5m v_).bind fun y5=>some (decide (y5=0)) else some (false) else some (false)
theorem gQ0h (hb : Base E E0 G) (he : ∀ w, E w → EnvV w)   (v_ : Val) : ∀ r_ : Bool, gQ0g v_ = some r_ →
 Pure E E0 Tryz.prog 8 [.agg (aV v_)] (c1 (vB r_)) := by
 refine fnE hb Tryz.func8 rfl fun r_ hq => ?_
 refine q8 hb 8 hq (tQ4v hb he v_) fun y1 hy1 hq => ?_
 refine ifE hb 2 [5, 6] [] hq (fun hq _ => ?_) (fun hq _ => ?_)
 refine q8 hb 1 hq (tQ51 hb he v_) fun y3 hy3 hq => ?_
 refine ifE hb 3 [9, 10, 11] [] hq (fun hq _ => ?_) (fun hq _ => ?_)
 refine q8 hb 1 hq (qmm hb he v_) fun y5 hy5 hq => ?_
 exact retE hb 4 (injO hq).symm
 exact retE hb 6 (injO hq).symm
 exact retE hb 11 (injO hq).symm
noncomputable def gQ0x (r_r02_digits:Int→Option (ByteArray)) (c_:Int):Option (ByteArray) :=
 (sslc (⟨#[48,49,50,51,52,53,54,55,56,57,97,98,99,100,101,102]⟩:ByteArray) (c_.tmod 16) (IntKind.i64.wrap ((c_.tmod 16)+1))).bind fun x1=>bif (decide (c_ < 16)) then some (x1) else (r_r02_digits (IntKind.i64.wrap (c_.tdiv 16))).bind fun y3=>(cat y3 x1).bind fun x4=>some (x4)
theorem gQ0y (hb : Base E E0 G) (he : ∀ w, E w → EnvV w) (r_r02_digits : Int → Option (ByteArray)) (hr_r02_digits : ∀ (a0 : Int) (r : ByteArray), r_r02_digits a0 = some r → Pure E E0 Tryz.prog 93 [.cell (vi a0)] (c1 (vS r))) (c_ : Int) : ∀ r_ : ByteArray, gQ0x r_r02_digits c_ = some r_ →
 Pure E E0 Tryz.prog 93 [.cell (vi c_)] (c1 (vS r_)) := by
 refine fnE hb Tryz.func93 rfl fun r_ hq => ?_
 refine q2d hb 11 hq fun x1 hx1 hq => ?_
 refine ifE hb 8 [11] [] hq (fun hq _ => ?_) (fun hq _ => ?_)
 exact retE hb 6 (injO hq).symm
 refine q8 hb 6 hq (hr_r02_digits (IntKind.i64.wrap (c_.tdiv 16))) fun y3 hy3 hq => ?_
 refine catE hb 1 hq fun x4 hx4 hq => ?_
 exact retE hb 2 (injO hq).symm
noncomputable def tQ4t (rec:Int→Unit→Option (ByteArray)) (a:Int) (b:Unit):Option (ByteArray) :=
 gQ0x (fun a0=>rec a0 ()) a
noncomputable def tQ4r (a0:Int):Option (ByteArray):=tieF relN wfN tQ4t a0 ()
theorem tQ4s (hb:Base E E0 G) (he:∀ w,E w→EnvV w) (a0:Int) (r:ByteArray) (hq:tQ4r a0=some r):Pure E E0 Tryz.prog 93 [.cell (vi a0)] (c1 (vS r)) :=
 q4h (C:=fun a b r=>Pure E E0 Tryz.prog 93 [.cell (vi a)] (c1 (vS r))) (fun rec hr a b r hq=>gQ0y hb he (fun a0=>rec a0 ()) (fun a0 r e=>hr a0 () r e) a r hq) a0 () r hq
noncomputable def gQ0z  (b_:Int):Option (ByteArray) :=
 bif (decide (b_=10)) then some (⟨#[92,110]⟩:ByteArray) else bif (decide (b_=13)) then some (⟨#[92,114]⟩:ByteArray) else bif (decide (b_=9)) then some (⟨#[92,116]⟩:ByteArray) else bif (decide (b_=34)) then some (⟨#[92,34]⟩:ByteArray) else bif (decide (b_=92)) then some (⟨#[92,92]⟩:ByteArray) else bif (decide (b_ < 32)) then (tQ4r (IntKind.i64.wrap b_)).bind fun y7=>(cat (⟨#[92,117,123]⟩:ByteArray) y7).bind fun x8=>(cat x8 (⟨#[125]⟩:ByteArray)).bind fun x9=>some (x9) else bif (decide (b_=127)) then (tQ4r (IntKind.i64.wrap b_)).bind fun y11=>(cat (⟨#[92,117,123]⟩:ByteArray) y11).bind fun x12=>(cat x12 (⟨#[125]⟩:ByteArray)).bind fun x13=>some (x13) else (bstr [b_]).bind fun x14=>some (x14)
theorem gQ10 (hb : Base E E0 G) (he : ∀ w, E w → EnvV w)   (b_ : Int) : ∀ r_ : ByteArray, gQ0z b_ = some r_ →
 Pure E E0 Tryz.prog 60 [.cell (vI .u8 b_)] (c1 (vS r_)) := by
 refine fnE hb Tryz.func60 rfl fun r_ hq => ?_
 refine ifE hb 15 [4, 5] [] hq (fun hq _ => ?_) (fun hq _ => ?_)
 exact retE hb 5 (injO hq).symm
 refine ifE hb 6 [6, 7] [] hq (fun hq _ => ?_) (fun hq _ => ?_)
 exact retE hb 5 (injO hq).symm
 refine ifE hb 6 [8, 9] [] hq (fun hq _ => ?_) (fun hq _ => ?_)
 exact retE hb 5 (injO hq).symm
 refine ifE hb 6 [10, 11] [] hq (fun hq _ => ?_) (fun hq _ => ?_)
 exact retE hb 5 (injO hq).symm
 refine ifE hb 6 [12, 13] [] hq (fun hq _ => ?_) (fun hq _ => ?_)
 exact retE hb 5 (injO hq).symm
 refine ifE hb 9 [15, 16] [] hq (fun hq _ => ?_) (fun hq _ => ?_)
 refine q8 hb 9 hq (tQ4s hb he (IntKind.i64.wrap b_)) fun y7 hy7 hq => ?_
 refine catE hb 0 hq fun x8 hx8 hq => ?_
 refine catE hb 0 hq fun x9 hx9 hq => ?_
 exact retE hb 2 (injO hq).symm
 refine ifE hb 4 [18, 19] [] hq (fun hq _ => ?_) (fun hq _ => ?_)
 refine q8 hb 5 hq (tQ4s hb he (IntKind.i64.wrap b_)) fun y11 hy11 hq => ?_
 refine catE hb 0 hq fun x12 hx12 hq => ?_
 refine catE hb 0 hq fun x13 hx13 hq => ?_
 exact retE hb 2 (injO hq).symm
 refine q71 hb 6 (xs := [b_]) ((flI .u8).one b_) hq fun x14 hx14 hq => ?_
 exact retE hb 2 (injO hq).symm
noncomputable def gQ0s (s_:ByteArray) (s1:ByteArray×Int):Option ((ByteArray×Int)⊕(ByteArray)) :=
 bif (decide (s1.2 < (s_.size:Int))) then (sidx s_ s1.2).bind fun c2=>(gQ0z c2).bind fun y3=>(cat s1.1 y3).bind fun x4=>some (.inl (x4,(IntKind.i64.wrap (s1.2+1)))) else (cat s1.1 (⟨#[34]⟩:ByteArray)).bind fun x5=>some (.inr (x5))
noncomputable def gQ0r  (s_:ByteArray):Option (ByteArray) :=
 qf (gQ0s s_) ((⟨#[34]⟩:ByteArray),0)
theorem gQ0t (hb : Base E E0 G) (he : ∀ w, E w → EnvV w)   (s_ : ByteArray) : ∀ r_ : ByteArray, gQ0r s_ = some r_ →
 Pure E E0 Tryz.prog 38 [.cell (vS s_)] (c1 (vS r_)) := by
 refine fnE hb Tryz.func38 rfl fun r_ hq => ?_
 refine q15 hb 14 (gQ0s s_) (fun s1 => sl 19 [(0, c1 (vS s_)), (3, c1 (vS s1.1)), (4, c1 (vi s1.2))]) (fun s1 => []) [0, 3, 4] [] 0 (s0 := ((⟨#[34]⟩ : ByteArray), 0)) trivial hq (fun s1 o1 hq hn1 he1 => ?_)
 refine ifE hb 8 [8] [] hq (fun hq _ => ?_) (fun hq _ => ?_)
 refine qp hb 8 hq fun c2 hc2 hq => ?_
 refine q8 hb 0 hq (gQ10 hb he c2) fun y3 hy3 hq => ?_
 refine catE hb 0 hq fun x4 hx4 hq => ?_
 exact qk hb 8 [0, 3, 4] [] 0 (hn1 _ (injO hq)) trivial
 refine catE hb 5 hq fun x5 hx5 hq => ?_
 exact retE hb 2 (he1 _ (injO hq))
noncomputable def gQ1y (r_r09_format:Val→Int→Option (ByteArray)) (v_:Val) (depth_:Int) (s1:ByteArray×Int):Option ((ByteArray×Int)⊕(ByteArray)) :=
 bif (decide (s1.2 < (v_.items.length:Int))) then bif (decide (s1.2 > 0)) then (cat s1.1 (⟨#[44,32]⟩:ByteArray)).bind fun x12=>bif (decide (v_.kind=5)) then bif (decide (s1.2 < (v_.keys.length:Int))) then (idx v_.keys s1.2).bind fun x15=>(gQ0r x15).bind fun y16=>(cat x12 y16).bind fun x17=>(cat x17 (⟨#[58,32]⟩:ByteArray)).bind fun x18=>(idx v_.items s1.2).bind fun x19=>(r_r09_format x19 (IntKind.i64.wrap (depth_+1))).bind fun y20=>(cat x18 y20).bind fun x21=>some (.inl (x21,(IntKind.i64.wrap (s1.2+1)))) else (idx v_.items s1.2).bind fun x22=>(r_r09_format x22 (IntKind.i64.wrap (depth_+1))).bind fun y23=>(cat x12 y23).bind fun x24=>some (.inl (x24,(IntKind.i64.wrap (s1.2+1)))) else (idx v_.items s1.2).bind fun x25=>(r_r09_format x25 (IntKind.i64.wrap (depth_+1))).bind fun y26=>(cat x12 y26).bind fun x27=>some (.inl (x27,(IntKind.i64.wrap (s1.2+1)))) else bif (decide (v_.kind=5)) then bif (decide (s1.2 < (v_.keys.length:Int))) then (idx v_.keys s1.2).bind fun x30=>(gQ0r x30).bind fun y31=>(cat s1.1 y31).bind fun x32=>(cat x32 (⟨#[58,32]⟩:ByteArray)).bind fun x33=>(idx v_.items s1.2).bind fun x34=>(r_r09_format x34 (IntKind.i64.wrap (depth_+1))).bind fun y35=>(cat x33 y35).bind fun x36=>some (.inl (x36,(IntKind.i64.wrap (s1.2+1)))) else (idx v_.items s1.2).bind fun x37=>(r_r09_format x37 (IntKind.i64.wrap (depth_+1))).bind fun y38=>(cat s1.1 y38).bind fun x39=>some (.inl (x39,(IntKind.i64.wrap (s1.2+1)))) else (idx v_.items s1.2).bind fun x40=>(r_r09_format x40 (IntKind.i64.wrap (depth_+1))).bind fun y41=>(cat s1.1 y41).bind fun x42=>some (.inl (x42,(IntKind.i64.wrap (s1.2+1)))) else bif (decide (v_.kind=4)) then (cat (⟨#[91]⟩:ByteArray) s1.1).bind fun x44=>(cat x44 (⟨#[93]⟩:ByteArray)).bind fun x45=>some (.inr (x45)) else (cat (⟨#[123]⟩:ByteArray) s1.1).bind fun x46=>(cat x46 (⟨#[125]⟩:ByteArray)).bind fun x47=>some (.inr (x47))
noncomputable def gQ1x (r_r09_format:Val→Int→Option (ByteArray)) (v_:Val) (depth_:Int):Option (ByteArray) :=
 bif (decide (v_.kind=0)) then some (⟨#[110,117,108,108]⟩:ByteArray) else bif (decide (v_.kind=1)) then bif (decide (v_.num=1)) then some (⟨#[116,114,117,101]⟩:ByteArray) else some (⟨#[102,97,108,115,101]⟩:ByteArray) else bif (decide (v_.kind=2)) then (q7g v_.num).bind fun y5=>some (y5) else bif (decide (v_.kind=3)) then (gQ0r v_.str).bind fun y7=>some (y7) else bif (decide (v_.kind=6)) then some (⟨#[40,117,110,107,110,111,119,110,41]⟩:ByteArray) else bif (decide (depth_ > 32)) then some (⟨#[40,117,110,107,110,111,119,110,41]⟩:ByteArray) else qf (gQ1y r_r09_format v_ depth_) (eS,0)
theorem gQ1z (hb : Base E E0 G) (he : ∀ w, E w → EnvV w) (r_r09_format : Val → Int → Option (ByteArray)) (hr_r09_format : ∀ (a0 : Val) (a1 : Int) (r : ByteArray), r_r09_format a0 a1 = some r → Pure E E0 Tryz.prog 24 [.agg (aV a0), .cell (vi a1)] (c1 (vS r))) (v_ : Val) (depth_ : Int) : ∀ r_ : ByteArray, gQ1x r_r09_format v_ depth_ = some r_ →
 Pure E E0 Tryz.prog 24 [.agg (aV v_), .cell (vi depth_)] (c1 (vS r_)) := by
 refine fnE hb Tryz.func24 rfl fun r_ hq => ?_
 refine ifE hb 12 [9] [] hq (fun hq _ => ?_) (fun hq _ => ?_)
 exact retE hb 5 (injO hq).symm
 refine ifE hb 9 [12] [] hq (fun hq _ => ?_) (fun hq _ => ?_)
 refine ifE hb 8 [15] [] hq (fun hq _ => ?_) (fun hq _ => ?_)
 exact retE hb 5 (injO hq).symm
 exact retE hb 6 (injO hq).symm
 refine ifE hb 9 [18] [] hq (fun hq _ => ?_) (fun hq _ => ?_)
 refine q8 hb 5 hq (qv8 hb he v_.num) fun y5 hy5 hq => ?_
 exact retE hb 2 (injO hq).symm
 refine ifE hb 9 [24] [] hq (fun hq _ => ?_) (fun hq _ => ?_)
 refine q8 hb 5 hq (gQ0t hb he v_.str) fun y7 hy7 hq => ?_
 exact retE hb 2 (injO hq).symm
 refine ifE hb 9 [30, 31] [] hq (fun hq _ => ?_) (fun hq _ => ?_)
 exact retE hb 9 (injO hq).symm
 refine ifE hb 4 [33, 34] [] hq (fun hq _ => ?_) (fun hq _ => ?_)
 exact retE hb 5 (injO hq).symm
 refine cpE hb 12 [1, 2, 5, 6] (s' := ⟨none, [pk Tryz.f24 2042], [(0, [pk Tryz.f24 511])], sl 84 [(1, c1 (vi depth_)), (2, pt 0), (5, c1 (vS eS)), (6, c1 (vi 0))], [bx (aV v_)]⟩) ?_
 refine q15 hb 0 (gQ1y r_r09_format v_ depth_) (fun s1 => sl 84 [(1, c1 (vi depth_)), (2, pt 0), (5, c1 (vS s1.1)), (6, c1 (vi s1.2))]) (fun s1 => [bx (aV v_)]) [1, 2, 5, 6] [] 1 (s0 := (eS, 0)) ⟨(by kernel_rfl), trivial⟩ hq (fun s1 o1 hq hn1 he1 => ?_)
 refine ifE hb 9 [39] [] hq (fun hq _ => ?_) (fun hq _ => ?_)
 refine ifE hb 10 [43] [] hq (fun hq _ => ?_) (fun hq _ => ?_)
 refine catE hb 3 hq fun x12 hx12 hq => ?_
 refine ifE hb 9 [48, 49] [] hq (fun hq _ => ?_) (fun hq _ => ?_)
 refine ifE hb 7 [54, 55] [] hq (fun hq _ => ?_) (fun hq _ => ?_)
 refine idxE hb flS 6 hq fun x15 hx15 hq => ?_
 refine q8 hb 1 hq (gQ0t hb he x15) fun y16 hy16 hq => ?_
 refine catE hb 0 hq fun x17 hx17 hq => ?_
 refine catE hb 0 hq fun x18 hx18 hq => ?_
 refine idxE hb flV 7 hq fun x19 hx19 hq => ?_
 refine q8 hb 3 hq (hr_r09_format x19 (IntKind.i64.wrap (depth_ + 1))) fun y20 hy20 hq => ?_
 refine catE hb 0 hq fun x21 hx21 hq => ?_
 exact qk hb 8 [1, 2, 5, 6] [] 1 (hn1 _ (injO hq)) ⟨(by kernel_rfl), trivial⟩
 refine idxE hb flV 7 hq fun x22 hx22 hq => ?_
 refine q8 hb 3 hq (hr_r09_format x22 (IntKind.i64.wrap (depth_ + 1))) fun y23 hy23 hq => ?_
 refine catE hb 0 hq fun x24 hx24 hq => ?_
 exact qk hb 8 [1, 2, 5, 6] [] 1 (hn1 _ (injO hq)) ⟨(by kernel_rfl), trivial⟩
 refine idxE hb flV 14 hq fun x25 hx25 hq => ?_
 refine q8 hb 3 hq (hr_r09_format x25 (IntKind.i64.wrap (depth_ + 1))) fun y26 hy26 hq => ?_
 refine catE hb 0 hq fun x27 hx27 hq => ?_
 exact qk hb 8 [1, 2, 5, 6] [] 1 (hn1 _ (injO hq)) ⟨(by kernel_rfl), trivial⟩
 refine ifE hb 9 [48, 49] [] hq (fun hq _ => ?_) (fun hq _ => ?_)
 refine ifE hb 7 [54, 55] [] hq (fun hq _ => ?_) (fun hq _ => ?_)
 refine idxE hb flS 6 hq fun x30 hx30 hq => ?_
 refine q8 hb 1 hq (gQ0t hb he x30) fun y31 hy31 hq => ?_
 refine catE hb 0 hq fun x32 hx32 hq => ?_
 refine catE hb 0 hq fun x33 hx33 hq => ?_
 refine idxE hb flV 7 hq fun x34 hx34 hq => ?_
 refine q8 hb 3 hq (hr_r09_format x34 (IntKind.i64.wrap (depth_ + 1))) fun y35 hy35 hq => ?_
 refine catE hb 0 hq fun x36 hx36 hq => ?_
 exact qk hb 8 [1, 2, 5, 6] [] 1 (hn1 _ (injO hq)) ⟨(by kernel_rfl), trivial⟩
 refine idxE hb flV 7 hq fun x37 hx37 hq => ?_
 refine q8 hb 3 hq (hr_r09_format x37 (IntKind.i64.wrap (depth_ + 1))) fun y38 hy38 hq => ?_
 refine catE hb 0 hq fun x39 hx39 hq => ?_
 exact qk hb 8 [1, 2, 5, 6] [] 1 (hn1 _ (injO hq)) ⟨(by kernel_rfl), trivial⟩
 refine idxE hb flV 14 hq fun x40 hx40 hq => ?_
 refine q8 hb 3 hq (hr_r09_format x40 (IntKind.i64.wrap (depth_ + 1))) fun y41 hy41 hq => ?_
 refine catE hb 0 hq fun x42 hx42 hq => ?_
 exact qk hb 8 [1, 2, 5, 6] [] 1 (hn1 _ (injO hq)) ⟨(by kernel_rfl), trivial⟩
 refine ifE hb 9 [77] [] hq (fun hq _ => ?_) (fun hq _ => ?_)
 refine catE hb 4 hq fun x44 hx44 hq => ?_
 refine catE hb 0 hq fun x45 hx45 hq => ?_
 exact retE hb 2 (he1 _ (injO hq))
 refine catE hb 5 hq fun x46 hx46 hq => ?_
 refine catE hb 0 hq fun x47 hx47 hq => ?_
 exact retE hb 2 (he1 _ (injO hq))
noncomputable def tQ55 (rec:Val→Int→Option (ByteArray)) (a:Val) (b:Int):Option (ByteArray) :=
 gQ1x (fun a0 a1=>rec a0 a1) a b
noncomputable def tQ53 (a0:Val) (a1:Int):Option (ByteArray):=tieF relV wfV tQ55 a0 a1
theorem tQ54 (hb:Base E E0 G) (he:∀ w,E w→EnvV w) (a0:Val) (a1:Int) (r:ByteArray) (hq:tQ53 a0 a1=some r):Pure E E0 Tryz.prog 24 [.agg (aV a0),.cell (vi a1)] (c1 (vS r)) :=
 q4h (C:=fun a b r=>Pure E E0 Tryz.prog 24 [.agg (aV a),.cell (vi b)] (c1 (vS r))) (fun rec hr a b r hq=>gQ1z hb he (fun a0 a1=>rec a0 a1) (fun a0 a1 r e=>hr a0 a1 r e) a b r hq) a0 a1 r hq
noncomputable def gQ1g  (v_:Val):Option (ByteArray) :=
 (tQ53 v_ 0).bind fun y1=>some (y1)
theorem gQ1h (hb : Base E E0 G) (he : ∀ w, E w → EnvV w)   (v_ : Val) : ∀ r_ : ByteArray, gQ1g v_ = some r_ →
 Pure E E0 Tryz.prog 10 [.agg (aV v_)] (c1 (vS r_)) := by
 refine fnE hb Tryz.func10 rfl fun r_ hq => ?_
 refine q8 hb 8 hq (tQ54 hb he v_ 0) fun y1 hy1 hq => ?_
 exact retE hb 2 (injO hq).symm
noncomputable def gQ4j  (s_:ByteArray):Option (Val×DiagG) :=
 bif (decide ((s_.size:Int) > 65536)) then some ((Val.mk 0 0 eS [] []),(DiagG.mk 3 0 eS)) else (qbh s_).bind fun y2=>bif (!decide (y2.2.kind=0)) then some ((Val.mk 0 0 eS [] []),y2.2) else (q5m y2.1).bind fun y4=>bif (!decide (y4=0)) then some ((Val.mk 0 0 eS [] []),(DiagG.mk y4 0 eS)) else some (y2.1,(DiagG.mk 0 0 eS))
theorem gQ4k (hb : Base E E0 G) (he : ∀ w, E w → EnvV w)   (s_ : ByteArray) : ∀ r_ : Val × DiagG, gQ4j s_ = some r_ →
 Pure E E0 Tryz.prog 12 [.cell (vS s_)] (.tup [.agg (aV r_.1), .agg [vi r_.2.kind, vi r_.2.at_, vS r_.2.name]]) := by
 refine fnE hb Tryz.func12 rfl fun r_ hq => ?_
 refine ifE hb 12 [9] [] hq (fun hq _ => ?_) (fun hq _ => ?_)
 exact retE hb 8 (injO hq).symm
 refine q8 hb 5 hq (read_g hb he s_) fun y2 hy2 hq => ?_
 refine ifE hb 15 [19] [] hq (fun hq _ => ?_) (fun hq _ => ?_)
 refine frzE hb 2 5 3 (ps := [pI .i64 y2.2.kind, pI .i64 y2.2.at_, pS y2.2.name]) (by kernel_rfl) ?_
 refine qv hb mixed 0 2 [1] ?_
 exact retE hb 6 (injO hq).symm
 refine q8 hb 6 hq (quk hb he y2.1) fun y4 hy4 hq => ?_
 refine ifE hb 7 [25] [] hq (fun hq _ => ?_) (fun hq _ => ?_)
 exact retE hb 9 (injO hq).symm
 exact retE hb 9 (injO hq).symm
noncomputable def gQ4h (r_valuetext_Lines:Val→Int→Option (List ByteArray)) (v_:Val) (indent_:Int) (y3:ByteArray×ByteArray) (s1:Int×List ByteArray):Option ((Int×List ByteArray)⊕(List ByteArray)) :=
 bif (decide (s1.1 < (v_.items.length:Int))) then (idx v_.items s1.1).bind fun x5=>(r_valuetext_Lines x5 (if 64 < (IntKind.i64.wrap ((if 64 < (if 0 > indent_ then 0 else indent_) then 64 else (if 0 > indent_ then 0 else indent_))+2)) then 64 else (IntKind.i64.wrap ((if 64 < (if 0 > indent_ then 0 else indent_) then 64 else (if 0 > indent_ then 0 else indent_))+2)))).bind fun l6=>(q96 (⟨#[32]⟩:ByteArray) (if 64 < (IntKind.i64.wrap ((if 64 < (if 0 > indent_ then 0 else indent_) then 64 else (if 0 > indent_ then 0 else indent_))+2)) then 64 else (IntKind.i64.wrap ((if 64 < (if 0 > indent_ then 0 else indent_) then 64 else (if 0 > indent_ then 0 else indent_))+2)))).bind fun y7=>(gQ4l v_ s1.1).bind fun y8=>(cat y7 y8).bind fun x9=>(idx l6 0).bind fun x10=>(cat x9 x10).bind fun x11=>(idx l6 0).bind fun x12=>bif (decide (s1.1 < (IntKind.i64.wrap ((v_.items.length:Int) - 1)))) then (idx (upd l6 0 x11) (IntKind.i64.wrap (((upd l6 0 x11).length:Int) - 1))).bind fun x14=>(cat x14 (⟨#[44]⟩:ByteArray)).bind fun x15=>(idx (upd l6 0 x11) (IntKind.i64.wrap (((upd l6 0 x11).length:Int) - 1))).bind fun x16=>(app 16 s1.2 (upd (upd l6 0 x11) (IntKind.i64.wrap (((upd l6 0 x11).length:Int) - 1)) x15)).bind fun l17=>some (.inl ((IntKind.i64.wrap (s1.1+1)),l17)) else (app 16 s1.2 (upd l6 0 x11)).bind fun l18=>some (.inl ((IntKind.i64.wrap (s1.1+1)),l18)) else (q96 (⟨#[32]⟩:ByteArray) (if 64 < (if 0 > indent_ then 0 else indent_) then 64 else (if 0 > indent_ then 0 else indent_))).bind fun y19=>(cat y19 y3.2).bind fun x20=>(app 16 s1.2 [x20]).bind fun l21=>some (.inr (l21))
noncomputable def gQ4g (r_valuetext_Lines:Val→Int→Option (List ByteArray)) (v_:Val) (indent_:Int):Option (List ByteArray) :=
 bif (decide ((v_.items.length:Int)=0)) then (gQ4p v_).bind fun y2=>some ([y2]) else (gQ4n v_).bind fun y3=>qf (gQ4h r_valuetext_Lines v_ indent_ y3) (0,[y3.1])
theorem gQ4i (hb : Base E E0 G) (he : ∀ w, E w → EnvV w) (r_valuetext_Lines : Val → Int → Option (List ByteArray)) (hr_valuetext_Lines : ∀ (a0 : Val) (a1 : Int) (r : List ByteArray), r_valuetext_Lines a0 a1 = some r → OkN E E0 Tryz.prog 15 [.agg (aV a0), .cell (vi a1)] flS r) (v_ : Val) (indent_ : Int) : ∀ r_ : List ByteArray, gQ4g r_valuetext_Lines v_ indent_ = some r_ →
 OkN E E0 Tryz.prog 15 [.agg (aV v_), .cell (vi indent_)] flS r_ := by
 refine fnN hb Tryz.func15 rfl fun r_ hq => ?_
 refine ifE hb 13 [15] [] hq (fun hq _ => ?_) (fun hq _ => ?_)
 refine q8 hb 4 hq (gQ4q hb he v_) fun y2 hy2 hq => ?_
 refine q4m flS hb 0 (ys := [y2]) ?_
 exact retNE (F := flS) hb 2 1 (injO hq).symm
 refine q8 hb 19 hq (gQ4o hb he v_) fun y3 hy3 hq => ?_
 refine q4m flS hb 9 (ys := [y3.1]) ?_
 refine q15 hb 11 (gQ4h r_valuetext_Lines v_ indent_ y3) (fun s1 => sl 80 [(1, c1 (vi (if 64 < (if 0 > indent_ then 0 else indent_) then 64 else (if 0 > indent_ then 0 else indent_)))), (2, pt 0), (5, c1 (vi (if 64 < (IntKind.i64.wrap ((if 64 < (if 0 > indent_ then 0 else indent_) then 64 else (if 0 > indent_ then 0 else indent_)) + 2)) then 64 else (IntKind.i64.wrap ((if 64 < (if 0 > indent_ then 0 else indent_) then 64 else (if 0 > indent_ then 0 else indent_)) + 2))))), (7, c1 (vS y3.2)), (8, c1 (vO flS 1 s1.2)), (33, c1 (vL flV v_.items)), (34, c1 (vi (v_.items.length : Int))), (35, c1 (vi s1.1))]) (fun s1 => [bx (aV v_), some (arO false flS.sz 0 (flS.f s1.2))]) [1, 2, 5, 7, 8, 33, 34, 35] [] 2 (s0 := (0, [y3.1])) ⟨(by kernel_rfl), (ql _ _ _ _ _), trivial⟩ hq (fun s1 o1 hq hn1 he1 => ?_)
 refine ifE hb 5 [36] [] hq (fun hq _ => ?_) (fun hq _ => ?_)
 refine idxE hb flV 7 hq fun x5 hx5 hq => ?_
 refine qhw hb 9 hq (fun l6 hl6 => okN_up flS rfl (hr_valuetext_Lines x5 (if 64 < (IntKind.i64.wrap ((if 64 < (if 0 > indent_ then 0 else indent_) then 64 else (if 0 > indent_ then 0 else indent_)) + 2)) then 64 else (IntKind.i64.wrap ((if 64 < (if 0 > indent_ then 0 else indent_) then 64 else (if 0 > indent_ then 0 else indent_)) + 2))) l6 hl6) _) fun l6 hl6 hq => ?_
 refine qv hb mixed 3 10 [0] ?_
 refine q8 hb 2 hq (qmu hb he (⟨#[32]⟩ : ByteArray) (if 64 < (IntKind.i64.wrap ((if 64 < (if 0 > indent_ then 0 else indent_) then 64 else (if 0 > indent_ then 0 else indent_)) + 2)) then 64 else (IntKind.i64.wrap ((if 64 < (if 0 > indent_ then 0 else indent_) then 64 else (if 0 > indent_ then 0 else indent_)) + 2)))) fun y7 hy7 hq => ?_
 refine q8 hb 2 hq (gQ4m hb he v_ s1.1) fun y8 hy8 hq => ?_
 refine catE hb 0 hq fun x9 hx9 hq => ?_
 refine q69 flS hb 1 3 false 0 hq fun x10 hx10 hq => ?_
 refine qbc flS hb 0 3 false 0 hx10 rfl ?_
 refine catE hb 1 hq fun x11 hx11 hq => ?_
 refine q69 flS hb 0 3 false 0 hq fun x12 hx12 hq => ?_
 refine qg7 flS hb 0 3 hx12 x11 ?_
 refine q3k hb 1 11 (c := vO flS 3 l6) (qam (qcd flS (qcc l6 0 x11))) ?_
 refine ifE hb 10 [60] [] hq (fun hq _ => ?_) (fun hq _ => ?_)
 refine qeo flS hb 4 3 false 0 (upd l6 0 x11) ?_
 refine q69 flS hb 1 3 false 0 hq fun x14 hx14 hq => ?_
 refine qbc flS hb 0 3 false 0 hx14 rfl ?_
 refine catE hb 0 hq fun x15 hx15 hq => ?_
 refine q69 flS hb 0 3 false 0 hq fun x16 hx16 hq => ?_
 refine qg7 flS hb 0 3 hx16 x15 ?_
 refine q3k hb 1 11 (c := vO flS 3 (upd l6 0 x11)) (qam (qcd flS (qcc (upd l6 0 x11) (IntKind.i64.wrap (((upd l6 0 x11).length : Int) - 1)) x15))) ?_
 refine qh7 flS hb 3 1 3 false 0 false 0 hq fun l17 hl17 hq => ?_
 refine cpE hb 3 [1, 2, 5, 7, 8, 33, 34, 35] (s' := ⟨none, [pk Tryz.f15 16295, pk Tryz.f15 1018], [(0, [pk Tryz.f15 255])], sl 80 [(1, c1 (vi (if 64 < (if 0 > indent_ then 0 else indent_) then 64 else (if 0 > indent_ then 0 else indent_)))), (2, pt 0), (5, c1 (vi (if 64 < (IntKind.i64.wrap ((if 64 < (if 0 > indent_ then 0 else indent_) then 64 else (if 0 > indent_ then 0 else indent_)) + 2)) then 64 else (IntKind.i64.wrap ((if 64 < (if 0 > indent_ then 0 else indent_) then 64 else (if 0 > indent_ then 0 else indent_)) + 2))))), (7, c1 (vS y3.2)), (8, c1 (vO flS 1 l17)), (33, c1 (vL flV v_.items)), (34, c1 (vi (v_.items.length : Int))), (35, c1 (vi s1.1))], [bx (aV v_), some (arO false flS.sz 0 (flS.f l17)), bx (aV x5), some (arO false flS.sz 0 (flS.f (upd (upd l6 0 x11) (IntKind.i64.wrap (((upd l6 0 x11).length : Int) - 1)) x15)))]⟩) ?_
 exact qk hb 4 [1, 2, 5, 7, 8, 33, 34, 35] [] 2 (hn1 _ (injO hq)) ⟨(by kernel_rfl), (ql _ _ _ _ _), trivial⟩
 refine qh7 flS hb 5 1 3 false 0 false 0 hq fun l18 hl18 hq => ?_
 exact qk hb 7 [1, 2, 5, 7, 8, 33, 34, 35] [] 2 (hn1 _ (injO hq)) ⟨(by kernel_rfl), (ql _ _ _ _ _), trivial⟩
 refine q8 hb 6 hq (qmu hb he (⟨#[32]⟩ : ByteArray) (if 64 < (if 0 > indent_ then 0 else indent_) then 64 else (if 0 > indent_ then 0 else indent_))) fun y19 hy19 hq => ?_
 refine catE hb 1 hq fun x20 hx20 hq => ?_
 refine q10 flS hb 1 1 false 0 (flS.one x20) hq fun l21 hl21 hq => ?_
 exact retNE (F := flS) hb 2 1 (he1 _ (injO hq))
noncomputable def tQ5k (rec:Val→Int→Option (List ByteArray)) (a:Val) (b:Int):Option (List ByteArray) :=
 gQ4g (fun a0 a1=>rec a0 a1) a b
noncomputable def tQ5i (a0:Val) (a1:Int):Option (List ByteArray):=tieF relV wfV tQ5k a0 a1
theorem tQ5j (hb:Base E E0 G) (he:∀ w,E w→EnvV w) (a0:Val) (a1:Int) (r:List ByteArray) (hq:tQ5i a0 a1=some r):OkN E E0 Tryz.prog 15 [.agg (aV a0),.cell (vi a1)] flS r :=
 q4h (C:=fun a b r=>OkN E E0 Tryz.prog 15 [.agg (aV a),.cell (vi b)] flS r) (fun rec hr a b r hq=>gQ4i hb he (fun a0 a1=>rec a0 a1) (fun a0 a1 r e=>hr a0 a1 r e) a b r hq) a0 a1 r hq
noncomputable def gQ0b  :Option (Bool) :=
 (gQ4j (⟨#[32,123,32,34,98,34,32,58,32,50,32,44,32,34,97,34,32,58,32,91,32,93,32,125,32]⟩:ByteArray)).bind fun y1=>(gQ4j (⟨#[91,49,44]⟩:ByteArray)).bind fun y2=>(gQ4j (⟨#[110,117,108]⟩:ByteArray)).bind fun y3=>(tQ5i (Val.mk 4 0 eS [(Val.mk 2 1 eS [] []),(Val.mk 6 0 eS [] [])] []) 0).bind fun y4=>bif (decide ((y1.2.kind:Int)=0) && (decide ((y1.2.at_:Int)=0) && (decide (y1.2.name=eS) && true))) then (q5o y1.1).bind fun y6=>bif (decide (y6=(⟨#[123,34,97,34,58,32,91,93,44,32,34,98,34,58,32,50,125]⟩:ByteArray))) then bif (decide ((y2.2.kind:Int)=40) && (decide ((y2.2.at_:Int)=3) && (decide (y2.2.name=eS) && true))) then bif (decide ((y3.2.kind:Int)=2) && (decide ((y3.2.at_:Int)=0) && (decide (y3.2.name=eS) && true))) then bif (decide ((y4.length:Int)=4)) then (idx y4 1).bind fun x11=>bif (decide (x11=(⟨#[32,32,49,44]⟩:ByteArray))) then (idx y4 2).bind fun x13=>some (decide (x13=(⟨#[32,32,40,117,110,107,110,111,119,110,41]⟩:ByteArray))) else some (false) else some (false) else some (false) else some (false) else some (false) else some (false)
theorem gQ0c (hb : Base E E0 G) (he : ∀ w, E w → EnvV w)    : ∀ r_ : Bool, gQ0b = some r_ →
 Pure E E0 Tryz.prog 11 [] (c1 (vB r_)) := by
 refine fnE hb Tryz.func11 rfl fun r_ hq => ?_
 refine q8 hb 6 hq (gQ4k hb he (⟨#[32, 123, 32, 34, 98, 34, 32, 58, 32, 50, 32, 44, 32, 34, 97, 34, 32, 58, 32, 91, 32, 93, 32, 125, 32]⟩ : ByteArray)) fun y1 hy1 hq => ?_
 refine q8 hb 10 hq (gQ4k hb he (⟨#[91, 49, 44]⟩ : ByteArray)) fun y2 hy2 hq => ?_
 refine q8 hb 10 hq (gQ4k hb he (⟨#[110, 117, 108]⟩ : ByteArray)) fun y3 hy3 hq => ?_
 have hp := (fun y hy => qmf flS (tQ5j hb he (Val.mk 4 0 eS [(Val.mk 2 1 eS [] []), (Val.mk 6 0 eS [] [])] []) 0 y hy))
 simp only [aV, aT, kind_mk, qls, qnm, qk0, qk9, Ty.kind_mk, Ty.elems_mk, Ty.names_mk, vL_one, vL_two, qwt, qws, qwr, vL_six] at hp
 refine q8 hb 14 hq hp fun y4 hy4 hq => ?_
 refine ifE hb 8 [27, 28] [] hq (fun hq _ => ?_) (fun hq _ => ?_)
 refine q8 hb 1 hq (qgk hb he y1.1) fun y6 hy6 hq => ?_
 refine ifE hb 3 [31, 32, 33] [] hq (fun hq _ => ?_) (fun hq _ => ?_)
 refine ifE hb 5 [36, 37, 38] [] hq (fun hq _ => ?_) (fun hq _ => ?_)
 refine ifE hb 5 [41, 42, 43] [] hq (fun hq _ => ?_) (fun hq _ => ?_)
 refine ifE hb 5 [46, 47, 48] [] hq (fun hq _ => ?_) (fun hq _ => ?_)
 refine idxE hb flS 1 hq fun x11 hx11 hq => ?_
 refine ifE hb 4 [52, 53, 54] [] hq (fun hq _ => ?_) (fun hq _ => ?_)
 refine idxE hb flS 1 hq fun x13 hx13 hq => ?_
 exact retE hb 5 (injO hq).symm
 exact retE hb 7 (injO hq).symm
 exact retE hb 13 (injO hq).symm
 exact retE hb 18 (injO hq).symm
 exact retE hb 23 (injO hq).symm
 exact retE hb 28 (injO hq).symm
 exact retE hb 33 (injO hq).symm
noncomputable def gQ04  (v_:Val):Option (Bool) :=
 (gQ0g v_).bind fun y1=>bif (!y1) then (gQ0b).bind fun y3=>some (y3) else (q5o v_).bind fun y4=>(gQ1g v_).bind fun y5=>bif (decide (y4=y5)) then (gQ0b).bind fun y7=>some (y7) else some (false)
theorem gQ05 (hb : Base E E0 G) (he : ∀ w, E w → EnvV w)   (v_ : Val) : ∀ r_ : Bool, gQ04 v_ = some r_ →
 Pure E E0 Tryz.prog 3 [.agg (aV v_)] (c1 (vB r_)) := by
 refine fnE hb Tryz.func3 rfl fun r_ hq => ?_
 refine qv hb mixed 6 7 [] ?_
 refine q8 hb 1 hq (gQ0h hb he v_) fun y1 hy1 hq => ?_
 refine ifE hb 2 [5, 6] [] hq (fun hq _ => ?_) (fun hq _ => ?_)
 refine q8 hb 8 hq (gQ0c hb he ) fun y3 hy3 hq => ?_
 exact retE hb 3 (injO hq).symm
 refine q8 hb 1 hq (qgk hb he v_) fun y4 hy4 hq => ?_
 refine q8 hb 2 hq (gQ1h hb he v_) fun y5 hy5 hq => ?_
 refine ifE hb 3 [11, 12, 13] [] hq (fun hq _ => ?_) (fun hq _ => ?_)
 refine q8 hb 0 hq (gQ0c hb he ) fun y7 hy7 hq => ?_
 exact retE hb 3 (injO hq).symm
 exact retE hb 4 (injO hq).symm
noncomputable def gQ36  (k_:Int) (at_:Int):Option (DiagG) :=
 some (DiagG.mk k_ at_ eS)
theorem gQ37 (hb : Base E E0 G) (he : ∀ w, E w → EnvV w)   (k_ : Int) (at_ : Int) : ∀ r_ : DiagG, gQ36 k_ at_ = some r_ →
 Pure E E0 Tryz.prog 27 [.cell (vi k_), .cell (vi at_)] (.one (.agg [vi r_.kind, vi r_.at_, vS r_.name])) := by
 refine fnE hb Tryz.func27 rfl fun r_ hq => ?_
 exact retE hb 11 (injO hq).symm
noncomputable def gQ2v (s_:ByteArray) (s1:Int):Option ((Int)⊕(Int)) :=
 bif (decide (s1 < (s_.size:Int))) then (sidx s_ s1).bind fun c2=>bif (decide (c2=32)) then some (.inl (IntKind.i64.wrap (s1+1))) else (sidx s_ s1).bind fun c4=>bif (decide (c4=9)) then some (.inl (IntKind.i64.wrap (s1+1))) else (sidx s_ s1).bind fun c6=>bif (decide (c6=10)) then some (.inl (IntKind.i64.wrap (s1+1))) else (sidx s_ s1).bind fun c8=>bif (decide (c8=13)) then some (.inl (IntKind.i64.wrap (s1+1))) else some (.inr (s1)) else some (.inr (s1))
noncomputable def gQ2u  (s_:ByteArray) (at_:Int):Option (Int) :=
 qf (gQ2v s_) at_
theorem gQ2w (hb : Base E E0 G) (he : ∀ w, E w → EnvV w)   (s_ : ByteArray) (at_ : Int) : ∀ r_ : Int, gQ2u s_ at_ = some r_ →
 Pure E E0 Tryz.prog 29 [.cell (vS s_), .cell (vi at_)] (c1 (vi r_)) := by
 refine fnE hb Tryz.func29 rfl fun r_ hq => ?_
 refine q15 hb 6 (gQ2v s_) (fun s1 => sl 36 [(0, c1 (vS s_)), (1, c1 (vi s1))]) (fun s1 => []) [0, 1] [] 0 (s0 := at_) trivial hq (fun s1 o1 hq hn1 he1 => ?_)
 refine ifE hb 8 [8, 9] [] hq (fun hq _ => ?_) (fun hq _ => ?_)
 refine qp hb 2 hq fun c2 hc2 hq => ?_
 refine ifE hb 2 [13, 14] [] hq (fun hq _ => ?_) (fun hq _ => ?_)
 exact qk hb 28 [0, 1] [] 0 (hn1 _ (injO hq)) trivial
 refine qp hb 2 hq fun c4 hc4 hq => ?_
 refine ifE hb 3 [18, 19, 20] [] hq (fun hq _ => ?_) (fun hq _ => ?_)
 exact qk hb 22 [0, 1] [] 0 (hn1 _ (injO hq)) trivial
 refine qp hb 2 hq fun c6 hc6 hq => ?_
 refine ifE hb 3 [24, 25, 26] [] hq (fun hq _ => ?_) (fun hq _ => ?_)
 exact qk hb 16 [0, 1] [] 0 (hn1 _ (injO hq)) trivial
 refine qp hb 2 hq fun c8 hc8 hq => ?_
 refine ifE hb 4 [30, 31, 32] [] hq (fun hq _ => ?_) (fun hq _ => ?_)
 exact qk hb 9 [0, 1] [] 0 (hn1 _ (injO hq)) trivial
 exact retE hb 7 (he1 _ (injO hq))
 exact retE hb 31 (he1 _ (injO hq))
noncomputable def gQ1v  (s_:ByteArray) (at_:Int) (sign_:Int):Option (Bool) :=
 (gQ2u s_ at_).bind fun y1=>bif (decide (y1 < (s_.size:Int))) then (sidx s_ y1).bind fun c3=>some (decide (c3=sign_)) else some (false)
theorem gQ1w (hb : Base E E0 G) (he : ∀ w, E w → EnvV w)   (s_ : ByteArray) (at_ : Int) (sign_ : Int) : ∀ r_ : Bool, gQ1v s_ at_ sign_ = some r_ →
 Pure E E0 Tryz.prog 75 [.cell (vS s_), .cell (vi at_), .cell (vI .u8 sign_)] (c1 (vB r_)) := by
 refine fnE hb Tryz.func75 rfl fun r_ hq => ?_
 refine q8 hb 8 hq (gQ2w hb he s_ at_) fun y1 hy1 hq => ?_
 refine ifE hb 9 [13, 14] [] hq (fun hq _ => ?_) (fun hq _ => ?_)
 refine qp hb 2 hq fun c3 hc3 hq => ?_
 exact retE hb 5 (injO hq).symm
 exact retE hb 8 (injO hq).symm
noncomputable def gQ1r  (s_:ByteArray) (at_:Int) (sign_:Int):Option (Bool×Int×DiagG) :=
 (gQ2u s_ at_).bind fun y1=>bif (decide (y1=(s_.size:Int))) then (gQ36 40 y1).bind fun y3=>some (false,y1,y3) else (sidx s_ y1).bind fun c4=>bif (!decide (c4=44)) then (sidx s_ y1).bind fun c6=>bif (!decide (c6=sign_)) then (gQ36 2 y1).bind fun y8=>some (false,y1,y8) else (sidx s_ y1).bind fun c9=>some ((decide (c9=sign_)),(IntKind.i64.wrap (y1+1)),(DiagG.mk 0 0 eS)) else (sidx s_ y1).bind fun c10=>some ((decide (c10=sign_)),(IntKind.i64.wrap (y1+1)),(DiagG.mk 0 0 eS))
theorem gQ1s (hb : Base E E0 G) (he : ∀ w, E w → EnvV w)   (s_ : ByteArray) (at_ : Int) (sign_ : Int) : ∀ r_ : Bool × Int × DiagG, gQ1r s_ at_ sign_ = some r_ →
 Pure E E0 Tryz.prog 76 [.cell (vS s_), .cell (vi at_), .cell (vI .u8 sign_)] (.tup [.cell (vB r_.1), .cell (vi r_.2.1), .agg [vi r_.2.2.kind, vi r_.2.2.at_, vS r_.2.2.name]]) := by
 refine fnE hb Tryz.func76 rfl fun r_ hq => ?_
 refine q8 hb 10 hq (gQ2w hb he s_ at_) fun y1 hy1 hq => ?_
 refine ifE hb 10 [15] [] hq (fun hq _ => ?_) (fun hq _ => ?_)
 refine q8 hb 5 hq (gQ37 hb he 40 y1) fun y3 hy3 hq => ?_
 exact retE hb 4 (injO hq).symm
 refine qp hb 7 hq fun c4 hc4 hq => ?_
 refine ifE hb 2 [22, 23] [] hq (fun hq _ => ?_) (fun hq _ => ?_)
 refine qp hb 2 hq fun c6 hc6 hq => ?_
 refine ifE hb 4 [28, 29] [] hq (fun hq _ => ?_) (fun hq _ => ?_)
 refine q8 hb 5 hq (gQ37 hb he 2 y1) fun y8 hy8 hq => ?_
 exact retE hb 4 (injO hq).symm
 refine qp hb 6 hq fun c9 hc9 hq => ?_
 exact retE hb 9 (injO hq).symm
 refine qp hb 13 hq fun c10 hc10 hq => ?_
 exact retE hb 9 (injO hq).symm
noncomputable def gQ11  (b_:Int):Option (Int) :=
 bif (decide (b_ ≥ 48)) then bif (decide (b_≤57)) then some (IntKind.i64.wrap (IntKind.u8.wrap (b_ - 48))) else bif (decide (b_ ≥ 97)) then bif (decide (b_≤102)) then some (IntKind.i64.wrap ((IntKind.i64.wrap (IntKind.u8.wrap (b_ - 97)))+10)) else some (-1) else some (-1) else bif (decide (b_ ≥ 97)) then bif (decide (b_≤102)) then some (IntKind.i64.wrap ((IntKind.i64.wrap (IntKind.u8.wrap (b_ - 97)))+10)) else some (-1) else some (-1)
theorem gQ12 (hb : Base E E0 G) (he : ∀ w, E w → EnvV w)   (b_ : Int) : ∀ r_ : Int, gQ11 b_ = some r_ →
 Pure E E0 Tryz.prog 146 [.cell (vI .u8 b_)] (c1 (vi r_)) := by
 refine fnE hb Tryz.func146 rfl fun r_ hq => ?_
 refine ifE hb 10 [4, 5] [] hq (fun hq _ => ?_) (fun hq _ => ?_)
 refine ifE hb 4 [7, 8] [] hq (fun hq _ => ?_) (fun hq _ => ?_)
 exact retE hb 8 (injO hq).symm
 refine ifE hb 8 [13, 14] [] hq (fun hq _ => ?_) (fun hq _ => ?_)
 refine ifE hb 4 [16, 17] [] hq (fun hq _ => ?_) (fun hq _ => ?_)
 exact retE hb 9 (injO hq).symm
 exact retE hb 6 (injO hq).symm
 exact retE hb 10 (injO hq).symm
 refine ifE hb 12 [13, 14] [] hq (fun hq _ => ?_) (fun hq _ => ?_)
 refine ifE hb 4 [16, 17] [] hq (fun hq _ => ?_) (fun hq _ => ?_)
 exact retE hb 9 (injO hq).symm
 exact retE hb 6 (injO hq).symm
 exact retE hb 10 (injO hq).symm
noncomputable def gQ14 (s_:ByteArray) (i_:Int) (s1:Int×Int):Option ((Int×Int)⊕(Int×Int×Int)) :=
 bif (decide ((IntKind.i64.wrap (i_+s1.2)) < (s_.size:Int))) then bif (decide (s1.2 < 6)) then (sidx s_ (IntKind.i64.wrap (i_+s1.2))).bind fun c3=>(gQ11 c3).bind fun y4=>bif (decide (y4 ≥ 0)) then (sidx s_ (IntKind.i64.wrap (i_+s1.2))).bind fun c6=>(gQ11 c6).bind fun y7=>some (.inl ((IntKind.i64.wrap ((IntKind.i64.wrap (16*s1.1))+y7)),(IntKind.i64.wrap (s1.2+1)))) else bif (decide ((IntKind.i64.wrap (i_+s1.2)) ≥ (s_.size:Int))) then some (.inr (0,0,40)) else bif (decide (s1.2=0)) then some (.inr (0,0,2)) else (sidx s_ (IntKind.i64.wrap (i_+s1.2))).bind fun c10=>bif (!decide (c10=125)) then some (.inr (0,0,2)) else bif (decide (s1.2 > 1)) then (sidx s_ i_).bind fun c13=>bif (decide (c13=48)) then some (.inr (0,0,2)) else bif (decide (s1.1 > 1114111)) then some (.inr (0,0,2)) else bif (decide (s1.1 ≥ 55296)) then bif (decide (s1.1≤57343)) then some (.inr (0,0,2)) else some (.inr (s1.1,(IntKind.i64.wrap ((IntKind.i64.wrap (i_+s1.2))+1)),0)) else some (.inr (s1.1,(IntKind.i64.wrap ((IntKind.i64.wrap (i_+s1.2))+1)),0)) else bif (decide (s1.1 > 1114111)) then some (.inr (0,0,2)) else bif (decide (s1.1 ≥ 55296)) then bif (decide (s1.1≤57343)) then some (.inr (0,0,2)) else some (.inr (s1.1,(IntKind.i64.wrap ((IntKind.i64.wrap (i_+s1.2))+1)),0)) else some (.inr (s1.1,(IntKind.i64.wrap ((IntKind.i64.wrap (i_+s1.2))+1)),0)) else bif (decide ((IntKind.i64.wrap (i_+s1.2)) ≥ (s_.size:Int))) then some (.inr (0,0,40)) else bif (decide (s1.2=0)) then some (.inr (0,0,2)) else (sidx s_ (IntKind.i64.wrap (i_+s1.2))).bind fun c23=>bif (!decide (c23=125)) then some (.inr (0,0,2)) else bif (decide (s1.2 > 1)) then (sidx s_ i_).bind fun c26=>bif (decide (c26=48)) then some (.inr (0,0,2)) else bif (decide (s1.1 > 1114111)) then some (.inr (0,0,2)) else bif (decide (s1.1 ≥ 55296)) then bif (decide (s1.1≤57343)) then some (.inr (0,0,2)) else some (.inr (s1.1,(IntKind.i64.wrap ((IntKind.i64.wrap (i_+s1.2))+1)),0)) else some (.inr (s1.1,(IntKind.i64.wrap ((IntKind.i64.wrap (i_+s1.2))+1)),0)) else bif (decide (s1.1 > 1114111)) then some (.inr (0,0,2)) else bif (decide (s1.1 ≥ 55296)) then bif (decide (s1.1≤57343)) then some (.inr (0,0,2)) else some (.inr (s1.1,(IntKind.i64.wrap ((IntKind.i64.wrap (i_+s1.2))+1)),0)) else some (.inr (s1.1,(IntKind.i64.wrap ((IntKind.i64.wrap (i_+s1.2))+1)),0)) else bif (decide ((IntKind.i64.wrap (i_+s1.2)) ≥ (s_.size:Int))) then some (.inr (0,0,40)) else bif (decide (s1.2=0)) then some (.inr (0,0,2)) else (sidx s_ (IntKind.i64.wrap (i_+s1.2))).bind fun c36=>bif (!decide (c36=125)) then some (.inr (0,0,2)) else bif (decide (s1.2 > 1)) then (sidx s_ i_).bind fun c39=>bif (decide (c39=48)) then some (.inr (0,0,2)) else bif (decide (s1.1 > 1114111)) then some (.inr (0,0,2)) else bif (decide (s1.1 ≥ 55296)) then bif (decide (s1.1≤57343)) then some (.inr (0,0,2)) else some (.inr (s1.1,(IntKind.i64.wrap ((IntKind.i64.wrap (i_+s1.2))+1)),0)) else some (.inr (s1.1,(IntKind.i64.wrap ((IntKind.i64.wrap (i_+s1.2))+1)),0)) else bif (decide (s1.1 > 1114111)) then some (.inr (0,0,2)) else bif (decide (s1.1 ≥ 55296)) then bif (decide (s1.1≤57343)) then some (.inr (0,0,2)) else some (.inr (s1.1,(IntKind.i64.wrap ((IntKind.i64.wrap (i_+s1.2))+1)),0)) else some (.inr (s1.1,(IntKind.i64.wrap ((IntKind.i64.wrap (i_+s1.2))+1)),0))
noncomputable def gQ13  (s_:ByteArray) (i_:Int):Option (Int×Int×Int) :=
 qf (gQ14 s_ i_) (0,0)
theorem gQ15 (hb : Base E E0 G) (he : ∀ w, E w → EnvV w)   (s_ : ByteArray) (i_ : Int) : ∀ r_ : Int × Int × Int, gQ13 s_ i_ = some r_ →
 Pure E E0 Tryz.prog 125 [.cell (vS s_), .cell (vi i_)] (.tup [.cell (vi r_.1), .cell (vi r_.2.1), .cell (vi r_.2.2)]) := by
 refine fnE hb Tryz.func125 rfl fun r_ hq => ?_
 refine q15 hb 13 (gQ14 s_ i_) (fun s1 => sl 82 [(0, c1 (vS s_)), (1, c1 (vi i_)), (7, c1 (vi s1.1)), (8, c1 (vi s1.2))]) (fun s1 => []) [0, 1, 7, 8] [] 0 (s0 := (0, 0)) trivial hq (fun s1 o1 hq hn1 he1 => ?_)
 refine ifE hb 10 [14, 15] [] hq (fun hq _ => ?_) (fun hq _ => ?_)
 refine ifE hb 4 [17, 18, 19] [] hq (fun hq _ => ?_) (fun hq _ => ?_)
 refine qp hb 4 hq fun c3 hc3 hq => ?_
 refine q8 hb 0 hq (gQ12 hb he c3) fun y4 hy4 hq => ?_
 refine ifE hb 3 [26, 27] [] hq (fun hq _ => ?_) (fun hq _ => ?_)
 refine qp hb 11 hq fun c6 hc6 hq => ?_
 refine q8 hb 0 hq (gQ12 hb he c6) fun y7 hy7 hq => ?_
 exact qk hb 9 [0, 1, 7, 8] [] 0 (hn1 _ (injO hq)) trivial
 refine ifE hb 12 [44] [] hq (fun hq _ => ?_) (fun hq _ => ?_)
 exact retE hb 7 (he1 _ (injO hq))
 refine ifE hb 8 [46, 47] [] hq (fun hq _ => ?_) (fun hq _ => ?_)
 exact retE hb 37 (he1 _ (injO hq))
 refine qp hb 4 hq fun c10 hc10 hq => ?_
 refine ifE hb 3 [53, 54, 55] [] hq (fun hq _ => ?_) (fun hq _ => ?_)
 exact retE hb 29 (he1 _ (injO hq))
 refine ifE hb 3 [57, 58] [] hq (fun hq _ => ?_) (fun hq _ => ?_)
 refine qp hb 2 hq fun c13 hc13 hq => ?_
 refine ifE hb 4 [62, 63, 64, 65] [] hq (fun hq _ => ?_) (fun hq _ => ?_)
 exact retE hb 19 (he1 _ (injO hq))
 refine ifE hb 4 [67, 68, 69] [] hq (fun hq _ => ?_) (fun hq _ => ?_)
 exact retE hb 15 (he1 _ (injO hq))
 refine ifE hb 3 [71, 72] [] hq (fun hq _ => ?_) (fun hq _ => ?_)
 refine ifE hb 5 [74, 75, 76] [] hq (fun hq _ => ?_) (fun hq _ => ?_)
 exact retE hb 7 (he1 _ (injO hq))
 exact retE hb 13 (he1 _ (injO hq))
 exact retE hb 18 (he1 _ (injO hq))
 refine ifE hb 11 [67, 68, 69] [] hq (fun hq _ => ?_) (fun hq _ => ?_)
 exact retE hb 15 (he1 _ (injO hq))
 refine ifE hb 3 [71, 72] [] hq (fun hq _ => ?_) (fun hq _ => ?_)
 refine ifE hb 5 [74, 75, 76] [] hq (fun hq _ => ?_) (fun hq _ => ?_)
 exact retE hb 7 (he1 _ (injO hq))
 exact retE hb 13 (he1 _ (injO hq))
 exact retE hb 18 (he1 _ (injO hq))
 refine ifE hb 21 [44] [] hq (fun hq _ => ?_) (fun hq _ => ?_)
 exact retE hb 7 (he1 _ (injO hq))
 refine ifE hb 8 [46, 47] [] hq (fun hq _ => ?_) (fun hq _ => ?_)
 exact retE hb 37 (he1 _ (injO hq))
 refine qp hb 4 hq fun c23 hc23 hq => ?_
 refine ifE hb 3 [53, 54, 55] [] hq (fun hq _ => ?_) (fun hq _ => ?_)
 exact retE hb 29 (he1 _ (injO hq))
 refine ifE hb 3 [57, 58] [] hq (fun hq _ => ?_) (fun hq _ => ?_)
 refine qp hb 2 hq fun c26 hc26 hq => ?_
 refine ifE hb 4 [62, 63, 64, 65] [] hq (fun hq _ => ?_) (fun hq _ => ?_)
 exact retE hb 19 (he1 _ (injO hq))
 refine ifE hb 4 [67, 68, 69] [] hq (fun hq _ => ?_) (fun hq _ => ?_)
 exact retE hb 15 (he1 _ (injO hq))
 refine ifE hb 3 [71, 72] [] hq (fun hq _ => ?_) (fun hq _ => ?_)
 refine ifE hb 5 [74, 75, 76] [] hq (fun hq _ => ?_) (fun hq _ => ?_)
 exact retE hb 7 (he1 _ (injO hq))
 exact retE hb 13 (he1 _ (injO hq))
 exact retE hb 18 (he1 _ (injO hq))
 refine ifE hb 11 [67, 68, 69] [] hq (fun hq _ => ?_) (fun hq _ => ?_)
 exact retE hb 15 (he1 _ (injO hq))
 refine ifE hb 3 [71, 72] [] hq (fun hq _ => ?_) (fun hq _ => ?_)
 refine ifE hb 5 [74, 75, 76] [] hq (fun hq _ => ?_) (fun hq _ => ?_)
 exact retE hb 7 (he1 _ (injO hq))
 exact retE hb 13 (he1 _ (injO hq))
 exact retE hb 18 (he1 _ (injO hq))
 refine ifE hb 25 [44] [] hq (fun hq _ => ?_) (fun hq _ => ?_)
 exact retE hb 7 (he1 _ (injO hq))
 refine ifE hb 8 [46, 47] [] hq (fun hq _ => ?_) (fun hq _ => ?_)
 exact retE hb 37 (he1 _ (injO hq))
 refine qp hb 4 hq fun c36 hc36 hq => ?_
 refine ifE hb 3 [53, 54, 55] [] hq (fun hq _ => ?_) (fun hq _ => ?_)
 exact retE hb 29 (he1 _ (injO hq))
 refine ifE hb 3 [57, 58] [] hq (fun hq _ => ?_) (fun hq _ => ?_)
 refine qp hb 2 hq fun c39 hc39 hq => ?_
 refine ifE hb 4 [62, 63, 64, 65] [] hq (fun hq _ => ?_) (fun hq _ => ?_)
 exact retE hb 19 (he1 _ (injO hq))
 refine ifE hb 4 [67, 68, 69] [] hq (fun hq _ => ?_) (fun hq _ => ?_)
 exact retE hb 15 (he1 _ (injO hq))
 refine ifE hb 3 [71, 72] [] hq (fun hq _ => ?_) (fun hq _ => ?_)
 refine ifE hb 5 [74, 75, 76] [] hq (fun hq _ => ?_) (fun hq _ => ?_)
 exact retE hb 7 (he1 _ (injO hq))
 exact retE hb 13 (he1 _ (injO hq))
 exact retE hb 18 (he1 _ (injO hq))
 refine ifE hb 11 [67, 68, 69] [] hq (fun hq _ => ?_) (fun hq _ => ?_)
 exact retE hb 15 (he1 _ (injO hq))
 refine ifE hb 3 [71, 72] [] hq (fun hq _ => ?_) (fun hq _ => ?_)
 refine ifE hb 5 [74, 75, 76] [] hq (fun hq _ => ?_) (fun hq _ => ?_)
 exact retE hb 7 (he1 _ (injO hq))
 exact retE hb 13 (he1 _ (injO hq))
 exact retE hb 18 (he1 _ (injO hq))
noncomputable def gQ0l  (c_:Int):Option (ByteArray) :=
 bif (decide (c_ < 128)) then (bstr [(IntKind.u8.wrap c_)]).bind fun x2=>some (x2) else bif (decide (c_ < 2048)) then (bstr [(IntKind.u8.wrap (IntKind.i64.wrap ((BitVec.ofInt IntKind.i64.bits 192 ||| BitVec.ofInt IntKind.i64.bits (Int.fdiv c_ (2 ^ (min (6:Int).toNat IntKind.i64.bits)))).toNat:Int))),(IntKind.u8.wrap (IntKind.i64.wrap ((BitVec.ofInt IntKind.i64.bits 128 ||| BitVec.ofInt IntKind.i64.bits (IntKind.i64.wrap ((BitVec.ofInt IntKind.i64.bits c_ &&& BitVec.ofInt IntKind.i64.bits 63).toNat:Int))).toNat:Int)))]).bind fun x4=>some (x4) else bif (decide (c_ < 65536)) then (bstr [(IntKind.u8.wrap (IntKind.i64.wrap ((BitVec.ofInt IntKind.i64.bits 224 ||| BitVec.ofInt IntKind.i64.bits (Int.fdiv c_ (2 ^ (min (12:Int).toNat IntKind.i64.bits)))).toNat:Int))),(IntKind.u8.wrap (IntKind.i64.wrap ((BitVec.ofInt IntKind.i64.bits 128 ||| BitVec.ofInt IntKind.i64.bits (IntKind.i64.wrap ((BitVec.ofInt IntKind.i64.bits (Int.fdiv c_ (2 ^ (min (6:Int).toNat IntKind.i64.bits))) &&& BitVec.ofInt IntKind.i64.bits 63).toNat:Int))).toNat:Int))),(IntKind.u8.wrap (IntKind.i64.wrap ((BitVec.ofInt IntKind.i64.bits 128 ||| BitVec.ofInt IntKind.i64.bits (IntKind.i64.wrap ((BitVec.ofInt IntKind.i64.bits c_ &&& BitVec.ofInt IntKind.i64.bits 63).toNat:Int))).toNat:Int)))]).bind fun x6=>some (x6) else (bstr [(IntKind.u8.wrap (IntKind.i64.wrap ((BitVec.ofInt IntKind.i64.bits 240 ||| BitVec.ofInt IntKind.i64.bits (Int.fdiv c_ (2 ^ (min (18:Int).toNat IntKind.i64.bits)))).toNat:Int))),(IntKind.u8.wrap (IntKind.i64.wrap ((BitVec.ofInt IntKind.i64.bits 128 ||| BitVec.ofInt IntKind.i64.bits (IntKind.i64.wrap ((BitVec.ofInt IntKind.i64.bits (Int.fdiv c_ (2 ^ (min (12:Int).toNat IntKind.i64.bits))) &&& BitVec.ofInt IntKind.i64.bits 63).toNat:Int))).toNat:Int))),(IntKind.u8.wrap (IntKind.i64.wrap ((BitVec.ofInt IntKind.i64.bits 128 ||| BitVec.ofInt IntKind.i64.bits (IntKind.i64.wrap ((BitVec.ofInt IntKind.i64.bits (Int.fdiv c_ (2 ^ (min (6:Int).toNat IntKind.i64.bits))) &&& BitVec.ofInt IntKind.i64.bits 63).toNat:Int))).toNat:Int))),(IntKind.u8.wrap (IntKind.i64.wrap ((BitVec.ofInt IntKind.i64.bits 128 ||| BitVec.ofInt IntKind.i64.bits (IntKind.i64.wrap ((BitVec.ofInt IntKind.i64.bits c_ &&& BitVec.ofInt IntKind.i64.bits 63).toNat:Int))).toNat:Int)))]).bind fun x7=>some (x7)
theorem gQ0m (hb : Base E E0 G) (he : ∀ w, E w → EnvV w)   (c_ : Int) : ∀ r_ : ByteArray, gQ0l c_ = some r_ →
 Pure E E0 Tryz.prog 126 [.cell (vi c_)] (c1 (vS r_)) := by
 refine fnE hb Tryz.func126 rfl fun r_ hq => ?_
 refine ifE hb 10 [4] [] hq (fun hq _ => ?_) (fun hq _ => ?_)
 refine q71 hb 6 (xs := [(IntKind.u8.wrap c_)]) ((flI .u8).one (IntKind.u8.wrap c_)) hq fun x2 hx2 hq => ?_
 exact retE hb 2 (injO hq).symm
 refine ifE hb 8 [10] [] hq (fun hq _ => ?_) (fun hq _ => ?_)
 refine q71 hb 12 (xs := [(IntKind.u8.wrap (IntKind.i64.wrap ((BitVec.ofInt IntKind.i64.bits 192 ||| BitVec.ofInt IntKind.i64.bits (Int.fdiv c_ (2 ^ (min (6 : Int).toNat IntKind.i64.bits)))).toNat : Int))), (IntKind.u8.wrap (IntKind.i64.wrap ((BitVec.ofInt IntKind.i64.bits 128 ||| BitVec.ofInt IntKind.i64.bits (IntKind.i64.wrap ((BitVec.ofInt IntKind.i64.bits c_ &&& BitVec.ofInt IntKind.i64.bits 63).toNat : Int))).toNat : Int)))]) ((flI .u8).two (IntKind.u8.wrap (IntKind.i64.wrap ((BitVec.ofInt IntKind.i64.bits 192 ||| BitVec.ofInt IntKind.i64.bits (Int.fdiv c_ (2 ^ (min (6 : Int).toNat IntKind.i64.bits)))).toNat : Int))) (IntKind.u8.wrap (IntKind.i64.wrap ((BitVec.ofInt IntKind.i64.bits 128 ||| BitVec.ofInt IntKind.i64.bits (IntKind.i64.wrap ((BitVec.ofInt IntKind.i64.bits c_ &&& BitVec.ofInt IntKind.i64.bits 63).toNat : Int))).toNat : Int)))) hq fun x4 hx4 hq => ?_
 exact retE hb 2 (injO hq).symm
 refine ifE hb 8 [22] [] hq (fun hq _ => ?_) (fun hq _ => ?_)
 refine q71 hb 17 (xs := [(IntKind.u8.wrap (IntKind.i64.wrap ((BitVec.ofInt IntKind.i64.bits 224 ||| BitVec.ofInt IntKind.i64.bits (Int.fdiv c_ (2 ^ (min (12 : Int).toNat IntKind.i64.bits)))).toNat : Int))), (IntKind.u8.wrap (IntKind.i64.wrap ((BitVec.ofInt IntKind.i64.bits 128 ||| BitVec.ofInt IntKind.i64.bits (IntKind.i64.wrap ((BitVec.ofInt IntKind.i64.bits (Int.fdiv c_ (2 ^ (min (6 : Int).toNat IntKind.i64.bits))) &&& BitVec.ofInt IntKind.i64.bits 63).toNat : Int))).toNat : Int))), (IntKind.u8.wrap (IntKind.i64.wrap ((BitVec.ofInt IntKind.i64.bits 128 ||| BitVec.ofInt IntKind.i64.bits (IntKind.i64.wrap ((BitVec.ofInt IntKind.i64.bits c_ &&& BitVec.ofInt IntKind.i64.bits 63).toNat : Int))).toNat : Int)))]) ((flI .u8).three (IntKind.u8.wrap (IntKind.i64.wrap ((BitVec.ofInt IntKind.i64.bits 224 ||| BitVec.ofInt IntKind.i64.bits (Int.fdiv c_ (2 ^ (min (12 : Int).toNat IntKind.i64.bits)))).toNat : Int))) (IntKind.u8.wrap (IntKind.i64.wrap ((BitVec.ofInt IntKind.i64.bits 128 ||| BitVec.ofInt IntKind.i64.bits (IntKind.i64.wrap ((BitVec.ofInt IntKind.i64.bits (Int.fdiv c_ (2 ^ (min (6 : Int).toNat IntKind.i64.bits))) &&& BitVec.ofInt IntKind.i64.bits 63).toNat : Int))).toNat : Int))) (IntKind.u8.wrap (IntKind.i64.wrap ((BitVec.ofInt IntKind.i64.bits 128 ||| BitVec.ofInt IntKind.i64.bits (IntKind.i64.wrap ((BitVec.ofInt IntKind.i64.bits c_ &&& BitVec.ofInt IntKind.i64.bits 63).toNat : Int))).toNat : Int)))) hq fun x6 hx6 hq => ?_
 exact retE hb 2 (injO hq).symm
 refine q71 hb 23 (xs := [(IntKind.u8.wrap (IntKind.i64.wrap ((BitVec.ofInt IntKind.i64.bits 240 ||| BitVec.ofInt IntKind.i64.bits (Int.fdiv c_ (2 ^ (min (18 : Int).toNat IntKind.i64.bits)))).toNat : Int))), (IntKind.u8.wrap (IntKind.i64.wrap ((BitVec.ofInt IntKind.i64.bits 128 ||| BitVec.ofInt IntKind.i64.bits (IntKind.i64.wrap ((BitVec.ofInt IntKind.i64.bits (Int.fdiv c_ (2 ^ (min (12 : Int).toNat IntKind.i64.bits))) &&& BitVec.ofInt IntKind.i64.bits 63).toNat : Int))).toNat : Int))), (IntKind.u8.wrap (IntKind.i64.wrap ((BitVec.ofInt IntKind.i64.bits 128 ||| BitVec.ofInt IntKind.i64.bits (IntKind.i64.wrap ((BitVec.ofInt IntKind.i64.bits (Int.fdiv c_ (2 ^ (min (6 : Int).toNat IntKind.i64.bits))) &&& BitVec.ofInt IntKind.i64.bits 63).toNat : Int))).toNat : Int))), (IntKind.u8.wrap (IntKind.i64.wrap ((BitVec.ofInt IntKind.i64.bits 128 ||| BitVec.ofInt IntKind.i64.bits (IntKind.i64.wrap ((BitVec.ofInt IntKind.i64.bits c_ &&& BitVec.ofInt IntKind.i64.bits 63).toNat : Int))).toNat : Int)))]) ((flI .u8).four (IntKind.u8.wrap (IntKind.i64.wrap ((BitVec.ofInt IntKind.i64.bits 240 ||| BitVec.ofInt IntKind.i64.bits (Int.fdiv c_ (2 ^ (min (18 : Int).toNat IntKind.i64.bits)))).toNat : Int))) (IntKind.u8.wrap (IntKind.i64.wrap ((BitVec.ofInt IntKind.i64.bits 128 ||| BitVec.ofInt IntKind.i64.bits (IntKind.i64.wrap ((BitVec.ofInt IntKind.i64.bits (Int.fdiv c_ (2 ^ (min (12 : Int).toNat IntKind.i64.bits))) &&& BitVec.ofInt IntKind.i64.bits 63).toNat : Int))).toNat : Int))) (IntKind.u8.wrap (IntKind.i64.wrap ((BitVec.ofInt IntKind.i64.bits 128 ||| BitVec.ofInt IntKind.i64.bits (IntKind.i64.wrap ((BitVec.ofInt IntKind.i64.bits (Int.fdiv c_ (2 ^ (min (6 : Int).toNat IntKind.i64.bits))) &&& BitVec.ofInt IntKind.i64.bits 63).toNat : Int))).toNat : Int))) (IntKind.u8.wrap (IntKind.i64.wrap ((BitVec.ofInt IntKind.i64.bits 128 ||| BitVec.ofInt IntKind.i64.bits (IntKind.i64.wrap ((BitVec.ofInt IntKind.i64.bits c_ &&& BitVec.ofInt IntKind.i64.bits 63).toNat : Int))).toNat : Int)))) hq fun x7 hx7 hq => ?_
 exact retE hb 2 (injO hq).symm
noncomputable def gQ0n  (s_:ByteArray) (i_:Int):Option (ByteArray×Int×Int) :=
 bif (decide ((IntKind.i64.wrap (i_+1)) ≥ (s_.size:Int))) then some (eS,0,40) else (sidx s_ (IntKind.i64.wrap (i_+1))).bind fun c2=>bif (decide (c2=110)) then some ((⟨#[10]⟩:ByteArray),(IntKind.i64.wrap (i_+2)),0) else bif (decide (c2=114)) then some ((⟨#[13]⟩:ByteArray),(IntKind.i64.wrap (i_+2)),0) else bif (decide (c2=116)) then some ((⟨#[9]⟩:ByteArray),(IntKind.i64.wrap (i_+2)),0) else bif (decide (c2=34)) then (sslc s_ (IntKind.i64.wrap (i_+1)) (IntKind.i64.wrap (i_+2))).bind fun x7=>some (x7,(IntKind.i64.wrap (i_+2)),0) else bif (decide (c2=92)) then (sslc s_ (IntKind.i64.wrap (i_+1)) (IntKind.i64.wrap (i_+2))).bind fun x9=>some (x9,(IntKind.i64.wrap (i_+2)),0) else bif (decide (c2=117)) then bif (decide ((IntKind.i64.wrap (i_+2)) ≥ (s_.size:Int))) then some (eS,0,40) else (sidx s_ (IntKind.i64.wrap (i_+2))).bind fun c12=>bif (!decide (c12=123)) then some (eS,0,2) else (gQ13 s_ (IntKind.i64.wrap (i_+3))).bind fun y14=>bif (!decide (y14.2.2=0)) then some (eS,0,y14.2.2) else (gQ0l y14.1).bind fun y16=>some (y16,y14.2.1,0) else some (eS,0,2)
theorem gQ0o (hb : Base E E0 G) (he : ∀ w, E w → EnvV w)   (s_ : ByteArray) (i_ : Int) : ∀ r_ : ByteArray × Int × Int, gQ0n s_ i_ = some r_ →
 Pure E E0 Tryz.prog 107 [.cell (vS s_), .cell (vi i_)] (.tup [.cell (vS r_.1), .cell (vi r_.2.1), .cell (vi r_.2.2)]) := by
 refine fnE hb Tryz.func107 rfl fun r_ hq => ?_
 refine ifE hb 15 [14] [] hq (fun hq _ => ?_) (fun hq _ => ?_)
 exact retE hb 7 (injO hq).symm
 refine qp hb 8 hq fun c2 hc2 hq => ?_
 refine ifE hb 7 [19, 20] [] hq (fun hq _ => ?_) (fun hq _ => ?_)
 exact retE hb 9 (injO hq).symm
 refine ifE hb 6 [23, 24] [] hq (fun hq _ => ?_) (fun hq _ => ?_)
 exact retE hb 9 (injO hq).symm
 refine ifE hb 6 [27, 28] [] hq (fun hq _ => ?_) (fun hq _ => ?_)
 exact retE hb 9 (injO hq).symm
 refine ifE hb 7 [31, 32] [] hq (fun hq _ => ?_) (fun hq _ => ?_)
 refine q2d hb 10 hq fun x7 hx7 hq => ?_
 exact retE hb 6 (injO hq).symm
 refine ifE hb 5 [31, 33] [] hq (fun hq _ => ?_) (fun hq _ => ?_)
 refine q2d hb 8 hq fun x9 hx9 hq => ?_
 exact retE hb 6 (injO hq).symm
 refine ifE hb 6 [42, 43] [] hq (fun hq _ => ?_) (fun hq _ => ?_)
 refine ifE hb 10 [48] [] hq (fun hq _ => ?_) (fun hq _ => ?_)
 exact retE hb 7 (injO hq).symm
 refine qp hb 8 hq fun c12 hc12 hq => ?_
 refine ifE hb 2 [53] [] hq (fun hq _ => ?_) (fun hq _ => ?_)
 exact retE hb 7 (injO hq).symm
 refine q8 hb 7 hq (gQ15 hb he s_ (IntKind.i64.wrap (i_ + 3))) fun y14 hy14 hq => ?_
 refine ifE hb 14 [63] [] hq (fun hq _ => ?_) (fun hq _ => ?_)
 exact retE hb 8 (injO hq).symm
 refine q8 hb 5 hq (gQ0m hb he y14.1) fun y16 hy16 hq => ?_
 exact retE hb 5 (injO hq).symm
 exact retE hb 9 (injO hq).symm
noncomputable def gQ0p  (s_:ByteArray) (i_:Int):Option (ByteArray×Int×Int) :=
 (sidx s_ i_).bind fun c1=>bif (decide (c1=92)) then (gQ0n s_ i_).bind fun y3=>some (y3.1,y3.2.1,y3.2.2) else (qbg s_ i_).bind fun y4=>bif (decide (y4=0)) then some (eS,0,2) else (sidx s_ i_).bind fun c6=>bif (decide (c6 < 32)) then some (eS,0,2) else (sidx s_ i_).bind fun c8=>bif (decide (c8=127)) then some (eS,0,2) else (sslc s_ i_ (IntKind.i64.wrap (i_+y4))).bind fun x10=>some (x10,(IntKind.i64.wrap (i_+y4)),0)
theorem gQ0q (hb : Base E E0 G) (he : ∀ w, E w → EnvV w)   (s_ : ByteArray) (i_ : Int) : ∀ r_ : ByteArray × Int × Int, gQ0p s_ i_ = some r_ →
 Pure E E0 Tryz.prog 79 [.cell (vS s_), .cell (vi i_)] (.tup [.cell (vS r_.1), .cell (vi r_.2.1), .cell (vi r_.2.2)]) := by
 refine fnE hb Tryz.func79 rfl fun r_ hq => ?_
 refine qp hb 11 hq fun c1 hc1 hq => ?_
 refine ifE hb 2 [12] [] hq (fun hq _ => ?_) (fun hq _ => ?_)
 refine q8 hb 5 hq (gQ0o hb he s_ i_) fun y3 hy3 hq => ?_
 exact retE hb 7 (injO hq).symm
 refine q8 hb 6 hq (rdec_g hb he s_ i_) fun y4 hy4 hq => ?_
 refine ifE hb 12 [26, 27] [] hq (fun hq _ => ?_) (fun hq _ => ?_)
 exact retE hb 19 (injO hq).symm
 refine qp hb 2 hq fun c6 hc6 hq => ?_
 refine ifE hb 3 [31, 32, 33] [] hq (fun hq _ => ?_) (fun hq _ => ?_)
 exact retE hb 13 (injO hq).symm
 refine qp hb 2 hq fun c8 hc8 hq => ?_
 refine ifE hb 3 [37, 38] [] hq (fun hq _ => ?_) (fun hq _ => ?_)
 exact retE hb 7 (injO hq).symm
 refine q2d hb 9 hq fun x10 hx10 hq => ?_
 exact retE hb 7 (injO hq).symm
noncomputable def gQ0v (s_:ByteArray) (s1:ByteArray×Int):Option ((ByteArray×Int)⊕(ByteArray×Int×Int)) :=
 bif (decide (s1.2 < (s_.size:Int))) then (sidx s_ s1.2).bind fun c5=>bif (decide (c5=34)) then bif (decide ((s1.1.size:Int) > 4096)) then some (.inr (eS,0,3)) else some (.inr (s1.1,(IntKind.i64.wrap (s1.2+1)),0)) else (gQ0p s_ s1.2).bind fun y8=>bif (!decide (y8.2.2=0)) then some (.inr (eS,0,y8.2.2)) else (cat s1.1 y8.1).bind fun x10=>some (.inl (x10,y8.2.1)) else some (.inr (eS,0,40))
noncomputable def gQ0u  (s_:ByteArray):Option (ByteArray×Int×Int) :=
 bif (decide ((s_.size:Int)=0)) then some (eS,0,40) else (sidx s_ 0).bind fun c2=>bif (!decide (c2=34)) then some (eS,0,2) else qf (gQ0v s_) (eS,1)
theorem gQ0w (hb : Base E E0 G) (he : ∀ w, E w → EnvV w)   (s_ : ByteArray) : ∀ r_ : ByteArray × Int × Int, gQ0u s_ = some r_ →
 Pure E E0 Tryz.prog 47 [.cell (vS s_)] (.tup [.cell (vS r_.1), .cell (vi r_.2.1), .cell (vi r_.2.2)]) := by
 refine fnE hb Tryz.func47 rfl fun r_ hq => ?_
 refine ifE hb 13 [12] [] hq (fun hq _ => ?_) (fun hq _ => ?_)
 exact retE hb 7 (injO hq).symm
 refine qp hb 6 hq fun c2 hc2 hq => ?_
 refine ifE hb 2 [15] [] hq (fun hq _ => ?_) (fun hq _ => ?_)
 exact retE hb 7 (injO hq).symm
 refine q15 hb 12 (gQ0v s_) (fun s1 => sl 44 [(0, c1 (vS s_)), (5, c1 (vS s1.1)), (6, c1 (vi s1.2))]) (fun s1 => []) [0, 5, 6] [] 0 (s0 := (eS, 1)) trivial hq (fun s1 o1 hq hn1 he1 => ?_)
 refine ifE hb 8 [19] [] hq (fun hq _ => ?_) (fun hq _ => ?_)
 refine qp hb 8 hq fun c5 hc5 hq => ?_
 refine ifE hb 2 [23] [] hq (fun hq _ => ?_) (fun hq _ => ?_)
 refine ifE hb 8 [26] [] hq (fun hq _ => ?_) (fun hq _ => ?_)
 exact retE hb 7 (he1 _ (injO hq))
 exact retE hb 11 (he1 _ (injO hq))
 refine q8 hb 6 hq (gQ0q hb he s_ s1.2) fun y8 hy8 hq => ?_
 refine ifE hb 14 [38] [] hq (fun hq _ => ?_) (fun hq _ => ?_)
 exact retE hb 8 (he1 _ (injO hq))
 refine catE hb 6 hq fun x10 hx10 hq => ?_
 exact qk hb 7 [0, 5, 6] [] 0 (hn1 _ (injO hq)) trivial
 exact retE hb 8 (he1 _ (injO hq))
noncomputable def gQ21 (s_:ByteArray) (m_:Val) (y1:Int) (y8:ByteArray×Int×Int) (s1:Int):Option ((Int)⊕(ByteArray×Int×DiagG)) :=
 bif (decide (s1 < (m_.keys.length:Int))) then (idx m_.keys s1).bind fun x12=>bif (decide (x12=y8.1)) then (gQ36 8 y1).bind fun y14=>some (.inr (eS,y1,y14)) else some (.inl (IntKind.i64.wrap (s1+1))) else (gQ2u s_ (IntKind.i64.wrap (y1+y8.2.1))).bind fun y15=>bif (decide (y15=(s_.size:Int))) then (gQ36 40 y15).bind fun y17=>some (.inr (eS,y15,y17)) else (sidx s_ y15).bind fun c18=>bif (!decide (c18=58)) then (gQ36 2 y15).bind fun y20=>some (.inr (eS,y15,y20)) else some (.inr (y8.1,(IntKind.i64.wrap (y15+1)),(DiagG.mk 0 0 eS)))
noncomputable def gQ20  (s_:ByteArray) (at_:Int) (m_:Val):Option (ByteArray×Int×DiagG) :=
 (gQ2u s_ at_).bind fun y1=>bif (decide (y1=(s_.size:Int))) then (gQ36 40 y1).bind fun y3=>some (eS,y1,y3) else (sidx s_ y1).bind fun c4=>bif (!decide (c4=34)) then (gQ36 2 y1).bind fun y6=>some (eS,y1,y6) else (sslc s_ y1 (s_.size:Int)).bind fun x7=>(gQ0u x7).bind fun y8=>bif (!decide (y8.2.2=0)) then (gQ36 y8.2.2 y1).bind fun y10=>some (eS,y1,y10) else qf (gQ21 s_ m_ y1 y8) 0
theorem gQ22 (hb : Base E E0 G) (he : ∀ w, E w → EnvV w)   (s_ : ByteArray) (at_ : Int) (m_ : Val) : ∀ r_ : ByteArray × Int × DiagG, gQ20 s_ at_ m_ = some r_ →
 Pure E E0 Tryz.prog 77 [.cell (vS s_), .cell (vi at_), .agg (aV m_)] (.tup [.cell (vS r_.1), .cell (vi r_.2.1), .agg [vi r_.2.2.kind, vi r_.2.2.at_, vS r_.2.2.name]]) := by
 refine fnE hb Tryz.func77 rfl fun r_ hq => ?_
 refine q8 hb 11 hq (gQ2w hb he s_ at_) fun y1 hy1 hq => ?_
 refine ifE hb 10 [19] [] hq (fun hq _ => ?_) (fun hq _ => ?_)
 refine q8 hb 5 hq (gQ37 hb he 40 y1) fun y3 hy3 hq => ?_
 exact retE hb 4 (injO hq).symm
 refine qp hb 7 hq fun c4 hc4 hq => ?_
 refine ifE hb 2 [26] [] hq (fun hq _ => ?_) (fun hq _ => ?_)
 refine q8 hb 5 hq (gQ37 hb he 2 y1) fun y6 hy6 hq => ?_
 exact retE hb 4 (injO hq).symm
 refine q2d hb 6 hq fun x7 hx7 hq => ?_
 refine q8 hb 0 hq (gQ0w hb he x7) fun y8 hy8 hq => ?_
 refine ifE hb 14 [39] [] hq (fun hq _ => ?_) (fun hq _ => ?_)
 refine q8 hb 6 hq (gQ37 hb he y8.2.2 y1) fun y10 hy10 hq => ?_
 exact retE hb 4 (injO hq).symm
 refine cpE hb 8 [0, 1, 5, 8, 9, 10, 12] (s' := ⟨none, [pk Tryz.f77 1018], [(0, [pk Tryz.f77 255])], sl 84 [(0, c1 (vS s_)), (1, c1 (vi y1)), (5, pt 0), (8, pt 1), (9, c1 (vS y8.1)), (10, c1 (vi y8.2.1)), (12, c1 (vi 0))], [bx (aV m_), bx [vi 0, vi 0, vS eS]]⟩) ?_
 refine q15 hb 0 (gQ21 s_ m_ y1 y8) (fun s1 => sl 84 [(0, c1 (vS s_)), (1, c1 (vi y1)), (5, pt 0), (8, pt 1), (9, c1 (vS y8.1)), (10, c1 (vi y8.2.1)), (12, c1 (vi s1))]) (fun s1 => [bx (aV m_), bx [vi 0, vi 0, vS eS]]) [0, 1, 5, 8, 9, 10, 12] [] 2 (s0 := 0) ⟨(by kernel_rfl), (by kernel_rfl), trivial⟩ hq (fun s1 o1 hq hn1 he1 => ?_)
 refine ifE hb 9 [48] [] hq (fun hq _ => ?_) (fun hq _ => ?_)
 refine idxE hb flS 9 hq fun x12 hx12 hq => ?_
 refine ifE hb 4 [57] [] hq (fun hq _ => ?_) (fun hq _ => ?_)
 refine q8 hb 5 hq (gQ37 hb he 8 y1) fun y14 hy14 hq => ?_
 exact retE hb 4 (he1 _ (injO hq))
 exact qk hb 8 [0, 1, 5, 8, 9, 10, 12] [] 2 (hn1 _ (injO hq)) ⟨(by kernel_rfl), (by kernel_rfl), trivial⟩
 refine q8 hb 8 hq (gQ2w hb he s_ (IntKind.i64.wrap (y1 + y8.2.1))) fun y15 hy15 hq => ?_
 refine ifE hb 10 [69] [] hq (fun hq _ => ?_) (fun hq _ => ?_)
 refine q8 hb 5 hq (gQ37 hb he 40 y15) fun y17 hy17 hq => ?_
 exact retE hb 4 (he1 _ (injO hq))
 refine qp hb 7 hq fun c18 hc18 hq => ?_
 refine ifE hb 2 [76] [] hq (fun hq _ => ?_) (fun hq _ => ?_)
 refine q8 hb 5 hq (gQ37 hb he 2 y15) fun y20 hy20 hq => ?_
 exact retE hb 4 (he1 _ (injO hq))
 exact retE hb 12 (he1 _ (injO hq))
noncomputable def gQ2s (m_:Val) (k_:ByteArray) (x_:Val) (s1:Bool×Int×List Val×List ByteArray):Option ((Bool×Int×List Val×List ByteArray)⊕(Val)) :=
 bif (decide (s1.2.1 < (m_.keys.length:Int))) then bif (!s1.1) then (idx m_.keys s1.2.1).bind fun x3=>bif (Op.bytesLess k_.toList x3.toList) then (app 16 s1.2.2.2 [k_]).bind fun l5=>(app 80 s1.2.2.1 [x_]).bind fun l6=>(idx m_.keys s1.2.1).bind fun x7=>(app 16 l5 [x7]).bind fun l8=>(idx m_.items s1.2.1).bind fun x9=>(app 80 l6 [x9]).bind fun l10=>some (.inl (true,(IntKind.i64.wrap (s1.2.1+1)),l10,l8)) else (idx m_.keys s1.2.1).bind fun x11=>(app 16 s1.2.2.2 [x11]).bind fun l12=>(idx m_.items s1.2.1).bind fun x13=>(app 80 s1.2.2.1 [x13]).bind fun l14=>some (.inl (s1.1,(IntKind.i64.wrap (s1.2.1+1)),l14,l12)) else (idx m_.keys s1.2.1).bind fun x15=>(app 16 s1.2.2.2 [x15]).bind fun l16=>(idx m_.items s1.2.1).bind fun x17=>(app 80 s1.2.2.1 [x17]).bind fun l18=>some (.inl (s1.1,(IntKind.i64.wrap (s1.2.1+1)),l18,l16)) else bif (!s1.1) then (app 16 s1.2.2.2 [k_]).bind fun l20=>(app 80 s1.2.2.1 [x_]).bind fun l21=>some (.inr (Val.mk 5 0 eS l21 l20)) else some (.inr (Val.mk 5 0 eS s1.2.2.1 s1.2.2.2))
noncomputable def gQ2r  (m_:Val) (k_:ByteArray) (x_:Val):Option (Val) :=
 qf (gQ2s m_ k_ x_) (false,0,[],[])
theorem gQ2t (hb : Base E E0 G) (he : ∀ w, E w → EnvV w)   (m_ : Val) (k_ : ByteArray) (x_ : Val) : ∀ r_ : Val, gQ2r m_ k_ x_ = some r_ →
 Pure E E0 Tryz.prog 78 [.agg (aV m_), .cell (vS k_), .agg (aV x_)] (.one (.agg (aV r_))) := by
 refine fnE hb Tryz.func78 rfl fun r_ hq => ?_
 refine q7n hb 22 3 3 5 (cs := [vi 5, vi 0, vS eS, vN, vN]) (by kernel_rfl) ?_
 refine q7n hb 0 3 4 1 (cs := [vi 5, vi 0, vS eS, vO flV 4 [], vN]) (by kernel_rfl) ?_
 refine q15 hb 0 (gQ2s m_ k_ x_) (fun s1 => sl 76 [(1, c1 (vS k_)), (3, pt 0), (5, pt 1), (6, pt 2), (7, pt 3), (8, c1 (vB s1.1)), (9, c1 (vi s1.2.1))]) (fun s1 => [bx (aV m_), bx (aV x_), bx zV, bx [vi 5, vi 0, vS eS, vO flV 4 s1.2.2.1, vO flS 5 s1.2.2.2], some (arO true flV.sz 0 (flV.f s1.2.2.1)), some (arO true flS.sz 0 (flS.f s1.2.2.2))]) [1, 3, 5, 6, 7, 8, 9] [] 6 (s0 := (false, 0, [], [])) ⟨(by kernel_rfl), (by kernel_rfl), (by kernel_rfl), (by kernel_rfl), (ql _ _ _ _ _), (ql _ _ _ _ _), trivial⟩ hq (fun s1 o1 hq hn1 he1 => ?_)
 refine ifE hb 9 [15] [] hq (fun hq _ => ?_) (fun hq _ => ?_)
 refine ifE hb 10 [19, 20] [] hq (fun hq _ => ?_) (fun hq _ => ?_)
 refine idxE hb flS 4 hq fun x3 hx3 hq => ?_
 refine ifE hb 4 [27, 28] [] hq (fun hq _ => ?_) (fun hq _ => ?_)
 refine q10 flS hb 7 5 true 0 (flS.one k_) hq fun l5 hl5 hq => ?_
 refine q10 flV hb 9 4 true 0 (flV.one x_) hq fun l6 hl6 hq => ?_
 refine qv hb mixed 7 8 [] ?_
 refine idxE hb flS 5 hq fun x7 hx7 hq => ?_
 refine q10 flS hb 3 5 true 0 (flS.one x7) hq fun l8 hl8 hq => ?_
 refine qv hb mixed 3 8 [] ?_
 refine idxE hb flV 5 hq fun x9 hx9 hq => ?_
 refine q10 flV hb 3 4 true 0 (flV.one x9) hq fun l10 hl10 hq => ?_
 exact qk hb 9 [1, 3, 5, 6, 7, 8, 9] [] 6 (hn1 _ (injO hq)) ⟨(by kernel_rfl), (by kernel_rfl), (by kernel_rfl), (by kernel_rfl), (ql _ _ _ _ _), (ql _ _ _ _ _), trivial⟩
 refine qv hb mixed 3 8 [] ?_
 refine idxE hb flS 5 hq fun x11 hx11 hq => ?_
 refine q10 flS hb 3 5 true 0 (flS.one x11) hq fun l12 hl12 hq => ?_
 refine qv hb mixed 3 8 [] ?_
 refine idxE hb flV 5 hq fun x13 hx13 hq => ?_
 refine q10 flV hb 3 4 true 0 (flV.one x13) hq fun l14 hl14 hq => ?_
 exact qk hb 9 [1, 3, 5, 6, 7, 8, 9] [] 6 (hn1 _ (injO hq)) ⟨(by kernel_rfl), (by kernel_rfl), (by kernel_rfl), (by kernel_rfl), (ql _ _ _ _ _), (ql _ _ _ _ _), trivial⟩
 refine qv hb mixed 12 8 [] ?_
 refine idxE hb flS 5 hq fun x15 hx15 hq => ?_
 refine q10 flS hb 3 5 true 0 (flS.one x15) hq fun l16 hl16 hq => ?_
 refine qv hb mixed 3 8 [] ?_
 refine idxE hb flV 5 hq fun x17 hx17 hq => ?_
 refine q10 flV hb 3 4 true 0 (flV.one x17) hq fun l18 hl18 hq => ?_
 exact qk hb 9 [1, 3, 5, 6, 7, 8, 9] [] 6 (hn1 _ (injO hq)) ⟨(by kernel_rfl), (by kernel_rfl), (by kernel_rfl), (by kernel_rfl), (ql _ _ _ _ _), (ql _ _ _ _ _), trivial⟩
 refine ifE hb 8 [62] [] hq (fun hq _ => ?_) (fun hq _ => ?_)
 refine q10 flS hb 7 5 true 0 (flS.one k_) hq fun l20 hl20 hq => ?_
 refine q10 flV hb 8 4 true 0 (flV.one x_) hq fun l21 hl21 hq => ?_
 refine q2g hb 8 4 true (sz := flV.sz) (fr := 0) (cs := flV.f l21) (by kernel_rfl) (Nat.zero_le _) ?_
 refine q3w hb 0 2 3 (cs := [vi 5, vi 0, vS eS, vO flV 4 l21, vO flS 5 l20]) (c := vO flV 4 l21) (q2o flV (nb := true) (id := 4) (xs := l21) (by kernel_rfl)) (by kernel_rfl) ?_
 refine q2g hb 0 5 true (sz := flS.sz) (fr := 0) (cs := flS.f l20) (by kernel_rfl) (Nat.zero_le _) ?_
 refine q3w hb 0 2 4 (cs := [vi 5, vi 0, vS eS, vL flV l21, vO flS 5 l20]) (c := vO flS 5 l20) (q2o flS (nb := true) (id := 5) (xs := l20) (by kernel_rfl)) (by kernel_rfl) ?_
 exact retE hb 0 (he1 _ (injO hq))
 refine q2g hb 7 4 true (sz := flV.sz) (fr := 0) (cs := flV.f s1.2.2.1) (by kernel_rfl) (Nat.zero_le _) ?_
 refine q3w hb 0 2 3 (cs := [vi 5, vi 0, vS eS, vO flV 4 s1.2.2.1, vO flS 5 s1.2.2.2]) (c := vO flV 4 s1.2.2.1) (q2o flV (nb := true) (id := 4) (xs := s1.2.2.1) (by kernel_rfl)) (by kernel_rfl) ?_
 refine q2g hb 0 5 true (sz := flS.sz) (fr := 0) (cs := flS.f s1.2.2.2) (by kernel_rfl) (Nat.zero_le _) ?_
 refine q3w hb 0 2 4 (cs := [vi 5, vi 0, vS eS, vL flV s1.2.2.1, vO flS 5 s1.2.2.2]) (c := vO flS 5 s1.2.2.2) (q2o flS (nb := true) (id := 5) (xs := s1.2.2.2) (by kernel_rfl)) (by kernel_rfl) ?_
 exact retE hb 0 (he1 _ (injO hq))
noncomputable def gQ1t  (c_:Int):Option (Bool) :=
 bif (decide (c_ ≥ 48)) then some (decide (c_≤57)) else some (false)
theorem gQ1u (hb : Base E E0 G) (he : ∀ w, E w → EnvV w)   (c_ : Int) : ∀ r_ : Bool, gQ1t c_ = some r_ →
 Pure E E0 Tryz.prog 48 [.cell (vI .u8 c_)] (c1 (vB r_)) := by
 refine fnE hb Tryz.func48 rfl fun r_ hq => ?_
 refine ifE hb 9 [4, 5] [] hq (fun hq _ => ?_) (fun hq _ => ?_)
 exact retE hb 5 (injO hq).symm
 exact retE hb 5 (injO hq).symm
noncomputable def gQ1m  (s_:ByteArray) (at_:Int) (w_:ByteArray):Option (Bool) :=
 bif (decide ((IntKind.i64.wrap ((s_.size:Int) - at_)) ≥ (w_.size:Int))) then (sslc s_ at_ (IntKind.i64.wrap (at_+(w_.size:Int)))).bind fun x2=>some (decide (x2=w_)) else some (false)
theorem gQ1n (hb : Base E E0 G) (he : ∀ w, E w → EnvV w)   (s_ : ByteArray) (at_ : Int) (w_ : ByteArray) : ∀ r_ : Bool, gQ1m s_ at_ w_ = some r_ →
 Pure E E0 Tryz.prog 82 [.cell (vS s_), .cell (vi at_), .cell (vS w_)] (c1 (vB r_)) := by
 refine fnE hb Tryz.func82 rfl fun r_ hq => ?_
 refine ifE hb 14 [13, 14] [] hq (fun hq _ => ?_) (fun hq _ => ?_)
 refine q2d hb 6 hq fun x2 hx2 hq => ?_
 exact retE hb 5 (injO hq).symm
 exact retE hb 12 (injO hq).symm
noncomputable def gQ34  (s_:ByteArray) (at_:Int):Option (Val×Int×DiagG) :=
 (gQ1m s_ at_ (⟨#[110,117,108,108]⟩:ByteArray)).bind fun y1=>bif y1 then some ((Val.mk 0 0 eS [] []),(IntKind.i64.wrap (at_+4)),(DiagG.mk 0 0 eS)) else (gQ1m s_ at_ (⟨#[116,114,117,101]⟩:ByteArray)).bind fun y3=>bif y3 then some ((Val.mk 1 1 eS [] []),(IntKind.i64.wrap (at_+4)),(DiagG.mk 0 0 eS)) else (gQ1m s_ at_ (⟨#[102,97,108,115,101]⟩:ByteArray)).bind fun y5=>bif y5 then some ((Val.mk 1 0 eS [] []),(IntKind.i64.wrap (at_+5)),(DiagG.mk 0 0 eS)) else (gQ1m s_ at_ (⟨#[40,117,110,107,110,111,119,110,41]⟩:ByteArray)).bind fun y7=>bif y7 then some ((Val.mk 6 0 eS [] []),(IntKind.i64.wrap (at_+9)),(DiagG.mk 0 0 eS)) else (gQ36 2 at_).bind fun y9=>some ((Val.mk 0 0 eS [] []),at_,y9)
theorem gQ35 (hb : Base E E0 G) (he : ∀ w, E w → EnvV w)   (s_ : ByteArray) (at_ : Int) : ∀ r_ : Val × Int × DiagG, gQ34 s_ at_ = some r_ →
 Pure E E0 Tryz.prog 50 [.cell (vS s_), .cell (vi at_)] (.tup [.agg (aV r_.1), .cell (vi r_.2.1), .agg [vi r_.2.2.kind, vi r_.2.2.at_, vS r_.2.2.name]]) := by
 refine fnE hb Tryz.func50 rfl fun r_ hq => ?_
 refine q8 hb 11 hq (gQ1n hb he s_ at_ (⟨#[110, 117, 108, 108]⟩ : ByteArray)) fun y1 hy1 hq => ?_
 refine ifE hb 1 [9] [] hq (fun hq _ => ?_) (fun hq _ => ?_)
 exact retE hb 11 (injO hq).symm
 refine q8 hb 7 hq (gQ1n hb he s_ at_ (⟨#[116, 114, 117, 101]⟩ : ByteArray)) fun y3 hy3 hq => ?_
 refine ifE hb 1 [16] [] hq (fun hq _ => ?_) (fun hq _ => ?_)
 exact retE hb 11 (injO hq).symm
 refine q8 hb 7 hq (gQ1n hb he s_ at_ (⟨#[102, 97, 108, 115, 101]⟩ : ByteArray)) fun y5 hy5 hq => ?_
 refine ifE hb 1 [23] [] hq (fun hq _ => ?_) (fun hq _ => ?_)
 exact retE hb 11 (injO hq).symm
 refine q8 hb 7 hq (gQ1n hb he s_ at_ (⟨#[40, 117, 110, 107, 110, 111, 119, 110, 41]⟩ : ByteArray)) fun y7 hy7 hq => ?_
 refine ifE hb 1 [30] [] hq (fun hq _ => ?_) (fun hq _ => ?_)
 exact retE hb 11 (injO hq).symm
 refine q8 hb 7 hq (gQ37 hb he 2 at_) fun y9 hy9 hq => ?_
 exact retE hb 4 (injO hq).symm
noncomputable def gQ2p (r_r09_value:ByteArray→Int→Int→Option (Val×Int×DiagG)) (s_:ByteArray) (depth_:Int) (s1:Int×List Val):Option ((Int×List Val)⊕(Val×Int×DiagG)) :=
 (r_r09_value s_ s1.1 depth_).bind fun y4=>bif (!decide (y4.2.2.kind=0)) then some (.inr ((Val.mk 0 0 eS [] []),y4.2.1,y4.2.2)) else (app 80 s1.2 [y4.1]).bind fun l6=>(gQ1r s_ y4.2.1 93).bind fun y7=>bif (!decide (y7.2.2.kind=0)) then some (.inr ((Val.mk 4 0 eS l6 []),y7.2.1,y7.2.2)) else bif y7.1 then some (.inr ((Val.mk 4 0 eS l6 []),y7.2.1,y7.2.2)) else some (.inl (y7.2.1,l6))
noncomputable def gQ2o (r_r09_value:ByteArray→Int→Int→Option (Val×Int×DiagG)) (s_:ByteArray) (at_:Int) (depth_:Int):Option (Val×Int×DiagG) :=
 (gQ1v s_ at_ 93).bind fun y1=>bif y1 then (gQ2u s_ at_).bind fun y3=>some ((Val.mk 4 0 eS [] []),(IntKind.i64.wrap (y3+1)),(DiagG.mk 0 0 eS)) else qf (gQ2p r_r09_value s_ depth_) (at_,[])
theorem gQ2q (hb : Base E E0 G) (he : ∀ w, E w → EnvV w) (r_r09_value : ByteArray → Int → Int → Option (Val × Int × DiagG)) (hr_r09_value : ∀ (a0 : ByteArray) (a1 : Int) (a2 : Int) (r : Val × Int × DiagG), r_r09_value a0 a1 a2 = some r → Pure E E0 Tryz.prog 28 [.cell (vS a0), .cell (vi a1), .cell (vi a2)] (.tup [.agg (aV r.1), .cell (vi r.2.1), .agg [vi r.2.2.kind, vi r.2.2.at_, vS r.2.2.name]])) (s_ : ByteArray) (at_ : Int) (depth_ : Int) : ∀ r_ : Val × Int × DiagG, gQ2o r_r09_value s_ at_ depth_ = some r_ →
 Pure E E0 Tryz.prog 45 [.cell (vS s_), .cell (vi at_), .cell (vi depth_)] (.tup [.agg (aV r_.1), .cell (vi r_.2.1), .agg [vi r_.2.2.kind, vi r_.2.2.at_, vS r_.2.2.name]]) := by
 refine fnE hb Tryz.func45 rfl fun r_ hq => ?_
 refine q8 hb 17 hq (gQ1w hb he s_ at_ 93) fun y1 hy1 hq => ?_
 refine ifE hb 1 [19] [] hq (fun hq _ => ?_) (fun hq _ => ?_)
 refine qv hb mixed 2 6 [4, 5] ?_
 refine q8 hb 3 hq (gQ2w hb he s_ at_) fun y3 hy3 hq => ?_
 exact retE hb 7 (injO hq).symm
 refine q7n hb 3 2 3 5 (cs := [vi 4, vi 0, vS eS, vN, vN]) (by kernel_rfl) ?_
 refine q15 hb 0 (gQ2p r_r09_value s_ depth_) (fun s1 => sl 63 [(0, c1 (vS s_)), (1, c1 (vi s1.1)), (2, c1 (vi depth_)), (6, pt 0), (8, pt 1), (9, pt 2)]) (fun s1 => [bx zV, bx [vi 0, vi 0, vS eS], bx [vi 4, vi 0, vS eS, vO flV 3 s1.2, vN], some (arO true flV.sz 0 (flV.f s1.2))]) [0, 1, 2, 6, 8, 9] [] 4 (s0 := (at_, [])) ⟨(by kernel_rfl), (by kernel_rfl), (by kernel_rfl), (ql _ _ _ _ _), trivial⟩ hq (fun s1 o1 hq hn1 he1 => ?_)
 refine q8 hb 6 hq (hr_r09_value s_ s1.1 depth_) fun y4 hy4 hq => ?_
 refine ifE hb 17 [36] [] hq (fun hq _ => ?_) (fun hq _ => ?_)
 refine frzE hb 2 12 5 (ps := [pI .i64 y4.2.2.kind, pI .i64 y4.2.2.at_, pS y4.2.2.name]) (by kernel_rfl) ?_
 refine qv hb mixed 0 3 [1, 2] ?_
 exact retE hb 8 (he1 _ (injO hq))
 refine q10 flV hb 8 3 true 0 (flV.one y4.1) hq fun l6 hl6 hq => ?_
 refine q8 hb 7 hq (gQ1s hb he s_ y4.2.1 93) fun y7 hy7 hq => ?_
 refine ifE hb 16 [55, 56] [] hq (fun hq _ => ?_) (fun hq _ => ?_)
 refine frzE hb 5 15 6 (ps := [pI .i64 y7.2.2.kind, pI .i64 y7.2.2.at_, pS y7.2.2.name]) (by kernel_rfl) ?_
 refine qv hb mixed 0 3 [1, 2] ?_
 refine q2g hb 8 3 true (sz := flV.sz) (fr := 0) (cs := flV.f l6) (by kernel_rfl) (Nat.zero_le _) ?_
 refine q3w hb 0 0 3 (cs := [vi 4, vi 0, vS eS, vO flV 3 l6, vN]) (c := vO flV 3 l6) (q2o flV (nb := true) (id := 3) (xs := l6) (by kernel_rfl)) (by kernel_rfl) ?_
 exact retE hb 0 (he1 _ (injO hq))
 refine ifE hb 3 [13, 50, 57, 58] [] hq (fun hq _ => ?_) (fun hq _ => ?_)
 refine frzE hb 2 15 6 (ps := [pI .i64 y7.2.2.kind, pI .i64 y7.2.2.at_, pS y7.2.2.name]) (by kernel_rfl) ?_
 refine qv hb mixed 0 3 [1, 2] ?_
 refine q2g hb 8 3 true (sz := flV.sz) (fr := 0) (cs := flV.f l6) (by kernel_rfl) (Nat.zero_le _) ?_
 refine q3w hb 0 0 3 (cs := [vi 4, vi 0, vS eS, vO flV 3 l6, vN]) (c := vO flV 3 l6) (q2o flV (nb := true) (id := 3) (xs := l6) (by kernel_rfl)) (by kernel_rfl) ?_
 exact retE hb 0 (he1 _ (injO hq))
 exact qk hb 7 [0, 1, 2, 6, 8, 9] [] 4 (hn1 _ (injO hq)) ⟨(by kernel_rfl), (by kernel_rfl), (by kernel_rfl), (ql _ _ _ _ _), trivial⟩
noncomputable def gQ2y (r_r09_value:ByteArray→Int→Int→Option (Val×Int×DiagG)) (s_:ByteArray) (depth_:Int) (s1:Int×Int×ByteArray×List Val×List ByteArray×Int):Option ((Int×Int×ByteArray×List Val×List ByteArray×Int)⊕(Val×Int×DiagG)) :=
 (gQ20 s_ s1.2.2.2.2.2 (Val.mk s1.1 s1.2.1 s1.2.2.1 s1.2.2.2.1 s1.2.2.2.2.1)).bind fun y4=>bif (!decide (y4.2.2.kind=0)) then some (.inr ((Val.mk 0 0 eS [] []),y4.2.1,y4.2.2)) else (r_r09_value s_ y4.2.1 depth_).bind fun y6=>bif (!decide (y6.2.2.kind=0)) then some (.inr ((Val.mk 0 0 eS [] []),y6.2.1,y6.2.2)) else (gQ2r (Val.mk s1.1 s1.2.1 s1.2.2.1 s1.2.2.2.1 s1.2.2.2.2.1) y4.1 y6.1).bind fun y8=>(gQ1r s_ y6.2.1 125).bind fun y9=>bif (!decide (y9.2.2.kind=0)) then some (.inr (y8,y9.2.1,y9.2.2)) else bif y9.1 then some (.inr (y8,y9.2.1,y9.2.2)) else some (.inl (y8.kind,y8.num,y8.str,y8.items,y8.keys,y9.2.1))
noncomputable def gQ2x (r_r09_value:ByteArray→Int→Int→Option (Val×Int×DiagG)) (s_:ByteArray) (at_:Int) (depth_:Int):Option (Val×Int×DiagG) :=
 (gQ1v s_ at_ 125).bind fun y1=>bif y1 then (gQ2u s_ at_).bind fun y3=>some ((Val.mk 5 0 eS [] []),(IntKind.i64.wrap (y3+1)),(DiagG.mk 0 0 eS)) else qf (gQ2y r_r09_value s_ depth_) (5,0,eS,[],[],at_)
theorem gQ2z (hb : Base E E0 G) (he : ∀ w, E w → EnvV w) (r_r09_value : ByteArray → Int → Int → Option (Val × Int × DiagG)) (hr_r09_value : ∀ (a0 : ByteArray) (a1 : Int) (a2 : Int) (r : Val × Int × DiagG), r_r09_value a0 a1 a2 = some r → Pure E E0 Tryz.prog 28 [.cell (vS a0), .cell (vi a1), .cell (vi a2)] (.tup [.agg (aV r.1), .cell (vi r.2.1), .agg [vi r.2.2.kind, vi r.2.2.at_, vS r.2.2.name]])) (s_ : ByteArray) (at_ : Int) (depth_ : Int) : ∀ r_ : Val × Int × DiagG, gQ2x r_r09_value s_ at_ depth_ = some r_ →
 Pure E E0 Tryz.prog 46 [.cell (vS s_), .cell (vi at_), .cell (vi depth_)] (.tup [.agg (aV r_.1), .cell (vi r_.2.1), .agg [vi r_.2.2.kind, vi r_.2.2.at_, vS r_.2.2.name]]) := by
 refine fnE hb Tryz.func46 rfl fun r_ hq => ?_
 refine q8 hb 17 hq (gQ1w hb he s_ at_ 125) fun y1 hy1 hq => ?_
 refine ifE hb 1 [20] [] hq (fun hq _ => ?_) (fun hq _ => ?_)
 refine qv hb mixed 2 6 [4, 5] ?_
 refine q8 hb 3 hq (gQ2w hb he s_ at_) fun y3 hy3 hq => ?_
 exact retE hb 7 (injO hq).symm
 refine q3w hb 3 2 3 (cs := [vi 5, vi 0, vS eS, vN, vN]) (c := vN) (qic flV) (by kernel_rfl) ?_
 refine q3w hb 0 2 4 (cs := [vi 5, vi 0, vS eS, vL flV [], vN]) (c := vN) (qic flS) (by kernel_rfl) ?_
 refine q15 hb 0 (gQ2y r_r09_value s_ depth_) (fun s1 => sl 76 [(0, c1 (vS s_)), (1, c1 (vi s1.2.2.2.2.2)), (2, c1 (vi depth_)), (6, pt 0), (8, pt 1), (9, pt 2)]) (fun s1 => [bx zV, bx [vi 0, vi 0, vS eS], bx [vi s1.1, vi s1.2.1, vS s1.2.2.1, vL flV s1.2.2.2.1, vL flS s1.2.2.2.2.1]]) [0, 1, 2, 6, 8, 9] [] 3 (s0 := (5, 0, eS, [], [], at_)) ⟨(by kernel_rfl), (by kernel_rfl), (by kernel_rfl), trivial⟩ hq (fun s1 o1 hq hn1 he1 => ?_)
 refine q8 hb 6 hq (gQ22 hb he s_ s1.2.2.2.2.2 (Val.mk s1.1 s1.2.1 s1.2.2.1 s1.2.2.2.1 s1.2.2.2.2.1)) fun y4 hy4 hq => ?_
 refine ifE hb 16 [37] [] hq (fun hq _ => ?_) (fun hq _ => ?_)
 refine frzE hb 2 12 3 (ps := [pI .i64 y4.2.2.kind, pI .i64 y4.2.2.at_, pS y4.2.2.name]) (by kernel_rfl) ?_
 refine qv hb mixed 0 3 [1, 2] ?_
 exact retE hb 8 (he1 _ (injO hq))
 refine q8 hb 7 hq (hr_r09_value s_ y4.2.1 depth_) fun y6 hy6 hq => ?_
 refine ifE hb 16 [51] [] hq (fun hq _ => ?_) (fun hq _ => ?_)
 refine frzE hb 2 12 3 (ps := [pI .i64 y6.2.2.kind, pI .i64 y6.2.2.at_, pS y6.2.2.name]) (by kernel_rfl) ?_
 refine qv hb mixed 0 3 [1, 2] ?_
 exact retE hb 8 (he1 _ (injO hq))
 refine q8 hb 7 hq (gQ2t hb he (Val.mk s1.1 s1.2.1 s1.2.2.1 s1.2.2.2.1 s1.2.2.2.2.1) y4.1 y6.1) fun y8 hy8 hq => ?_
 refine q8 hb 6 hq (gQ1s hb he s_ y6.2.1 125) fun y9 hy9 hq => ?_
 refine ifE hb 16 [68, 69] [] hq (fun hq _ => ?_) (fun hq _ => ?_)
 refine frzE hb 5 16 5 (ps := [pI .i64 y9.2.2.kind, pI .i64 y9.2.2.at_, pS y9.2.2.name]) (by kernel_rfl) ?_
 refine qv hb mixed 0 3 [1, 2] ?_
 exact retE hb 8 (he1 _ (injO hq))
 refine ifE hb 3 [14, 63, 70, 71] [] hq (fun hq _ => ?_) (fun hq _ => ?_)
 refine frzE hb 2 16 5 (ps := [pI .i64 y9.2.2.kind, pI .i64 y9.2.2.at_, pS y9.2.2.name]) (by kernel_rfl) ?_
 refine qv hb mixed 0 3 [1, 2] ?_
 exact retE hb 8 (he1 _ (injO hq))
 exact qk hb 7 [0, 1, 2, 6, 8, 9] [] 3 (hn1 _ (injO hq)) ⟨(by kernel_rfl), (by kernel_rfl), (by kernel_rfl), trivial⟩
noncomputable def gQ31 (s_:ByteArray) (y1:Int) (s1:Int):Option ((Int)⊕(Val×Int×DiagG)) :=
 bif (decide (s1 < (s_.size:Int))) then (sidx s_ s1).bind fun c20=>(gQ1t c20).bind fun y21=>bif y21 then some (.inl (IntKind.i64.wrap (s1+1))) else (sslc s_ y1 s1).bind fun x23=>(q31 x23).bind fun y24=>bif (!decide (y24.2=0)) then (gQ36 y24.2 y1).bind fun y26=>some (.inr ((Val.mk 0 0 eS [] []),y1,y26)) else some (.inr ((Val.mk 2 y24.1 eS [] []),s1,(DiagG.mk 0 0 eS))) else (sslc s_ y1 s1).bind fun x27=>(q31 x27).bind fun y28=>bif (!decide (y28.2=0)) then (gQ36 y28.2 y1).bind fun y30=>some (.inr ((Val.mk 0 0 eS [] []),y1,y30)) else some (.inr ((Val.mk 2 y28.1 eS [] []),s1,(DiagG.mk 0 0 eS)))
noncomputable def gQ32 (s_:ByteArray) (y1:Int) (s1:Int):Option ((Int)⊕(Val×Int×DiagG)) :=
 bif (decide (s1 < (s_.size:Int))) then (sidx s_ s1).bind fun c34=>(gQ1t c34).bind fun y35=>bif y35 then some (.inl (IntKind.i64.wrap (s1+1))) else (sslc s_ y1 s1).bind fun x37=>(q31 x37).bind fun y38=>bif (!decide (y38.2=0)) then (gQ36 y38.2 y1).bind fun y40=>some (.inr ((Val.mk 0 0 eS [] []),y1,y40)) else some (.inr ((Val.mk 2 y38.1 eS [] []),s1,(DiagG.mk 0 0 eS))) else (sslc s_ y1 s1).bind fun x41=>(q31 x41).bind fun y42=>bif (!decide (y42.2=0)) then (gQ36 y42.2 y1).bind fun y44=>some (.inr ((Val.mk 0 0 eS [] []),y1,y44)) else some (.inr ((Val.mk 2 y42.1 eS [] []),s1,(DiagG.mk 0 0 eS)))
noncomputable def gQ30 (r_r09_table:ByteArray→Int→Int→Option (Val×Int×DiagG)) (r_r09_list:ByteArray→Int→Int→Option (Val×Int×DiagG)) (s_:ByteArray) (at_:Int) (depth_:Int):Option (Val×Int×DiagG) :=
 (gQ2u s_ at_).bind fun y1=>bif (decide (y1=(s_.size:Int))) then (gQ36 40 y1).bind fun y3=>some ((Val.mk 0 0 eS [] []),y1,y3) else (sidx s_ y1).bind fun c4=>bif (decide (c4=91)) then bif (decide (depth_ ≥ 32)) then (gQ36 4 y1).bind fun y7=>some ((Val.mk 0 0 eS [] []),y1,y7) else (r_r09_list s_ (IntKind.i64.wrap (y1+1)) (IntKind.i64.wrap (depth_+1))).bind fun y8=>some (y8.1,y8.2.1,y8.2.2) else bif (decide (c4=123)) then bif (decide (depth_ ≥ 32)) then (gQ36 4 y1).bind fun y11=>some ((Val.mk 0 0 eS [] []),y1,y11) else (r_r09_table s_ (IntKind.i64.wrap (y1+1)) (IntKind.i64.wrap (depth_+1))).bind fun y12=>some (y12.1,y12.2.1,y12.2.2) else bif (decide (c4=34)) then (sslc s_ y1 (s_.size:Int)).bind fun x14=>(gQ0u x14).bind fun y15=>bif (!decide (y15.2.2=0)) then (gQ36 y15.2.2 y1).bind fun y17=>some ((Val.mk 0 0 eS [] []),y1,y17) else some ((Val.mk 3 0 y15.1 [] []),(IntKind.i64.wrap (y1+y15.2.1)),(DiagG.mk 0 0 eS)) else bif (decide (c4=45)) then qf (gQ31 s_ y1) (IntKind.i64.wrap (y1+1)) else (gQ1t c4).bind fun y31=>bif y31 then qf (gQ32 s_ y1) (IntKind.i64.wrap (y1+1)) else (gQ34 s_ y1).bind fun y45=>some (y45.1,y45.2.1,y45.2.2)
theorem gQ33 (hb : Base E E0 G) (he : ∀ w, E w → EnvV w) (r_r09_table : ByteArray → Int → Int → Option (Val × Int × DiagG)) (r_r09_list : ByteArray → Int → Int → Option (Val × Int × DiagG)) (hr_r09_table : ∀ (a0 : ByteArray) (a1 : Int) (a2 : Int) (r : Val × Int × DiagG), r_r09_table a0 a1 a2 = some r → Pure E E0 Tryz.prog 46 [.cell (vS a0), .cell (vi a1), .cell (vi a2)] (.tup [.agg (aV r.1), .cell (vi r.2.1), .agg [vi r.2.2.kind, vi r.2.2.at_, vS r.2.2.name]])) (hr_r09_list : ∀ (a0 : ByteArray) (a1 : Int) (a2 : Int) (r : Val × Int × DiagG), r_r09_list a0 a1 a2 = some r → Pure E E0 Tryz.prog 45 [.cell (vS a0), .cell (vi a1), .cell (vi a2)] (.tup [.agg (aV r.1), .cell (vi r.2.1), .agg [vi r.2.2.kind, vi r.2.2.at_, vS r.2.2.name]])) (s_ : ByteArray) (at_ : Int) (depth_ : Int) : ∀ r_ : Val × Int × DiagG, gQ30 r_r09_table r_r09_list s_ at_ depth_ = some r_ →
 Pure E E0 Tryz.prog 28 [.cell (vS s_), .cell (vi at_), .cell (vi depth_)] (.tup [.agg (aV r_.1), .cell (vi r_.2.1), .agg [vi r_.2.2.kind, vi r_.2.2.at_, vS r_.2.2.name]]) := by
 refine fnE hb Tryz.func28 rfl fun r_ hq => ?_
 refine q8 hb 10 hq (gQ2w hb he s_ at_) fun y1 hy1 hq => ?_
 refine ifE hb 10 [22] [] hq (fun hq _ => ?_) (fun hq _ => ?_)
 refine q8 hb 6 hq (gQ37 hb he 40 y1) fun y3 hy3 hq => ?_
 exact retE hb 4 (injO hq).symm
 refine qp hb 6 hq fun c4 hc4 hq => ?_
 refine ifE hb 8 [31, 32] [] hq (fun hq hc5 => ?_) (fun hq hc5 => ?_)
 refine ifE hb 11 [37] [] hq (fun hq _ => ?_) (fun hq _ => ?_)
 refine q8 hb 6 hq (gQ37 hb he 4 y1) fun y7 hy7 hq => ?_
 exact retE hb 4 (injO hq).symm
 refine knE hb 8 [43] [] (b := (decide (c4 = 91))) (v := true) hc5 ?_
 refine q8 hb 8 hq (hr_r09_list s_ (IntKind.i64.wrap (y1 + 1)) (IntKind.i64.wrap (depth_ + 1))) fun y8 hy8 hq => ?_
 exact retE hb 7 (injO hq).symm
 refine ifE hb 4 [34, 35] [] hq (fun hq _ => ?_) (fun hq _ => ?_)
 refine ifE hb 7 [37] [] hq (fun hq _ => ?_) (fun hq _ => ?_)
 refine q8 hb 6 hq (gQ37 hb he 4 y1) fun y11 hy11 hq => ?_
 exact retE hb 4 (injO hq).symm
 refine knE hb 8 [43] [] (b := (decide (c4 = 91))) (v := false) hc5 ?_
 refine q8 hb 9 hq (hr_r09_table s_ (IntKind.i64.wrap (y1 + 1)) (IntKind.i64.wrap (depth_ + 1))) fun y12 hy12 hq => ?_
 exact retE hb 7 (injO hq).symm
 refine ifE hb 8 [63] [] hq (fun hq _ => ?_) (fun hq _ => ?_)
 refine q2d hb 5 hq fun x14 hx14 hq => ?_
 refine q8 hb 0 hq (gQ0w hb he x14) fun y15 hy15 hq => ?_
 refine ifE hb 14 [73] [] hq (fun hq _ => ?_) (fun hq _ => ?_)
 refine q8 hb 7 hq (gQ37 hb he y15.2.2 y1) fun y17 hy17 hq => ?_
 exact retE hb 4 (injO hq).symm
 exact retE hb 14 (injO hq).symm
 refine ifE hb 8 [86, 87] [] hq (fun hq _ => ?_) (fun hq _ => ?_)
 refine cpE hb 13 [0, 1, 6, 8, 13] (s' := ⟨none, [pk Tryz.f28 8148], [(0, [pk Tryz.f28 4075, pk Tryz.f28 255])], sl 130 [(0, c1 (vS s_)), (1, c1 (vi y1)), (6, pt 0), (8, pt 1), (13, c1 (vi (IntKind.i64.wrap (y1 + 1))))], [bx zV, bx [vi 0, vi 0, vS eS]]⟩) ?_
 refine q15 hb 0 (gQ31 s_ y1) (fun s1 => sl 130 [(0, c1 (vS s_)), (1, c1 (vi y1)), (6, pt 0), (8, pt 1), (13, c1 (vi s1))]) (fun s1 => [bx zV, bx [vi 0, vi 0, vS eS]]) [0, 1, 6, 8, 13] [] 2 (s0 := (IntKind.i64.wrap (y1 + 1))) ⟨(by kernel_rfl), (by kernel_rfl), trivial⟩ hq (fun s1 o1 hq hn1 he1 => ?_)
 refine ifE hb 8 [96, 97] [] hq (fun hq _ => ?_) (fun hq _ => ?_)
 refine qp hb 2 hq fun c20 hc20 hq => ?_
 refine q8 hb 0 hq (gQ1u hb he c20) fun y21 hy21 hq => ?_
 refine ifE hb 2 [101, 102] [] hq (fun hq _ => ?_) (fun hq _ => ?_)
 exact qk hb 9 [0, 1, 6, 8, 13] [] 2 (hn1 _ (injO hq)) ⟨(by kernel_rfl), (by kernel_rfl), trivial⟩
 refine q2d hb 7 hq fun x23 hx23 hq => ?_
 refine q8 hb 0 hq (qbt hb he x23) fun y24 hy24 hq => ?_
 refine ifE hb 12 [114] [] hq (fun hq _ => ?_) (fun hq _ => ?_)
 refine q8 hb 7 hq (gQ37 hb he y24.2 y1) fun y26 hy26 hq => ?_
 exact retE hb 4 (he1 _ (injO hq))
 exact retE hb 12 (he1 _ (injO hq))
 refine q2d hb 13 hq fun x27 hx27 hq => ?_
 refine q8 hb 0 hq (qbt hb he x27) fun y28 hy28 hq => ?_
 refine ifE hb 12 [114] [] hq (fun hq _ => ?_) (fun hq _ => ?_)
 refine q8 hb 7 hq (gQ37 hb he y28.2 y1) fun y30 hy30 hq => ?_
 exact retE hb 4 (he1 _ (injO hq))
 exact retE hb 12 (he1 _ (injO hq))
 refine q8 hb 1 hq (gQ1u hb he c4) fun y31 hy31 hq => ?_
 refine ifE hb 2 [89, 90] [] hq (fun hq _ => ?_) (fun hq _ => ?_)
 refine cpE hb 9 [0, 1, 6, 8, 13] (s' := ⟨none, [pk Tryz.f28 8148], [(0, [pk Tryz.f28 4075, pk Tryz.f28 255])], sl 130 [(0, c1 (vS s_)), (1, c1 (vi y1)), (6, pt 0), (8, pt 1), (13, c1 (vi (IntKind.i64.wrap (y1 + 1))))], [bx zV, bx [vi 0, vi 0, vS eS]]⟩) ?_
 refine q15 hb 0 (gQ32 s_ y1) (fun s1 => sl 130 [(0, c1 (vS s_)), (1, c1 (vi y1)), (6, pt 0), (8, pt 1), (13, c1 (vi s1))]) (fun s1 => [bx zV, bx [vi 0, vi 0, vS eS]]) [0, 1, 6, 8, 13] [] 2 (s0 := (IntKind.i64.wrap (y1 + 1))) ⟨(by kernel_rfl), (by kernel_rfl), trivial⟩ hq (fun s1 o1 hq hn1 he1 => ?_)
 refine ifE hb 8 [96, 97] [] hq (fun hq _ => ?_) (fun hq _ => ?_)
 refine qp hb 2 hq fun c34 hc34 hq => ?_
 refine q8 hb 0 hq (gQ1u hb he c34) fun y35 hy35 hq => ?_
 refine ifE hb 2 [101, 102] [] hq (fun hq _ => ?_) (fun hq _ => ?_)
 exact qk hb 9 [0, 1, 6, 8, 13] [] 2 (hn1 _ (injO hq)) ⟨(by kernel_rfl), (by kernel_rfl), trivial⟩
 refine q2d hb 7 hq fun x37 hx37 hq => ?_
 refine q8 hb 0 hq (qbt hb he x37) fun y38 hy38 hq => ?_
 refine ifE hb 12 [114] [] hq (fun hq _ => ?_) (fun hq _ => ?_)
 refine q8 hb 7 hq (gQ37 hb he y38.2 y1) fun y40 hy40 hq => ?_
 exact retE hb 4 (he1 _ (injO hq))
 exact retE hb 12 (he1 _ (injO hq))
 refine q2d hb 13 hq fun x41 hx41 hq => ?_
 refine q8 hb 0 hq (qbt hb he x41) fun y42 hy42 hq => ?_
 refine ifE hb 12 [114] [] hq (fun hq _ => ?_) (fun hq _ => ?_)
 refine q8 hb 7 hq (gQ37 hb he y42.2 y1) fun y44 hy44 hq => ?_
 exact retE hb 4 (he1 _ (injO hq))
 exact retE hb 12 (he1 _ (injO hq))
 refine q8 hb 6 hq (gQ35 hb he s_ y1) fun y45 hy45 hq => ?_
 exact retE hb 7 (injO hq).symm
noncomputable def tQ5b (rec:Int→ByteArray×Int→Option (Val×Int×DiagG)) (a:Int) (b:ByteArray×Int):Option (Val×Int×DiagG) :=
 gQ30 (gQ2x (fun a0 a1 a2=>rec a2 (a0,a1))) (gQ2o (fun a0 a1 a2=>rec a2 (a0,a1))) b.1 b.2 a
noncomputable def tQ59 (a0:ByteArray) (a1:Int) (a2:Int):Option (Val×Int×DiagG):=tieF relD wfD tQ5b a2 (a0,a1)
theorem tQ5a (hb:Base E E0 G) (he:∀ w,E w→EnvV w) (a0:ByteArray) (a1:Int) (a2:Int) (r:Val×Int×DiagG) (hq:tQ59 a0 a1 a2=some r):Pure E E0 Tryz.prog 28 [.cell (vS a0),.cell (vi a1),.cell (vi a2)] (.tup [.agg (aV r.1),.cell (vi r.2.1),.agg [vi r.2.2.kind,vi r.2.2.at_,vS r.2.2.name]]) :=
 q4h (C:=fun a b r=>Pure E E0 Tryz.prog 28 [.cell (vS b.1),.cell (vi b.2),.cell (vi a)] (.tup [.agg (aV r.1),.cell (vi r.2.1),.agg [vi r.2.2.kind,vi r.2.2.at_,vS r.2.2.name]])) (fun rec hr a b r hq=>gQ33 hb he (gQ2x (fun a0 a1 a2=>rec a2 (a0,a1))) (gQ2o (fun a0 a1 a2=>rec a2 (a0,a1))) (gQ2z hb he (fun a0 a1 a2=>rec a2 (a0,a1)) (fun a0 a1 a2 r e=>hr a2 (a0,a1) r e)) (gQ2q hb he (fun a0 a1 a2=>rec a2 (a0,a1)) (fun a0 a1 a2 r e=>hr a2 (a0,a1) r e)) b.1 b.2 a r hq) a2 (a0,a1) r hq
noncomputable def gQ1k  (s_:ByteArray):Option (Val×DiagG) :=
 bif (decide ((s_.size:Int) > 65536)) then (gQ36 3 0).bind fun y2=>some ((Val.mk 0 0 eS [] []),y2) else (tQ59 s_ 0 0).bind fun y3=>bif (!decide (y3.2.2.kind=0)) then some ((Val.mk 0 0 eS [] []),y3.2.2) else (gQ2u s_ y3.2.1).bind fun y5=>bif (decide (y5 < (s_.size:Int))) then (gQ36 2 y5).bind fun y7=>some ((Val.mk 0 0 eS [] []),y7) else (q5m y3.1).bind fun y8=>bif (!decide (y8=0)) then (gQ36 y8 0).bind fun y10=>some ((Val.mk 0 0 eS [] []),y10) else some (y3.1,(DiagG.mk 0 0 eS))
theorem gQ1l (hb : Base E E0 G) (he : ∀ w, E w → EnvV w)   (s_ : ByteArray) : ∀ r_ : Val × DiagG, gQ1k s_ = some r_ →
 Pure E E0 Tryz.prog 13 [.cell (vS s_)] (.tup [.agg (aV r_.1), .agg [vi r_.2.kind, vi r_.2.at_, vS r_.2.name]]) := by
 refine fnE hb Tryz.func13 rfl fun r_ hq => ?_
 refine ifE hb 12 [10] [] hq (fun hq _ => ?_) (fun hq _ => ?_)
 refine q8 hb 4 hq (gQ37 hb he 3 0) fun y2 hy2 hq => ?_
 exact retE hb 3 (injO hq).symm
 refine q8 hb 5 hq (tQ5a hb he s_ 0 0) fun y3 hy3 hq => ?_
 refine ifE hb 17 [21] [] hq (fun hq _ => ?_) (fun hq _ => ?_)
 refine frzE hb 2 6 3 (ps := [pI .i64 y3.2.2.kind, pI .i64 y3.2.2.at_, pS y3.2.2.name]) (by kernel_rfl) ?_
 refine qv hb mixed 0 2 [1] ?_
 exact retE hb 6 (injO hq).symm
 refine q8 hb 6 hq (gQ2w hb he s_ y3.2.1) fun y5 hy5 hq => ?_
 refine ifE hb 10 [30] [] hq (fun hq _ => ?_) (fun hq _ => ?_)
 refine q8 hb 5 hq (gQ37 hb he 2 y5) fun y7 hy7 hq => ?_
 exact retE hb 3 (injO hq).symm
 refine q8 hb 6 hq (qmm hb he y3.1) fun y8 hy8 hq => ?_
 refine ifE hb 7 [37] [] hq (fun hq _ => ?_) (fun hq _ => ?_)
 refine q8 hb 5 hq (gQ37 hb he y8 0) fun y10 hy10 hq => ?_
 exact retE hb 3 (injO hq).symm
 exact retE hb 9 (injO hq).symm
noncomputable def gQ1b (r_r07_Equal:Val→Val→Option (Bool)) (a_:Val) (b_:Val) (s2:Int):Option ((Int)⊕((Int)⊕(Bool))) :=
 bif (decide (s2 < (a_.items.length:Int))) then (idx a_.items s2).bind fun x11=>(idx b_.items s2).bind fun x12=>(r_r07_Equal x11 x12).bind fun y13=>bif (!y13) then some (.inr (.inr (false))) else some (.inl (IntKind.i64.wrap (s2+1))) else some (.inr (.inr (true)))
noncomputable def gQ1a (r_r07_Equal:Val→Val→Option (Bool)) (a_:Val) (b_:Val) (s1:Int):Option ((Int)⊕(Bool)) :=
 bif (decide (s1 < (a_.keys.length:Int))) then (idx a_.keys s1).bind fun x7=>(idx b_.keys s1).bind fun x8=>bif (!decide (x7=x8)) then some (.inr (false)) else some (.inl (IntKind.i64.wrap (s1+1))) else qf (gQ1b r_r07_Equal a_ b_) 0
noncomputable def gQ19 (r_r07_Equal:Val→Val→Option (Bool)) (a_:Val) (b_:Val):Option (Bool) :=
 bif (!decide (a_.kind=b_.kind)) then some (false) else bif (!decide (a_.num=b_.num)) then some (false) else bif (!decide (a_.str=b_.str)) then some (false) else bif (!decide ((a_.items.length:Int)=(b_.items.length:Int))) then some (false) else bif (!decide ((a_.keys.length:Int)=(b_.keys.length:Int))) then some (false) else qf (gQ1a r_r07_Equal a_ b_) 0
theorem gQ1c (hb : Base E E0 G) (he : ∀ w, E w → EnvV w) (r_r07_Equal : Val → Val → Option (Bool)) (hr_r07_Equal : ∀ (a0 : Val) (a1 : Val) (r : Bool), r_r07_Equal a0 a1 = some r → Pure E E0 Tryz.prog 14 [.agg (aV a0), .agg (aV a1)] (c1 (vB r))) (a_ : Val) (b_ : Val) : ∀ r_ : Bool, gQ19 r_r07_Equal a_ b_ = some r_ →
 Pure E E0 Tryz.prog 14 [.agg (aV a_), .agg (aV b_)] (c1 (vB r_)) := by
 refine fnE hb Tryz.func14 rfl fun r_ hq => ?_
 refine ifE hb 15 [11, 12] [] hq (fun hq _ => ?_) (fun hq _ => ?_)
 exact retE hb 37 (injO hq).symm
 refine ifE hb 7 [17, 18, 19] [] hq (fun hq _ => ?_) (fun hq _ => ?_)
 exact retE hb 30 (injO hq).symm
 refine ifE hb 7 [24, 25, 26] [] hq (fun hq _ => ?_) (fun hq _ => ?_)
 exact retE hb 23 (injO hq).symm
 refine ifE hb 9 [33, 34, 35] [] hq (fun hq _ => ?_) (fun hq _ => ?_)
 exact retE hb 14 (injO hq).symm
 refine ifE hb 9 [42, 43] [] hq (fun hq _ => ?_) (fun hq _ => ?_)
 exact retE hb 5 (injO hq).symm
 refine cpE hb 8 [2, 3, 5] (s' := ⟨none, [pk Tryz.f14 58], [(0, [pk Tryz.f14 15])], sl 81 [(2, pt 0), (3, pt 1), (5, c1 (vi 0))], [bx (aV a_), bx (aV b_)]⟩) ?_
 refine q15 hb 0 (gQ1a r_r07_Equal a_ b_) (fun s1 => sl 81 [(2, pt 0), (3, pt 1), (5, c1 (vi s1))]) (fun s1 => [bx (aV a_), bx (aV b_)]) [2, 3, 5] [] 2 (s0 := 0) ⟨(by kernel_rfl), (by kernel_rfl), trivial⟩ hq (fun s1 o1 hq hn1 he1 => ?_)
 refine ifE hb 9 [48] [] hq (fun hq _ => ?_) (fun hq _ => ?_)
 refine qv hb mixed 5 10 [] ?_
 refine idxE hb flS 3 hq fun x7 hx7 hq => ?_
 refine idxE hb flS 4 hq fun x8 hx8 hq => ?_
 refine ifE hb 4 [61] [] hq (fun hq _ => ?_) (fun hq _ => ?_)
 exact retE hb 5 (he1 _ (injO hq))
 exact qk hb 8 [2, 3, 5] [] 2 (hn1 _ (injO hq)) ⟨(by kernel_rfl), (by kernel_rfl), trivial⟩
 refine q15 hb 8 (gQ1b r_r07_Equal a_ b_) (fun s2 => sl 81 [(2, pt 0), (3, pt 1), (6, c1 (vi s2))]) (fun s2 => [bx (aV a_), bx (aV b_)]) [2, 3, 6] [] 2 (s0 := 0) ⟨(by kernel_rfl), (by kernel_rfl), trivial⟩ hq (fun s2 o2 hq hn2 he2 => ?_)
 refine ifE hb 9 [66] [] hq (fun hq _ => ?_) (fun hq _ => ?_)
 refine qv hb mixed 5 10 [] ?_
 refine idxE hb flV 3 hq fun x11 hx11 hq => ?_
 refine idxE hb flV 4 hq fun x12 hx12 hq => ?_
 refine q8 hb 2 hq (hr_r07_Equal x11 x12) fun y13 hy13 hq => ?_
 refine ifE hb 2 [80] [] hq (fun hq _ => ?_) (fun hq _ => ?_)
 exact retE hb 5 (he1 _ ((he2 _ (injO hq)).symm))
 exact qk hb 8 [2, 3, 6] [] 2 (hn2 _ (injO hq)) ⟨(by kernel_rfl), (by kernel_rfl), trivial⟩
 exact retE hb 6 (he1 _ ((he2 _ (injO hq)).symm))
noncomputable def tQ4z (rec:Val→Val→Option (Bool)) (a:Val) (b:Val):Option (Bool) :=
 gQ19 (fun a0 a1=>rec a0 a1) a b
noncomputable def tQ4x (a0:Val) (a1:Val):Option (Bool):=tieF relV wfV tQ4z a0 a1
theorem tQ4y (hb:Base E E0 G) (he:∀ w,E w→EnvV w) (a0:Val) (a1:Val) (r:Bool) (hq:tQ4x a0 a1=some r):Pure E E0 Tryz.prog 14 [.agg (aV a0),.agg (aV a1)] (c1 (vB r)) :=
 q4h (C:=fun a b r=>Pure E E0 Tryz.prog 14 [.agg (aV a),.agg (aV b)] (c1 (vB r))) (fun rec hr a b r hq=>gQ1c hb he (fun a0 a1=>rec a0 a1) (fun a0 a1 r e=>hr a0 a1 r e) a b r hq) a0 a1 r hq
noncomputable def gQ09  (s_:ByteArray):Option (Bool) :=
 bif (decide ((s_.size:Int) > 3000)) then (gQ0b).bind fun y2=>some (y2) else (gQ4j s_).bind fun y3=>(gQ1k s_).bind fun y4=>bif (decide ((y3.2.kind:Int)=y4.2.kind) && (decide ((y3.2.at_:Int)=y4.2.at_) && (decide (y3.2.name=y4.2.name) && true))) then (tQ4x y3.1 y4.1).bind fun y6=>bif y6 then (gQ0b).bind fun y8=>some (y8) else some (false) else some (false)
theorem gQ0a (hb : Base E E0 G) (he : ∀ w, E w → EnvV w)   (s_ : ByteArray) : ∀ r_ : Bool, gQ09 s_ = some r_ →
 Pure E E0 Tryz.prog 4 [.cell (vS s_)] (c1 (vB r_)) := by
 refine fnE hb Tryz.func4 rfl fun r_ hq => ?_
 refine ifE hb 11 [9] [] hq (fun hq _ => ?_) (fun hq _ => ?_)
 refine q8 hb 3 hq (gQ0c hb he ) fun y2 hy2 hq => ?_
 exact retE hb 2 (injO hq).symm
 refine q8 hb 5 hq (gQ4k hb he s_) fun y3 hy3 hq => ?_
 refine q8 hb 11 hq (gQ1l hb he s_) fun y4 hy4 hq => ?_
 refine ifE hb 14 [23, 24] [] hq (fun hq _ => ?_) (fun hq _ => ?_)
 refine q8 hb 2 hq (tQ4y hb he y3.1 y4.1) fun y6 hy6 hq => ?_
 refine ifE hb 2 [27, 28, 29] [] hq (fun hq _ => ?_) (fun hq _ => ?_)
 refine q8 hb 0 hq (gQ0c hb he ) fun y8 hy8 hq => ?_
 exact retE hb 3 (injO hq).symm
 exact retE hb 4 (injO hq).symm
 exact retE hb 9 (injO hq).symm
noncomputable def gQ00  (v_:Val):Option (Bool) :=
 (gQ0g v_).bind fun y1=>bif (!y1) then (gQ0b).bind fun y3=>some (y3) else (q5o v_).bind fun y4=>(gQ4j y4).bind fun y5=>bif (decide ((y4.size:Int) > 65536)) then bif (decide ((y5.2.kind:Int)=3) && (decide ((y5.2.at_:Int)=0) && (decide (y5.2.name=eS) && true))) then (gQ0b).bind fun y8=>some (y8) else some (false) else bif (decide ((y5.2.kind:Int)=0) && (decide ((y5.2.at_:Int)=0) && (decide (y5.2.name=eS) && true))) then (tQ4x v_ y5.1).bind fun y10=>bif y10 then (gQ0b).bind fun y12=>some (y12) else some (false) else some (false)
theorem gQ01 (hb : Base E E0 G) (he : ∀ w, E w → EnvV w)   (v_ : Val) : ∀ r_ : Bool, gQ00 v_ = some r_ →
 Pure E E0 Tryz.prog 5 [.agg (aV v_)] (c1 (vB r_)) := by
 refine fnE hb Tryz.func5 rfl fun r_ hq => ?_
 refine q8 hb 9 hq (gQ0h hb he v_) fun y1 hy1 hq => ?_
 refine ifE hb 2 [8] [] hq (fun hq _ => ?_) (fun hq _ => ?_)
 refine q8 hb 3 hq (gQ0c hb he ) fun y3 hy3 hq => ?_
 exact retE hb 2 (injO hq).symm
 refine q8 hb 5 hq (qgk hb he v_) fun y4 hy4 hq => ?_
 refine q8 hb 5 hq (gQ4k hb he y4) fun y5 hy5 hq => ?_
 refine ifE hb 15 [19] [] hq (fun hq _ => ?_) (fun hq _ => ?_)
 refine ifE hb 7 [22, 23] [] hq (fun hq _ => ?_) (fun hq _ => ?_)
 refine q8 hb 0 hq (gQ0c hb he ) fun y8 hy8 hq => ?_
 exact retE hb 3 (injO hq).symm
 exact retE hb 4 (injO hq).symm
 refine ifE hb 8 [28, 29] [] hq (fun hq _ => ?_) (fun hq _ => ?_)
 refine q8 hb 2 hq (tQ4y hb he v_ y5.1) fun y10 hy10 hq => ?_
 refine ifE hb 2 [32, 33, 34] [] hq (fun hq _ => ?_) (fun hq _ => ?_)
 refine q8 hb 0 hq (gQ0c hb he ) fun y12 hy12 hq => ?_
 exact retE hb 3 (injO hq).symm
 exact retE hb 4 (injO hq).symm
 exact retE hb 9 (injO hq).symm
noncomputable def gQ0j (a_:List ByteArray) (b_:List ByteArray) (s1:Int):Option ((Int)⊕(Bool)) :=
 bif (decide (s1 < (a_.length:Int))) then (idx a_ s1).bind fun x3=>(idx b_ s1).bind fun x4=>bif (!decide (x3=x4)) then some (.inr (false)) else some (.inl (IntKind.i64.wrap (s1+1))) else some (.inr (true))
noncomputable def gQ0i  (a_:List ByteArray) (b_:List ByteArray):Option (Bool) :=
 bif (!decide ((a_.length:Int)=(b_.length:Int))) then some (false) else qf (gQ0j a_ b_) 0
theorem gQ0k (hb : Base E E0 G) (he : ∀ w, E w → EnvV w)   (a_ : List ByteArray) (b_ : List ByteArray) : ∀ r_ : Bool, gQ0i a_ b_ = some r_ →
 Pure E E0 Tryz.prog 16 [.cell (vL flS a_), .cell (vL flS b_)] (c1 (vB r_)) := by
 refine fnE hb Tryz.func16 rfl fun r_ hq => ?_
 refine ifE hb 13 [10] [] hq (fun hq _ => ?_) (fun hq _ => ?_)
 exact retE hb 5 (injO hq).symm
 refine q15 hb 8 (gQ0j a_ b_) (fun s1 => sl 26 [(0, c1 (vL flS a_)), (1, c1 (vL flS b_)), (5, c1 (vi s1))]) (fun s1 => []) [0, 1, 5] [] 0 (s0 := 0) trivial hq (fun s1 o1 hq hn1 he1 => ?_)
 refine ifE hb 8 [14] [] hq (fun hq _ => ?_) (fun hq _ => ?_)
 refine qv hb mixed 5 8 [] ?_
 refine idxE hb flS 2 hq fun x3 hx3 hq => ?_
 refine idxE hb flS 3 hq fun x4 hx4 hq => ?_
 refine ifE hb 4 [25] [] hq (fun hq _ => ?_) (fun hq _ => ?_)
 exact retE hb 5 (he1 _ (injO hq))
 exact qk hb 8 [0, 1, 5] [] 0 (hn1 _ (injO hq)) trivial
 exact retE hb 6 (he1 _ (injO hq))
noncomputable def gQ1p (n_:Int) (s1:ByteArray×Int):Option ((ByteArray×Int)⊕(ByteArray)) :=
 bif (decide (s1.2 < n_)) then (cat s1.1 (⟨#[32]⟩:ByteArray)).bind fun x2=>some (.inl (x2,(IntKind.i64.wrap (s1.2+1)))) else some (.inr (s1.1))
noncomputable def gQ1o  (n_:Int):Option (ByteArray) :=
 qf (gQ1p n_) (eS,0)
theorem gQ1q (hb : Base E E0 G) (he : ∀ w, E w → EnvV w)   (n_ : Int) : ∀ r_ : ByteArray, gQ1o n_ = some r_ →
 Pure E E0 Tryz.prog 57 [.cell (vi n_)] (c1 (vS r_)) := by
 refine fnE hb Tryz.func57 rfl fun r_ hq => ?_
 refine q15 hb 14 (gQ1p n_) (fun s1 => sl 13 [(0, c1 (vi n_)), (3, c1 (vS s1.1)), (4, c1 (vi s1.2))]) (fun s1 => []) [0, 3, 4] [] 0 (s0 := (eS, 0)) trivial hq (fun s1 o1 hq hn1 he1 => ?_)
 refine ifE hb 7 [7] [] hq (fun hq _ => ?_) (fun hq _ => ?_)
 refine catE hb 6 hq fun x2 hx2 hq => ?_
 exact qk hb 8 [0, 3, 4] [] 0 (hn1 _ (injO hq)) trivial
 exact retE hb 7 (he1 _ (injO hq))
noncomputable def gQ2h (s2:Int×List ByteArray) (z8:ByteArray):Option ((Int×List ByteArray)⊕((Int×List ByteArray)⊕(List ByteArray))) :=
 (app 16 s2.2 [z8]).bind fun l16=>some (.inl ((IntKind.i64.wrap (s2.1+1)),l16))
noncomputable def gQ2g (v_:Val) (y10:List ByteArray) (s1:Int×List ByteArray) (s2:Int×List ByteArray) (z7:ByteArray):Option ((Int×List ByteArray)⊕((Int×List ByteArray)⊕(List ByteArray))) :=
 bif (decide (s2.1=(IntKind.i64.wrap ((y10.length:Int) - 1)))) then bif (decide ((IntKind.i64.wrap (s1.1+1)) < (v_.items.length:Int))) then (cat z7 (⟨#[44]⟩:ByteArray)).bind fun x18=>(gQ2h s2) x18 else (gQ2h s2) z7 else (app 16 s2.2 [z7]).bind fun l19=>some (.inl ((IntKind.i64.wrap (s2.1+1)),l19))
noncomputable def gQ2f (v_:Val) (z3:Int) (y10:List ByteArray) (s1:Int×List ByteArray) (s2:Int×List ByteArray) (z6:ByteArray):Option ((Int×List ByteArray)⊕((Int×List ByteArray)⊕(List ByteArray))) :=
 bif (decide (s2.1=0)) then (gQ1o z3).bind fun y21=>(cat y21 z6).bind fun x22=>(gQ2g v_ y10 s1 s2) x22 else (gQ2g v_ y10 s1 s2) z6
noncomputable def gQ2i (s2:Int×List ByteArray) (z9:ByteArray):Option ((Int×List ByteArray)⊕((Int×List ByteArray)⊕(List ByteArray))) :=
 (app 16 s2.2 [z9]).bind fun l31=>some (.inl ((IntKind.i64.wrap (s2.1+1)),l31))
noncomputable def gQ25 (s2:Int×List ByteArray) (z10:ByteArray):Option ((Int×List ByteArray)⊕((Int×List ByteArray)⊕(List ByteArray))) :=
 (app 16 s2.2 [z10]).bind fun l36=>some (.inl ((IntKind.i64.wrap (s2.1+1)),l36))
noncomputable def gQ2m (v_:Val) (z3:Int) (y10:List ByteArray) (s1:Int×List ByteArray) (s2:Int×List ByteArray):Option ((Int×List ByteArray)⊕((Int×List ByteArray)⊕(List ByteArray))) :=
 bif (decide (s2.1 < (y10.length:Int))) then (idx y10 s2.1).bind fun x12=>bif (decide (s2.1=0)) then bif (decide (v_.kind=5)) then bif (decide (s1.1 < (v_.keys.length:Int))) then (idx v_.keys s1.1).bind fun x24=>(gQ0r x24).bind fun y25=>(cat y25 (⟨#[58,32]⟩:ByteArray)).bind fun x26=>(cat x26 x12).bind fun x27=>(gQ2f v_ z3 y10 s1 s2) x27 else (gQ2f v_ z3 y10 s1 s2) x12 else (gQ1o z3).bind fun y28=>(cat y28 x12).bind fun x29=>bif (decide (s2.1=(IntKind.i64.wrap ((y10.length:Int) - 1)))) then bif (decide ((IntKind.i64.wrap (s1.1+1)) < (v_.items.length:Int))) then (cat x29 (⟨#[44]⟩:ByteArray)).bind fun x33=>(gQ2i s2) x33 else (gQ2i s2) x29 else (app 16 s2.2 [x29]).bind fun l34=>some (.inl ((IntKind.i64.wrap (s2.1+1)),l34)) else bif (decide (s2.1=(IntKind.i64.wrap ((y10.length:Int) - 1)))) then bif (decide ((IntKind.i64.wrap (s1.1+1)) < (v_.items.length:Int))) then (cat x12 (⟨#[44]⟩:ByteArray)).bind fun x38=>(gQ25 s2) x38 else (gQ25 s2) x12 else (app 16 s2.2 [x12]).bind fun l39=>some (.inl ((IntKind.i64.wrap (s2.1+1)),l39)) else some (.inr (.inl ((IntKind.i64.wrap (s1.1+1)),s2.2)))
noncomputable def gQ2l (r_r09_lines:Val→Int→Int→Option (List ByteArray)) (v_:Val) (depth_:Int) (z2:Int) (z3:Int) (s1:Int×List ByteArray):Option ((Int×List ByteArray)⊕(List ByteArray)) :=
 bif (decide (s1.1 < (v_.items.length:Int))) then (idx v_.items s1.1).bind fun x9=>(r_r09_lines x9 z3 (IntKind.i64.wrap (depth_+1))).bind fun y10=>qf (gQ2m v_ z3 y10 s1) (0,s1.2) else (gQ1o z2).bind fun y40=>(cat y40 (⟨#[125]⟩:ByteArray)).bind fun x41=>(app 16 s1.2 [x41]).bind fun l42=>some (.inr (l42))
noncomputable def gQ2e (r_r09_lines:Val→Int→Int→Option (List ByteArray)) (v_:Val) (depth_:Int) (z2:Int) (z3:Int):Option (List ByteArray) :=
 qf (gQ2l r_r09_lines v_ depth_ z2 z3) (0,[(⟨#[123]⟩:ByteArray)])
noncomputable def gQ2a (s2:Int×List ByteArray) (z17:ByteArray):Option ((Int×List ByteArray)⊕((Int×List ByteArray)⊕(List ByteArray))) :=
 (app 16 s2.2 [z17]).bind fun l56=>some (.inl ((IntKind.i64.wrap (s2.1+1)),l56))
noncomputable def gQ29 (v_:Val) (s1:Int×List ByteArray) (s2:Int×List ByteArray) (y50:List ByteArray) (z16:ByteArray):Option ((Int×List ByteArray)⊕((Int×List ByteArray)⊕(List ByteArray))) :=
 bif (decide (s2.1=(IntKind.i64.wrap ((y50.length:Int) - 1)))) then bif (decide ((IntKind.i64.wrap (s1.1+1)) < (v_.items.length:Int))) then (cat z16 (⟨#[44]⟩:ByteArray)).bind fun x58=>(gQ2a s2) x58 else (gQ2a s2) z16 else (app 16 s2.2 [z16]).bind fun l59=>some (.inl ((IntKind.i64.wrap (s2.1+1)),l59))
noncomputable def gQ28 (v_:Val) (s1:Int×List ByteArray) (s2:Int×List ByteArray) (z12:Int) (y50:List ByteArray) (z15:ByteArray):Option ((Int×List ByteArray)⊕((Int×List ByteArray)⊕(List ByteArray))) :=
 bif (decide (s2.1=0)) then (gQ1o z12).bind fun y61=>(cat y61 z15).bind fun x62=>(gQ29 v_ s1 s2 y50) x62 else (gQ29 v_ s1 s2 y50) z15
noncomputable def gQ2b (s2:Int×List ByteArray) (z18:ByteArray):Option ((Int×List ByteArray)⊕((Int×List ByteArray)⊕(List ByteArray))) :=
 (app 16 s2.2 [z18]).bind fun l71=>some (.inl ((IntKind.i64.wrap (s2.1+1)),l71))
noncomputable def gQ2c (s2:Int×List ByteArray) (z19:ByteArray):Option ((Int×List ByteArray)⊕((Int×List ByteArray)⊕(List ByteArray))) :=
 (app 16 s2.2 [z19]).bind fun l76=>some (.inl ((IntKind.i64.wrap (s2.1+1)),l76))
noncomputable def gQ2k (v_:Val) (s1:Int×List ByteArray) (z12:Int) (y50:List ByteArray) (s2:Int×List ByteArray):Option ((Int×List ByteArray)⊕((Int×List ByteArray)⊕(List ByteArray))) :=
 bif (decide (s2.1 < (y50.length:Int))) then (idx y50 s2.1).bind fun x52=>bif (decide (s2.1=0)) then bif (decide (v_.kind=5)) then bif (decide (s1.1 < (v_.keys.length:Int))) then (idx v_.keys s1.1).bind fun x64=>(gQ0r x64).bind fun y65=>(cat y65 (⟨#[58,32]⟩:ByteArray)).bind fun x66=>(cat x66 x52).bind fun x67=>(gQ28 v_ s1 s2 z12 y50) x67 else (gQ28 v_ s1 s2 z12 y50) x52 else (gQ1o z12).bind fun y68=>(cat y68 x52).bind fun x69=>bif (decide (s2.1=(IntKind.i64.wrap ((y50.length:Int) - 1)))) then bif (decide ((IntKind.i64.wrap (s1.1+1)) < (v_.items.length:Int))) then (cat x69 (⟨#[44]⟩:ByteArray)).bind fun x73=>(gQ2b s2) x73 else (gQ2b s2) x69 else (app 16 s2.2 [x69]).bind fun l74=>some (.inl ((IntKind.i64.wrap (s2.1+1)),l74)) else bif (decide (s2.1=(IntKind.i64.wrap ((y50.length:Int) - 1)))) then bif (decide ((IntKind.i64.wrap (s1.1+1)) < (v_.items.length:Int))) then (cat x52 (⟨#[44]⟩:ByteArray)).bind fun x78=>(gQ2c s2) x78 else (gQ2c s2) x52 else (app 16 s2.2 [x52]).bind fun l79=>some (.inl ((IntKind.i64.wrap (s2.1+1)),l79)) else some (.inr (.inl ((IntKind.i64.wrap (s1.1+1)),s2.2)))
noncomputable def gQ2j (r_r09_lines:Val→Int→Int→Option (List ByteArray)) (v_:Val) (depth_:Int) (z2:Int) (z11:ByteArray×ByteArray) (z12:Int) (s1:Int×List ByteArray):Option ((Int×List ByteArray)⊕(List ByteArray)) :=
 bif (decide (s1.1 < (v_.items.length:Int))) then (idx v_.items s1.1).bind fun x49=>(r_r09_lines x49 z12 (IntKind.i64.wrap (depth_+1))).bind fun y50=>qf (gQ2k v_ s1 z12 y50) (0,s1.2) else (gQ1o z2).bind fun y80=>(cat y80 z11.2).bind fun x81=>(app 16 s1.2 [x81]).bind fun l82=>some (.inr (l82))
noncomputable def gQ27 (r_r09_lines:Val→Int→Int→Option (List ByteArray)) (v_:Val) (depth_:Int) (z2:Int) (z11:ByteArray×ByteArray) (z12:Int):Option (List ByteArray) :=
 qf (gQ2j r_r09_lines v_ depth_ z2 z11 z12) (0,[z11.1])
noncomputable def gQ26 (r_r09_lines:Val→Int→Int→Option (List ByteArray)) (v_:Val) (depth_:Int) (z2:Int) (z11:ByteArray×ByteArray):Option (List ByteArray) :=
 bif (decide ((IntKind.i64.wrap (z2+2)) > 64)) then (gQ27 r_r09_lines v_ depth_ z2 z11) 64 else (gQ27 r_r09_lines v_ depth_ z2 z11) (IntKind.i64.wrap (z2+2))
noncomputable def gQ2d (r_r09_lines:Val→Int→Int→Option (List ByteArray)) (v_:Val) (depth_:Int) (z2:Int):Option (List ByteArray) :=
 bif (!decide (v_.kind=4)) then bif (!decide (v_.kind=5)) then (gQ1g v_).bind fun y3=>some ([y3]) else bif (decide ((v_.items.length:Int)=0)) then (gQ1g v_).bind fun y5=>some ([y5]) else bif (decide (depth_ > 32)) then (gQ1g v_).bind fun y7=>some ([y7]) else bif (decide ((IntKind.i64.wrap (z2+2)) > 64)) then (gQ2e r_r09_lines v_ depth_ z2) 64 else (gQ2e r_r09_lines v_ depth_ z2) (IntKind.i64.wrap (z2+2)) else bif (decide ((v_.items.length:Int)=0)) then (gQ1g v_).bind fun y45=>some ([y45]) else bif (decide (depth_ > 32)) then (gQ1g v_).bind fun y47=>some ([y47]) else bif (decide (v_.kind=5)) then (gQ26 r_r09_lines v_ depth_ z2) ((⟨#[123]⟩:ByteArray),(⟨#[125]⟩:ByteArray)) else (gQ26 r_r09_lines v_ depth_ z2) ((⟨#[91]⟩:ByteArray),(⟨#[93]⟩:ByteArray))
noncomputable def gQ24 (r_r09_lines:Val→Int→Int→Option (List ByteArray)) (v_:Val) (depth_:Int) (z1:Int):Option (List ByteArray) :=
 bif (decide (z1 > 64)) then (gQ2d r_r09_lines v_ depth_) 64 else (gQ2d r_r09_lines v_ depth_) z1
noncomputable def gQ23 (r_r09_lines:Val→Int→Int→Option (List ByteArray)) (v_:Val) (indent_:Int) (depth_:Int):Option (List ByteArray) :=
 bif (decide (indent_ < 0)) then (gQ24 r_r09_lines v_ depth_) 0 else (gQ24 r_r09_lines v_ depth_) indent_
theorem gQ2n (hb : Base E E0 G) (he : ∀ w, E w → EnvV w) (r_r09_lines : Val → Int → Int → Option (List ByteArray)) (hr_r09_lines : ∀ (a0 : Val) (a1 : Int) (a2 : Int) (r : List ByteArray), r_r09_lines a0 a1 a2 = some r → Pure E E0 Tryz.prog 34 [.agg (aV a0), .cell (vi a1), .cell (vi a2)] (c1 (vL flS r))) (v_ : Val) (indent_ : Int) (depth_ : Int) : ∀ r_ : List ByteArray, gQ23 r_r09_lines v_ indent_ depth_ = some r_ →
 Pure E E0 Tryz.prog 34 [.agg (aV v_), .cell (vi indent_), .cell (vi depth_)] (c1 (vL flS r_)) := by
 refine fnE hb Tryz.func34 rfl fun r_ hq => ?_
 refine q2t hb (gQ24 r_r09_lines v_ depth_) (fun z1 => ⟨none, [pk Tryz.f34 7], [], sl 130 [(1, c1 (vi z1)), (2, c1 (vi depth_)), (3, pt 0)], [bx (aV v_)]⟩) (x := r_) (fun z1 hq => ?_) (fun KJ1 => ?_)
 refine q2t hb (gQ2d r_r09_lines v_ depth_) (fun z2 => ⟨none, [pk Tryz.f34 15], [], sl 130 [(1, c1 (vi z2)), (2, c1 (vi depth_)), (3, pt 0)], [bx (aV v_)]⟩) (x := r_) (fun z2 hq => ?_) (fun KJ2 => ?_)
 refine ifE hb 7 [21, 22] [] hq (fun hq _ => ?_) (fun hq _ => ?_)
 refine ifE hb 5 [25, 26, 27] [] hq (fun hq _ => ?_) (fun hq hc2 => ?_)
 refine q8 hb 14 hq (gQ1h hb he v_) fun y3 hy3 hq => ?_
 refine q4m flS hb 0 (ys := [y3]) ?_
 refine q2g hb 2 1 false (sz := flS.sz) (fr := 0) (cs := flS.f [y3]) (by kernel_rfl) (Nat.zero_le _) ?_
 refine q3k hb 0 6 (c := vO flS 1 [y3]) (q2o flS (nb := false) (id := 1) (xs := [y3]) (by kernel_rfl)) ?_
 exact retE hb 0 (injO hq).symm
 refine ifE hb 6 [31, 32, 33] [] hq (fun hq _ => ?_) (fun hq _ => ?_)
 refine q8 hb 8 hq (gQ1h hb he v_) fun y5 hy5 hq => ?_
 refine q4m flS hb 0 (ys := [y5]) ?_
 refine q2g hb 2 1 false (sz := flS.sz) (fr := 0) (cs := flS.f [y5]) (by kernel_rfl) (Nat.zero_le _) ?_
 refine q3k hb 0 6 (c := vO flS 1 [y5]) (q2o flS (nb := false) (id := 1) (xs := [y5]) (by kernel_rfl)) ?_
 exact retE hb 0 (injO hq).symm
 refine ifE hb 4 [35, 36] [] hq (fun hq _ => ?_) (fun hq _ => ?_)
 refine q8 hb 4 hq (gQ1h hb he v_) fun y7 hy7 hq => ?_
 refine q4m flS hb 0 (ys := [y7]) ?_
 refine q2g hb 2 1 false (sz := flS.sz) (fr := 0) (cs := flS.f [y7]) (by kernel_rfl) (Nat.zero_le _) ?_
 refine q3k hb 0 6 (c := vO flS 1 [y7]) (q2o flS (nb := false) (id := 1) (xs := [y7]) (by kernel_rfl)) ?_
 exact retE hb 0 (injO hq).symm
 refine knE hb 14 [42] [] (b := (decide (v_.kind = 5))) (v := true) (not_f hc2) ?_
 refine q2t hb (gQ2e r_r09_lines v_ depth_ z2) (fun z3 => ⟨none, [pk Tryz.f34 511], [], sl 130 [(1, c1 (vi z2)), (2, c1 (vi depth_)), (3, pt 0), (7, c1 (vS (⟨#[123]⟩ : ByteArray))), (8, c1 (vS (⟨#[125]⟩ : ByteArray))), (9, c1 (vi z3))], [bx (aV v_)]⟩) (x := r_) (fun z3 hq => ?_) (fun KJ3 => ?_)
 refine q4m flS hb 3 (ys := [(⟨#[123]⟩ : ByteArray)]) ?_
 refine q15 hb 8 (gQ2l r_r09_lines v_ depth_ z2 z3) (fun s1 => sl 130 [(1, c1 (vi z2)), (2, c1 (vi depth_)), (3, pt 0), (8, c1 (vS (⟨#[125]⟩ : ByteArray))), (9, c1 (vi z3)), (10, c1 (vO flS 1 s1.2)), (11, c1 (vi s1.1))]) (fun s1 => [bx (aV v_), some (arO false flS.sz 0 (flS.f s1.2))]) [1, 2, 3, 8, 9, 10, 11] [] 2 (s0 := (0, [(⟨#[123]⟩ : ByteArray)])) ⟨(by kernel_rfl), (ql _ _ _ _ _), trivial⟩ hq (fun s1 o1 hq hn1 he1 => ?_)
 refine ifE hb 9 [53] [] hq (fun hq _ => ?_) (fun hq _ => ?_)
 refine idxE hb flV 9 hq fun x9 hx9 hq => ?_
 refine q8 hb 4 hq (hr_r09_lines x9 z3 (IntKind.i64.wrap (depth_ + 1))) fun y10 hy10 hq => ?_
 refine cpE hb 7 [1, 2, 3, 8, 9, 10, 11, 12, 13] (s' := ⟨none, [pk Tryz.f34 1047846], [(2, []), (1, [pk Tryz.f34 65491, pk Tryz.f34 8186]), (0, [pk Tryz.f34 2047])], sl 130 [(1, c1 (vi z2)), (2, c1 (vi depth_)), (3, pt 0), (8, c1 (vS (⟨#[125]⟩ : ByteArray))), (9, c1 (vi z3)), (10, c1 (vO flS 1 s1.2)), (11, c1 (vi s1.1)), (12, c1 (vL flS y10)), (13, c1 (vi 0))], [bx (aV v_), some (arO false flS.sz 0 (flS.f s1.2))]⟩) ?_
 refine q15 hb 0 (gQ2m v_ z3 y10 s1) (fun s2 => sl 130 [(1, c1 (vi z2)), (2, c1 (vi depth_)), (3, pt 0), (8, c1 (vS (⟨#[125]⟩ : ByteArray))), (9, c1 (vi z3)), (10, c1 (vO flS 1 s2.2)), (11, c1 (vi s1.1)), (12, c1 (vL flS y10)), (13, c1 (vi s2.1))]) (fun s2 => [bx (aV v_), some (arO false flS.sz 0 (flS.f s2.2))]) [1, 2, 3, 8, 9, 10, 11, 12, 13] [] 2 (s0 := (0, s1.2)) ⟨(by kernel_rfl), (ql _ _ _ _ _), trivial⟩ hq (fun s2 o2 hq hn2 he2 => ?_)
 refine ifE hb 8 [68] [] hq (fun hq _ => ?_) (fun hq _ => ?_)
 refine idxE hb flS 8 hq fun x12 hx12 hq => ?_
 refine ifE hb 9 [76, 77] [] hq (fun hq hc13 => ?_) (fun hq hc13 => ?_)
 refine ifE hb 5 [80, 81, 82] [] hq (fun hq _ => ?_) (fun hq _ => ?_)
 refine q2t hb (gQ2f v_ z3 y10 s1 s2) (fun z6 => ⟨none, [pk Tryz.f34 67062163], [(3, [pk Tryz.f34 8382771, pk Tryz.f34 1047846]), (2, []), (1, [pk Tryz.f34 65491, pk Tryz.f34 8186]), (0, [pk Tryz.f34 2047])], sl 130 [(1, c1 (vi z2)), (2, c1 (vi depth_)), (3, pt 0), (8, c1 (vS (⟨#[125]⟩ : ByteArray))), (9, c1 (vi z3)), (10, c1 (vO flS 1 s2.2)), (11, c1 (vi s1.1)), (12, c1 (vL flS y10)), (13, c1 (vi s2.1)), (14, c1 (vS z6))], [bx (aV v_), some (arO false flS.sz 0 (flS.f s2.2))]⟩) (x := o2) (fun z6 hq => ?_) (fun KJ6 => ?_)
 refine q2t hb (gQ2g v_ y10 s1 s2) (fun z7 => ⟨none, [pk Tryz.f34 134124327], [(3, [pk Tryz.f34 8382771, pk Tryz.f34 1047846]), (2, []), (1, [pk Tryz.f34 65491, pk Tryz.f34 8186]), (0, [pk Tryz.f34 2047])], sl 130 [(1, c1 (vi z2)), (2, c1 (vi depth_)), (3, pt 0), (8, c1 (vS (⟨#[125]⟩ : ByteArray))), (9, c1 (vi z3)), (10, c1 (vO flS 1 s2.2)), (11, c1 (vi s1.1)), (12, c1 (vL flS y10)), (13, c1 (vi s2.1)), (14, c1 (vS z7))], [bx (aV v_), some (arO false flS.sz 0 (flS.f s2.2))]⟩) (x := o2) (fun z7 hq => ?_) (fun KJ7 => ?_)
 refine ifE hb 9 [108, 109] [] hq (fun hq _ => ?_) (fun hq _ => ?_)
 refine q2t hb (gQ2h s2) (fun z8 => ⟨none, [pk Tryz.f34 268248655], [(3, [pk Tryz.f34 8382771, pk Tryz.f34 1047846]), (2, []), (1, [pk Tryz.f34 65491, pk Tryz.f34 8186]), (0, [pk Tryz.f34 2047])], sl 130 [(1, c1 (vi z2)), (2, c1 (vi depth_)), (3, pt 0), (8, c1 (vS (⟨#[125]⟩ : ByteArray))), (9, c1 (vi z3)), (10, c1 (vO flS 1 s2.2)), (11, c1 (vi s1.1)), (12, c1 (vL flS y10)), (13, c1 (vi s2.1)), (14, c1 (vS z8))], [bx (aV v_), some (arO false flS.sz 0 (flS.f s2.2))]⟩) (x := o2) (fun z8 hq => ?_) (fun KJ8 => ?_)
 refine q10 flS hb 4 1 false 0 (flS.one z8) hq fun l16 hl16 hq => ?_
 exact qk hb 8 [1, 2, 3, 8, 9, 10, 11, 12, 13] [] 2 (hn2 _ (injO hq)) ⟨(by kernel_rfl), (ql _ _ _ _ _), trivial⟩
 refine ifE hb 8 [115, 116] [] hq (fun hq _ => ?_) (fun hq _ => ?_)
 refine catE hb 3 hq fun x18 hx18 hq => ?_
 exact cpE hb 2 [1, 2, 3, 8, 9, 10, 11, 12, 13, 14] (KJ8 x18 hq)
 exact cpE hb 2 [1, 2, 3, 8, 9, 10, 11, 12, 13, 14] (KJ8 z7 hq)
 refine q10 flS hb 14 1 false 0 (flS.one z7) hq fun l19 hl19 hq => ?_
 exact qk hb 8 [1, 2, 3, 8, 9, 10, 11, 12, 13] [] 2 (hn2 _ (injO hq)) ⟨(by kernel_rfl), (ql _ _ _ _ _), trivial⟩
 refine ifE hb 6 [99] [] hq (fun hq _ => ?_) (fun hq _ => ?_)
 refine q8 hb 3 hq (gQ1q hb he z3) fun y21 hy21 hq => ?_
 refine catE hb 1 hq fun x22 hx22 hq => ?_
 exact cpE hb 2 [1, 2, 3, 8, 9, 10, 11, 12, 13, 14] (KJ7 x22 hq)
 exact cpE hb 2 [1, 2, 3, 8, 9, 10, 11, 12, 13, 14] (KJ7 z6 hq)
 refine ifE hb 7 [87, 88] [] hq (fun hq _ => ?_) (fun hq _ => ?_)
 refine idxE hb flS 5 hq fun x24 hx24 hq => ?_
 refine q8 hb 1 hq (gQ0t hb he x24) fun y25 hy25 hq => ?_
 refine catE hb 0 hq fun x26 hx26 hq => ?_
 refine catE hb 1 hq fun x27 hx27 hq => ?_
 exact cpE hb 2 [1, 2, 3, 8, 9, 10, 11, 12, 13, 14] (KJ6 x27 hq)
 exact cpE hb 2 [1, 2, 3, 8, 9, 10, 11, 12, 13, 14] (KJ6 x12 hq)
 refine knE hb 15 [99] [] (b := (decide (s2.1 = 0))) (v := true) hc13 ?_
 refine q8 hb 3 hq (gQ1q hb he z3) fun y28 hy28 hq => ?_
 refine catE hb 1 hq fun x29 hx29 hq => ?_
 refine ifE hb 11 [108, 109] [] hq (fun hq _ => ?_) (fun hq _ => ?_)
 refine q2t hb (gQ2i s2) (fun z9 => ⟨none, [pk Tryz.f34 268248655], [(3, [pk Tryz.f34 8382771, pk Tryz.f34 1047846]), (2, []), (1, [pk Tryz.f34 65491, pk Tryz.f34 8186]), (0, [pk Tryz.f34 2047])], sl 130 [(1, c1 (vi z2)), (2, c1 (vi depth_)), (3, pt 0), (8, c1 (vS (⟨#[125]⟩ : ByteArray))), (9, c1 (vi z3)), (10, c1 (vO flS 1 s2.2)), (11, c1 (vi s1.1)), (12, c1 (vL flS y10)), (13, c1 (vi s2.1)), (14, c1 (vS z9))], [bx (aV v_), some (arO false flS.sz 0 (flS.f s2.2))]⟩) (x := o2) (fun z9 hq => ?_) (fun KJ9 => ?_)
 refine q10 flS hb 4 1 false 0 (flS.one z9) hq fun l31 hl31 hq => ?_
 exact qk hb 8 [1, 2, 3, 8, 9, 10, 11, 12, 13] [] 2 (hn2 _ (injO hq)) ⟨(by kernel_rfl), (ql _ _ _ _ _), trivial⟩
 refine ifE hb 8 [115, 116] [] hq (fun hq _ => ?_) (fun hq _ => ?_)
 refine catE hb 3 hq fun x33 hx33 hq => ?_
 exact cpE hb 2 [1, 2, 3, 8, 9, 10, 11, 12, 13, 14] (KJ9 x33 hq)
 exact cpE hb 2 [1, 2, 3, 8, 9, 10, 11, 12, 13, 14] (KJ9 x29 hq)
 refine q10 flS hb 14 1 false 0 (flS.one x29) hq fun l34 hl34 hq => ?_
 exact qk hb 8 [1, 2, 3, 8, 9, 10, 11, 12, 13] [] 2 (hn2 _ (injO hq)) ⟨(by kernel_rfl), (ql _ _ _ _ _), trivial⟩
 refine knE hb 20 [99] [] (b := (decide (s2.1 = 0))) (v := false) hc13 ?_
 refine ifE hb 11 [108, 109] [] hq (fun hq _ => ?_) (fun hq _ => ?_)
 refine q2t hb (gQ25 s2) (fun z10 => ⟨none, [pk Tryz.f34 268248655], [(3, [pk Tryz.f34 8382771, pk Tryz.f34 1047846]), (2, []), (1, [pk Tryz.f34 65491, pk Tryz.f34 8186]), (0, [pk Tryz.f34 2047])], sl 130 [(1, c1 (vi z2)), (2, c1 (vi depth_)), (3, pt 0), (8, c1 (vS (⟨#[125]⟩ : ByteArray))), (9, c1 (vi z3)), (10, c1 (vO flS 1 s2.2)), (11, c1 (vi s1.1)), (12, c1 (vL flS y10)), (13, c1 (vi s2.1)), (14, c1 (vS z10))], [bx (aV v_), some (arO false flS.sz 0 (flS.f s2.2))]⟩) (x := o2) (fun z10 hq => ?_) (fun KJ10 => ?_)
 refine q10 flS hb 4 1 false 0 (flS.one z10) hq fun l36 hl36 hq => ?_
 exact qk hb 8 [1, 2, 3, 8, 9, 10, 11, 12, 13] [] 2 (hn2 _ (injO hq)) ⟨(by kernel_rfl), (ql _ _ _ _ _), trivial⟩
 refine ifE hb 8 [115, 116] [] hq (fun hq _ => ?_) (fun hq _ => ?_)
 refine catE hb 3 hq fun x38 hx38 hq => ?_
 exact cpE hb 2 [1, 2, 3, 8, 9, 10, 11, 12, 13, 14] (KJ10 x38 hq)
 exact cpE hb 2 [1, 2, 3, 8, 9, 10, 11, 12, 13, 14] (KJ10 x12 hq)
 refine q10 flS hb 14 1 false 0 (flS.one x12) hq fun l39 hl39 hq => ?_
 exact qk hb 8 [1, 2, 3, 8, 9, 10, 11, 12, 13] [] 2 (hn2 _ (injO hq)) ⟨(by kernel_rfl), (ql _ _ _ _ _), trivial⟩
 exact qk hb 8 [1, 2, 3, 8, 9, 10, 11] [] 2 (hn1 _ ((he2 _ (injO hq)).symm)) ⟨(by kernel_rfl), (ql _ _ _ _ _), trivial⟩
 refine q8 hb 6 hq (gQ1q hb he z2) fun y40 hy40 hq => ?_
 refine catE hb 1 hq fun x41 hx41 hq => ?_
 refine q10 flS hb 1 1 false 0 (flS.one x41) hq fun l42 hl42 hq => ?_
 refine q2g hb 2 1 false (sz := flS.sz) (fr := 0) (cs := flS.f l42) (by kernel_rfl) (Nat.zero_le _) ?_
 refine q3k hb 0 6 (c := vO flS 1 l42) (q2o flS (nb := false) (id := 1) (xs := l42) (by kernel_rfl)) ?_
 exact retE hb 0 (he1 _ (injO hq))
 refine ifE hb 17 [46] [] hq (fun hq _ => ?_) (fun hq _ => ?_)
 exact cpE hb 4 [1, 2, 3, 7, 8, 9] (KJ3 64 hq)
 exact cpE hb 2 [1, 2, 3, 7, 8, 9] (KJ3 (IntKind.i64.wrap (z2 + 2)) hq)
 refine ifE hb 11 [31, 32, 33] [] hq (fun hq _ => ?_) (fun hq _ => ?_)
 refine q8 hb 8 hq (gQ1h hb he v_) fun y45 hy45 hq => ?_
 refine q4m flS hb 0 (ys := [y45]) ?_
 refine q2g hb 2 1 false (sz := flS.sz) (fr := 0) (cs := flS.f [y45]) (by kernel_rfl) (Nat.zero_le _) ?_
 refine q3k hb 0 6 (c := vO flS 1 [y45]) (q2o flS (nb := false) (id := 1) (xs := [y45]) (by kernel_rfl)) ?_
 exact retE hb 0 (injO hq).symm
 refine ifE hb 4 [35, 36] [] hq (fun hq _ => ?_) (fun hq _ => ?_)
 refine q8 hb 4 hq (gQ1h hb he v_) fun y47 hy47 hq => ?_
 refine q4m flS hb 0 (ys := [y47]) ?_
 refine q2g hb 2 1 false (sz := flS.sz) (fr := 0) (cs := flS.f [y47]) (by kernel_rfl) (Nat.zero_le _) ?_
 refine q3k hb 0 6 (c := vO flS 1 [y47]) (q2o flS (nb := false) (id := 1) (xs := [y47]) (by kernel_rfl)) ?_
 exact retE hb 0 (injO hq).symm
 refine q2t hb (gQ26 r_r09_lines v_ depth_ z2) (fun z11 => ⟨none, [pk Tryz.f34 127], [], sl 130 [(1, c1 (vi z2)), (2, c1 (vi depth_)), (3, pt 0), (7, c1 (vS z11.1)), (8, c1 (vS z11.2))], [bx (aV v_)]⟩) (x := r_) (fun z11 hq => ?_) (fun KJ11 => ?_)
 refine q2t hb (gQ27 r_r09_lines v_ depth_ z2 z11) (fun z12 => ⟨none, [pk Tryz.f34 511], [], sl 130 [(1, c1 (vi z2)), (2, c1 (vi depth_)), (3, pt 0), (7, c1 (vS z11.1)), (8, c1 (vS z11.2)), (9, c1 (vi z12))], [bx (aV v_)]⟩) (x := r_) (fun z12 hq => ?_) (fun KJ12 => ?_)
 refine q4m flS hb 3 (ys := [z11.1]) ?_
 refine q15 hb 8 (gQ2j r_r09_lines v_ depth_ z2 z11 z12) (fun s1 => sl 130 [(1, c1 (vi z2)), (2, c1 (vi depth_)), (3, pt 0), (8, c1 (vS z11.2)), (9, c1 (vi z12)), (10, c1 (vO flS 1 s1.2)), (11, c1 (vi s1.1))]) (fun s1 => [bx (aV v_), some (arO false flS.sz 0 (flS.f s1.2))]) [1, 2, 3, 8, 9, 10, 11] [] 2 (s0 := (0, [z11.1])) ⟨(by kernel_rfl), (ql _ _ _ _ _), trivial⟩ hq (fun s1 o1 hq hn1 he1 => ?_)
 refine ifE hb 9 [53] [] hq (fun hq _ => ?_) (fun hq _ => ?_)
 refine idxE hb flV 9 hq fun x49 hx49 hq => ?_
 refine q8 hb 4 hq (hr_r09_lines x49 z12 (IntKind.i64.wrap (depth_ + 1))) fun y50 hy50 hq => ?_
 refine cpE hb 7 [1, 2, 3, 8, 9, 10, 11, 12, 13] (s' := ⟨none, [pk Tryz.f34 1047846], [(2, []), (1, [pk Tryz.f34 65491, pk Tryz.f34 8186]), (0, [pk Tryz.f34 2047])], sl 130 [(1, c1 (vi z2)), (2, c1 (vi depth_)), (3, pt 0), (8, c1 (vS z11.2)), (9, c1 (vi z12)), (10, c1 (vO flS 1 s1.2)), (11, c1 (vi s1.1)), (12, c1 (vL flS y50)), (13, c1 (vi 0))], [bx (aV v_), some (arO false flS.sz 0 (flS.f s1.2))]⟩) ?_
 refine q15 hb 0 (gQ2k v_ s1 z12 y50) (fun s2 => sl 130 [(1, c1 (vi z2)), (2, c1 (vi depth_)), (3, pt 0), (8, c1 (vS z11.2)), (9, c1 (vi z12)), (10, c1 (vO flS 1 s2.2)), (11, c1 (vi s1.1)), (12, c1 (vL flS y50)), (13, c1 (vi s2.1))]) (fun s2 => [bx (aV v_), some (arO false flS.sz 0 (flS.f s2.2))]) [1, 2, 3, 8, 9, 10, 11, 12, 13] [] 2 (s0 := (0, s1.2)) ⟨(by kernel_rfl), (ql _ _ _ _ _), trivial⟩ hq (fun s2 o2 hq hn2 he2 => ?_)
 refine ifE hb 8 [68] [] hq (fun hq _ => ?_) (fun hq _ => ?_)
 refine idxE hb flS 8 hq fun x52 hx52 hq => ?_
 refine ifE hb 9 [76, 77] [] hq (fun hq hc53 => ?_) (fun hq hc53 => ?_)
 refine ifE hb 5 [80, 81, 82] [] hq (fun hq _ => ?_) (fun hq _ => ?_)
 refine q2t hb (gQ28 v_ s1 s2 z12 y50) (fun z15 => ⟨none, [pk Tryz.f34 67062163], [(3, [pk Tryz.f34 8382771, pk Tryz.f34 1047846]), (2, []), (1, [pk Tryz.f34 65491, pk Tryz.f34 8186]), (0, [pk Tryz.f34 2047])], sl 130 [(1, c1 (vi z2)), (2, c1 (vi depth_)), (3, pt 0), (8, c1 (vS z11.2)), (9, c1 (vi z12)), (10, c1 (vO flS 1 s2.2)), (11, c1 (vi s1.1)), (12, c1 (vL flS y50)), (13, c1 (vi s2.1)), (14, c1 (vS z15))], [bx (aV v_), some (arO false flS.sz 0 (flS.f s2.2))]⟩) (x := o2) (fun z15 hq => ?_) (fun KJ15 => ?_)
 refine q2t hb (gQ29 v_ s1 s2 y50) (fun z16 => ⟨none, [pk Tryz.f34 134124327], [(3, [pk Tryz.f34 8382771, pk Tryz.f34 1047846]), (2, []), (1, [pk Tryz.f34 65491, pk Tryz.f34 8186]), (0, [pk Tryz.f34 2047])], sl 130 [(1, c1 (vi z2)), (2, c1 (vi depth_)), (3, pt 0), (8, c1 (vS z11.2)), (9, c1 (vi z12)), (10, c1 (vO flS 1 s2.2)), (11, c1 (vi s1.1)), (12, c1 (vL flS y50)), (13, c1 (vi s2.1)), (14, c1 (vS z16))], [bx (aV v_), some (arO false flS.sz 0 (flS.f s2.2))]⟩) (x := o2) (fun z16 hq => ?_) (fun KJ16 => ?_)
 refine ifE hb 9 [108, 109] [] hq (fun hq _ => ?_) (fun hq _ => ?_)
 refine q2t hb (gQ2a s2) (fun z17 => ⟨none, [pk Tryz.f34 268248655], [(3, [pk Tryz.f34 8382771, pk Tryz.f34 1047846]), (2, []), (1, [pk Tryz.f34 65491, pk Tryz.f34 8186]), (0, [pk Tryz.f34 2047])], sl 130 [(1, c1 (vi z2)), (2, c1 (vi depth_)), (3, pt 0), (8, c1 (vS z11.2)), (9, c1 (vi z12)), (10, c1 (vO flS 1 s2.2)), (11, c1 (vi s1.1)), (12, c1 (vL flS y50)), (13, c1 (vi s2.1)), (14, c1 (vS z17))], [bx (aV v_), some (arO false flS.sz 0 (flS.f s2.2))]⟩) (x := o2) (fun z17 hq => ?_) (fun KJ17 => ?_)
 refine q10 flS hb 4 1 false 0 (flS.one z17) hq fun l56 hl56 hq => ?_
 exact qk hb 8 [1, 2, 3, 8, 9, 10, 11, 12, 13] [] 2 (hn2 _ (injO hq)) ⟨(by kernel_rfl), (ql _ _ _ _ _), trivial⟩
 refine ifE hb 8 [115, 116] [] hq (fun hq _ => ?_) (fun hq _ => ?_)
 refine catE hb 3 hq fun x58 hx58 hq => ?_
 exact cpE hb 2 [1, 2, 3, 8, 9, 10, 11, 12, 13, 14] (KJ17 x58 hq)
 exact cpE hb 2 [1, 2, 3, 8, 9, 10, 11, 12, 13, 14] (KJ17 z16 hq)
 refine q10 flS hb 14 1 false 0 (flS.one z16) hq fun l59 hl59 hq => ?_
 exact qk hb 8 [1, 2, 3, 8, 9, 10, 11, 12, 13] [] 2 (hn2 _ (injO hq)) ⟨(by kernel_rfl), (ql _ _ _ _ _), trivial⟩
 refine ifE hb 6 [99] [] hq (fun hq _ => ?_) (fun hq _ => ?_)
 refine q8 hb 3 hq (gQ1q hb he z12) fun y61 hy61 hq => ?_
 refine catE hb 1 hq fun x62 hx62 hq => ?_
 exact cpE hb 2 [1, 2, 3, 8, 9, 10, 11, 12, 13, 14] (KJ16 x62 hq)
 exact cpE hb 2 [1, 2, 3, 8, 9, 10, 11, 12, 13, 14] (KJ16 z15 hq)
 refine ifE hb 7 [87, 88] [] hq (fun hq _ => ?_) (fun hq _ => ?_)
 refine idxE hb flS 5 hq fun x64 hx64 hq => ?_
 refine q8 hb 1 hq (gQ0t hb he x64) fun y65 hy65 hq => ?_
 refine catE hb 0 hq fun x66 hx66 hq => ?_
 refine catE hb 1 hq fun x67 hx67 hq => ?_
 exact cpE hb 2 [1, 2, 3, 8, 9, 10, 11, 12, 13, 14] (KJ15 x67 hq)
 exact cpE hb 2 [1, 2, 3, 8, 9, 10, 11, 12, 13, 14] (KJ15 x52 hq)
 refine knE hb 15 [99] [] (b := (decide (s2.1 = 0))) (v := true) hc53 ?_
 refine q8 hb 3 hq (gQ1q hb he z12) fun y68 hy68 hq => ?_
 refine catE hb 1 hq fun x69 hx69 hq => ?_
 refine ifE hb 11 [108, 109] [] hq (fun hq _ => ?_) (fun hq _ => ?_)
 refine q2t hb (gQ2b s2) (fun z18 => ⟨none, [pk Tryz.f34 268248655], [(3, [pk Tryz.f34 8382771, pk Tryz.f34 1047846]), (2, []), (1, [pk Tryz.f34 65491, pk Tryz.f34 8186]), (0, [pk Tryz.f34 2047])], sl 130 [(1, c1 (vi z2)), (2, c1 (vi depth_)), (3, pt 0), (8, c1 (vS z11.2)), (9, c1 (vi z12)), (10, c1 (vO flS 1 s2.2)), (11, c1 (vi s1.1)), (12, c1 (vL flS y50)), (13, c1 (vi s2.1)), (14, c1 (vS z18))], [bx (aV v_), some (arO false flS.sz 0 (flS.f s2.2))]⟩) (x := o2) (fun z18 hq => ?_) (fun KJ18 => ?_)
 refine q10 flS hb 4 1 false 0 (flS.one z18) hq fun l71 hl71 hq => ?_
 exact qk hb 8 [1, 2, 3, 8, 9, 10, 11, 12, 13] [] 2 (hn2 _ (injO hq)) ⟨(by kernel_rfl), (ql _ _ _ _ _), trivial⟩
 refine ifE hb 8 [115, 116] [] hq (fun hq _ => ?_) (fun hq _ => ?_)
 refine catE hb 3 hq fun x73 hx73 hq => ?_
 exact cpE hb 2 [1, 2, 3, 8, 9, 10, 11, 12, 13, 14] (KJ18 x73 hq)
 exact cpE hb 2 [1, 2, 3, 8, 9, 10, 11, 12, 13, 14] (KJ18 x69 hq)
 refine q10 flS hb 14 1 false 0 (flS.one x69) hq fun l74 hl74 hq => ?_
 exact qk hb 8 [1, 2, 3, 8, 9, 10, 11, 12, 13] [] 2 (hn2 _ (injO hq)) ⟨(by kernel_rfl), (ql _ _ _ _ _), trivial⟩
 refine knE hb 20 [99] [] (b := (decide (s2.1 = 0))) (v := false) hc53 ?_
 refine ifE hb 11 [108, 109] [] hq (fun hq _ => ?_) (fun hq _ => ?_)
 refine q2t hb (gQ2c s2) (fun z19 => ⟨none, [pk Tryz.f34 268248655], [(3, [pk Tryz.f34 8382771, pk Tryz.f34 1047846]), (2, []), (1, [pk Tryz.f34 65491, pk Tryz.f34 8186]), (0, [pk Tryz.f34 2047])], sl 130 [(1, c1 (vi z2)), (2, c1 (vi depth_)), (3, pt 0), (8, c1 (vS z11.2)), (9, c1 (vi z12)), (10, c1 (vO flS 1 s2.2)), (11, c1 (vi s1.1)), (12, c1 (vL flS y50)), (13, c1 (vi s2.1)), (14, c1 (vS z19))], [bx (aV v_), some (arO false flS.sz 0 (flS.f s2.2))]⟩) (x := o2) (fun z19 hq => ?_) (fun KJ19 => ?_)
 refine q10 flS hb 4 1 false 0 (flS.one z19) hq fun l76 hl76 hq => ?_
 exact qk hb 8 [1, 2, 3, 8, 9, 10, 11, 12, 13] [] 2 (hn2 _ (injO hq)) ⟨(by kernel_rfl), (ql _ _ _ _ _), trivial⟩
 refine ifE hb 8 [115, 116] [] hq (fun hq _ => ?_) (fun hq _ => ?_)
 refine catE hb 3 hq fun x78 hx78 hq => ?_
 exact cpE hb 2 [1, 2, 3, 8, 9, 10, 11, 12, 13, 14] (KJ19 x78 hq)
 exact cpE hb 2 [1, 2, 3, 8, 9, 10, 11, 12, 13, 14] (KJ19 x52 hq)
 refine q10 flS hb 14 1 false 0 (flS.one x52) hq fun l79 hl79 hq => ?_
 exact qk hb 8 [1, 2, 3, 8, 9, 10, 11, 12, 13] [] 2 (hn2 _ (injO hq)) ⟨(by kernel_rfl), (ql _ _ _ _ _), trivial⟩
 exact qk hb 8 [1, 2, 3, 8, 9, 10, 11] [] 2 (hn1 _ ((he2 _ (injO hq)).symm)) ⟨(by kernel_rfl), (ql _ _ _ _ _), trivial⟩
 refine q8 hb 6 hq (gQ1q hb he z2) fun y80 hy80 hq => ?_
 refine catE hb 1 hq fun x81 hx81 hq => ?_
 refine q10 flS hb 1 1 false 0 (flS.one x81) hq fun l82 hl82 hq => ?_
 refine q2g hb 2 1 false (sz := flS.sz) (fr := 0) (cs := flS.f l82) (by kernel_rfl) (Nat.zero_le _) ?_
 refine q3k hb 0 6 (c := vO flS 1 l82) (q2o flS (nb := false) (id := 1) (xs := l82) (by kernel_rfl)) ?_
 exact retE hb 0 (he1 _ (injO hq))
 refine ifE hb 12 [46] [] hq (fun hq _ => ?_) (fun hq _ => ?_)
 exact cpE hb 4 [1, 2, 3, 7, 8, 9] (KJ12 64 hq)
 exact cpE hb 2 [1, 2, 3, 7, 8, 9] (KJ12 (IntKind.i64.wrap (z2 + 2)) hq)
 refine ifE hb 14 [42] [] hq (fun hq _ => ?_) (fun hq _ => ?_)
 exact cpE hb 5 [1, 2, 3, 7, 8] (KJ11 ((⟨#[123]⟩ : ByteArray), (⟨#[125]⟩ : ByteArray)) hq)
 exact cpE hb 2 [1, 2, 3, 7, 8] (KJ11 ((⟨#[91]⟩ : ByteArray), (⟨#[93]⟩ : ByteArray)) hq)
 refine ifE hb 6 [18] [] hq (fun hq _ => ?_) (fun hq _ => ?_)
 exact cpE hb 4 [1, 2, 3] (KJ2 64 hq)
 exact cpE hb 2 [1, 2, 3] (KJ2 z1 hq)
 refine ifE hb 11 [16] [] hq (fun hq _ => ?_) (fun hq _ => ?_)
 exact cpE hb 4 [1, 2, 3] (KJ1 0 hq)
 exact cpE hb 2 [1, 2, 3] (KJ1 indent_ hq)
noncomputable def tQ58 (rec:Val→Int×Int→Option (List ByteArray)) (a:Val) (b:Int×Int):Option (List ByteArray) :=
 gQ23 (fun a0 a1 a2=>rec a0 (a1,a2)) a b.1 b.2
noncomputable def tQ56 (a0:Val) (a1:Int) (a2:Int):Option (List ByteArray):=tieF relV wfV tQ58 a0 (a1,a2)
theorem tQ57 (hb:Base E E0 G) (he:∀ w,E w→EnvV w) (a0:Val) (a1:Int) (a2:Int) (r:List ByteArray) (hq:tQ56 a0 a1 a2=some r):Pure E E0 Tryz.prog 34 [.agg (aV a0),.cell (vi a1),.cell (vi a2)] (c1 (vL flS r)) :=
 q4h (C:=fun a b r=>Pure E E0 Tryz.prog 34 [.agg (aV a),.cell (vi b.1),.cell (vi b.2)] (c1 (vL flS r))) (fun rec hr a b r hq=>gQ2n hb he (fun a0 a1 a2=>rec a0 (a1,a2)) (fun a0 a1 a2 r e=>hr a0 (a1,a2) r e) a b.1 b.2 r hq) a0 (a1,a2) r hq
noncomputable def gQ1i  (v_:Val) (indent_:Int):Option (List ByteArray) :=
 (tQ56 v_ indent_ 0).bind fun y1=>some (y1)
theorem gQ1j (hb : Base E E0 G) (he : ∀ w, E w → EnvV w)   (v_ : Val) (indent_ : Int) : ∀ r_ : List ByteArray, gQ1i v_ indent_ = some r_ →
 Pure E E0 Tryz.prog 17 [.agg (aV v_), .cell (vi indent_)] (c1 (vL flS r_)) := by
 refine fnE hb Tryz.func17 rfl fun r_ hq => ?_
 refine q8 hb 9 hq (tQ57 hb he v_ indent_ 0) fun y1 hy1 hq => ?_
 exact retE hb 2 (injO hq).symm
noncomputable def gQ07 (v_:Val) (y4:List ByteArray) (s1:ByteArray×Int):Option ((ByteArray×Int)⊕(Bool)) :=
 bif (decide (s1.2 < (y4.length:Int))) then bif (decide (s1.2 > 0)) then (cat s1.1 (⟨#[10]⟩:ByteArray)).bind fun x10=>(idx y4 s1.2).bind fun x11=>(cat x10 x11).bind fun x12=>some (.inl (x12,(IntKind.i64.wrap (s1.2+1)))) else (idx y4 s1.2).bind fun x13=>(cat s1.1 x13).bind fun x14=>some (.inl (x14,(IntKind.i64.wrap (s1.2+1)))) else (gQ4j s1.1).bind fun y15=>bif (decide ((s1.1.size:Int) > 65536)) then (gQ0b).bind fun y17=>some (.inr (y17)) else bif (decide ((y15.2.kind:Int)=0) && (decide ((y15.2.at_:Int)=0) && (decide (y15.2.name=eS) && true))) then (tQ4x v_ y15.1).bind fun y19=>bif y19 then (gQ0b).bind fun y21=>some (.inr (y21)) else some (.inr (false)) else some (.inr (false))
noncomputable def gQ06  (v_:Val) (indent_:Int):Option (Bool) :=
 (gQ0g v_).bind fun y1=>bif (!y1) then (gQ0b).bind fun y3=>some (y3) else (tQ5i v_ indent_).bind fun y4=>(gQ1i v_ indent_).bind fun y5=>(gQ0i y4 y5).bind fun y6=>bif (!y6) then some (false) else qf (gQ07 v_ y4) (eS,0)
theorem gQ08 (hb : Base E E0 G) (he : ∀ w, E w → EnvV w)   (v_ : Val) (indent_ : Int) : ∀ r_ : Bool, gQ06 v_ indent_ = some r_ →
 Pure E E0 Tryz.prog 6 [.agg (aV v_), .cell (vi indent_)] (c1 (vB r_)) := by
 refine fnE hb Tryz.func6 rfl fun r_ hq => ?_
 refine q8 hb 9 hq (gQ0h hb he v_) fun y1 hy1 hq => ?_
 refine ifE hb 2 [12] [] hq (fun hq _ => ?_) (fun hq _ => ?_)
 refine q8 hb 3 hq (gQ0c hb he ) fun y3 hy3 hq => ?_
 exact retE hb 2 (injO hq).symm
 refine q8 hb 6 hq (fun y hy => qmf flS (tQ5j hb he v_ indent_ y hy)) fun y4 hy4 hq => ?_
 refine q8 hb 8 hq (gQ1j hb he v_ indent_) fun y5 hy5 hq => ?_
 refine q8 hb 0 hq (gQ0k hb he y4 y5) fun y6 hy6 hq => ?_
 refine ifE hb 2 [22] [] hq (fun hq _ => ?_) (fun hq _ => ?_)
 exact retE hb 5 (injO hq).symm
 refine cpE hb 12 [2, 5, 6, 7] (s' := ⟨none, [pk Tryz.f6 506], [(0, [pk Tryz.f6 127])], sl 60 [(2, pt 0), (5, c1 (vL flS y4)), (6, c1 (vS eS)), (7, c1 (vi 0))], [bx (aV v_)]⟩) ?_
 refine q15 hb 0 (gQ07 v_ y4) (fun s1 => sl 60 [(2, pt 0), (5, c1 (vL flS y4)), (6, c1 (vS s1.1)), (7, c1 (vi s1.2))]) (fun s1 => [bx (aV v_)]) [2, 5, 6, 7] [] 1 (s0 := (eS, 0)) ⟨(by kernel_rfl), trivial⟩ hq (fun s1 o1 hq hn1 he1 => ?_)
 refine ifE hb 8 [26] [] hq (fun hq _ => ?_) (fun hq _ => ?_)
 refine ifE hb 10 [30] [] hq (fun hq _ => ?_) (fun hq _ => ?_)
 refine catE hb 3 hq fun x10 hx10 hq => ?_
 refine idxE hb flS 6 hq fun x11 hx11 hq => ?_
 refine catE hb 1 hq fun x12 hx12 hq => ?_
 exact qk hb 8 [2, 5, 6, 7] [] 1 (hn1 _ (injO hq)) ⟨(by kernel_rfl), trivial⟩
 refine idxE hb flS 6 hq fun x13 hx13 hq => ?_
 refine catE hb 1 hq fun x14 hx14 hq => ?_
 exact qk hb 8 [2, 5, 6, 7] [] 1 (hn1 _ (injO hq)) ⟨(by kernel_rfl), trivial⟩
 refine q8 hb 5 hq (gQ4k hb he s1.1) fun y15 hy15 hq => ?_
 refine ifE hb 14 [46, 47] [] hq (fun hq _ => ?_) (fun hq _ => ?_)
 refine q8 hb 10 hq (gQ0c hb he ) fun y17 hy17 hq => ?_
 exact retE hb 3 (he1 _ (injO hq))
 refine ifE hb 4 [50, 51] [] hq (fun hq _ => ?_) (fun hq _ => ?_)
 refine q8 hb 2 hq (tQ4y hb he v_ y15.1) fun y19 hy19 hq => ?_
 refine ifE hb 3 [54, 55, 56, 57] [] hq (fun hq _ => ?_) (fun hq _ => ?_)
 refine q8 hb 0 hq (gQ0c hb he ) fun y21 hy21 hq => ?_
 exact retE hb 3 (he1 _ (injO hq))
 exact retE hb 4 (he1 _ (injO hq))
 exact retE hb 10 (he1 _ (injO hq))
noncomputable def gQ0e (n_:Int) (kind_:Int) (s1:ByteArray×Int):Option ((ByteArray×Int)⊕(ByteArray)) :=
 bif (decide (s1.2 < n_)) then (sidx (⟨#[32,9,10,13]⟩:ByteArray) ((IntKind.i64.wrap (s1.2+(IntKind.i64.wrap kind_))).tmod 4)).bind fun c2=>(bstr [c2]).bind fun x3=>(cat s1.1 x3).bind fun x4=>some (.inl (x4,(IntKind.i64.wrap (s1.2+1)))) else some (.inr (s1.1))
noncomputable def gQ0d  (n_:Int) (kind_:Int):Option (ByteArray) :=
 qf (gQ0e n_ kind_) (eS,0)
theorem gQ0f (hb : Base E E0 G) (he : ∀ w, E w → EnvV w)   (n_ : Int) (kind_ : Int) : ∀ r_ : ByteArray, gQ0d n_ kind_ = some r_ →
 Pure E E0 Tryz.prog 18 [.cell (vi n_), .cell (vI .u8 kind_)] (c1 (vS r_)) := by
 refine fnE hb Tryz.func18 rfl fun r_ hq => ?_
 refine q15 hb 14 (gQ0e n_ kind_) (fun s1 => sl 23 [(0, c1 (vi n_)), (1, c1 (vI .u8 kind_)), (5, c1 (vS s1.1)), (6, c1 (vi s1.2))]) (fun s1 => []) [0, 1, 5, 6] [] 0 (s0 := (eS, 0)) trivial hq (fun s1 o1 hq hn1 he1 => ?_)
 refine ifE hb 7 [9] [] hq (fun hq _ => ?_) (fun hq _ => ?_)
 refine qp hb 11 hq fun c2 hc2 hq => ?_
 refine q71 hb 1 (xs := [c2]) ((flI .u8).one c2) hq fun x3 hx3 hq => ?_
 refine catE hb 0 hq fun x4 hx4 hq => ?_
 exact qk hb 8 [0, 1, 5, 6] [] 0 (hn1 _ (injO hq)) trivial
 exact retE hb 7 (he1 _ (injO hq))
noncomputable def gQ02  (s_:ByteArray) (front_:Int) (kind_:Int):Option (Bool) :=
 bif (decide ((s_.size:Int) > 3000)) then (gQ0b).bind fun y2=>some (y2) else (gQ4j s_).bind fun y3=>(gQ0d ((IntKind.i64.wrap front_).tmod 41) kind_).bind fun y4=>(cat y4 s_).bind fun x5=>(gQ4j x5).bind fun y6=>(tQ4x y3.1 y6.1).bind fun y7=>bif (!y7) then some (false) else bif (!decide (y3.2.kind=y6.2.kind)) then some (false) else bif (!decide (y6.2.at_=y3.2.at_)) then bif (!decide (y6.2.at_=(IntKind.i64.wrap (y3.2.at_+((IntKind.i64.wrap front_).tmod 41))))) then some (false) else bif (!decide (y3.2.kind=0)) then (gQ0b).bind fun y13=>some (y13) else (gQ0d ((IntKind.i64.wrap front_).tmod 41) kind_).bind fun y14=>(cat s_ y14).bind fun x15=>(gQ4j x15).bind fun y16=>bif (decide ((y16.2.kind:Int)=0) && (decide ((y16.2.at_:Int)=0) && (decide (y16.2.name=eS) && true))) then (tQ4x y3.1 y16.1).bind fun y18=>bif y18 then bif (decide (y6.2.at_=0)) then (gQ0b).bind fun y21=>some (y21) else some (false) else some (false) else some (false) else bif (!decide (y3.2.kind=0)) then (gQ0b).bind fun y23=>some (y23) else (gQ0d ((IntKind.i64.wrap front_).tmod 41) kind_).bind fun y24=>(cat s_ y24).bind fun x25=>(gQ4j x25).bind fun y26=>bif (decide ((y26.2.kind:Int)=0) && (decide ((y26.2.at_:Int)=0) && (decide (y26.2.name=eS) && true))) then (tQ4x y3.1 y26.1).bind fun y28=>bif y28 then bif (decide (y6.2.at_=0)) then (gQ0b).bind fun y31=>some (y31) else some (false) else some (false) else some (false)
theorem gQ03 (hb : Base E E0 G) (he : ∀ w, E w → EnvV w)   (s_ : ByteArray) (front_ : Int) (kind_ : Int) : ∀ r_ : Bool, gQ02 s_ front_ kind_ = some r_ →
 Pure E E0 Tryz.prog 7 [.cell (vS s_), .cell (vI .u8 front_), .cell (vI .u8 kind_)] (c1 (vB r_)) := by
 refine fnE hb Tryz.func7 rfl fun r_ hq => ?_
 refine ifE hb 11 [16] [] hq (fun hq _ => ?_) (fun hq _ => ?_)
 refine q8 hb 3 hq (gQ0c hb he ) fun y2 hy2 hq => ?_
 exact retE hb 2 (injO hq).symm
 refine q8 hb 12 hq (gQ4k hb he s_) fun y3 hy3 hq => ?_
 refine q8 hb 12 hq (gQ0f hb he ((IntKind.i64.wrap front_).tmod 41) kind_) fun y4 hy4 hq => ?_
 refine catE hb 1 hq fun x5 hx5 hq => ?_
 refine q8 hb 0 hq (gQ4k hb he x5) fun y6 hy6 hq => ?_
 refine q8 hb 13 hq (tQ4y hb he y3.1 y6.1) fun y7 hy7 hq => ?_
 refine ifE hb 2 [38, 39] [] hq (fun hq _ => ?_) (fun hq _ => ?_)
 exact retE hb 28 (injO hq).symm
 refine ifE hb 7 [44, 45, 46] [] hq (fun hq _ => ?_) (fun hq _ => ?_)
 exact retE hb 21 (injO hq).symm
 refine ifE hb 6 [51, 52] [] hq (fun hq _ => ?_) (fun hq _ => ?_)
 refine ifE hb 10 [59, 60, 61] [] hq (fun hq _ => ?_) (fun hq _ => ?_)
 exact retE hb 5 (injO hq).symm
 refine ifE hb 9 [64] [] hq (fun hq _ => ?_) (fun hq _ => ?_)
 refine q8 hb 3 hq (gQ0c hb he ) fun y13 hy13 hq => ?_
 exact retE hb 2 (injO hq).symm
 refine q8 hb 7 hq (gQ0f hb he ((IntKind.i64.wrap front_).tmod 41) kind_) fun y14 hy14 hq => ?_
 refine catE hb 0 hq fun x15 hx15 hq => ?_
 refine q8 hb 0 hq (gQ4k hb he x15) fun y16 hy16 hq => ?_
 refine ifE hb 14 [77, 78] [] hq (fun hq _ => ?_) (fun hq _ => ?_)
 refine q8 hb 2 hq (tQ4y hb he y3.1 y16.1) fun y18 hy18 hq => ?_
 refine ifE hb 2 [81, 82, 83] [] hq (fun hq _ => ?_) (fun hq _ => ?_)
 refine ifE hb 5 [86, 87, 88] [] hq (fun hq _ => ?_) (fun hq _ => ?_)
 refine q8 hb 0 hq (gQ0c hb he ) fun y21 hy21 hq => ?_
 exact retE hb 3 (injO hq).symm
 exact retE hb 4 (injO hq).symm
 exact retE hb 9 (injO hq).symm
 exact retE hb 14 (injO hq).symm
 refine ifE hb 19 [64] [] hq (fun hq _ => ?_) (fun hq _ => ?_)
 refine q8 hb 3 hq (gQ0c hb he ) fun y23 hy23 hq => ?_
 exact retE hb 2 (injO hq).symm
 refine q8 hb 7 hq (gQ0f hb he ((IntKind.i64.wrap front_).tmod 41) kind_) fun y24 hy24 hq => ?_
 refine catE hb 0 hq fun x25 hx25 hq => ?_
 refine q8 hb 0 hq (gQ4k hb he x25) fun y26 hy26 hq => ?_
 refine ifE hb 14 [77, 78] [] hq (fun hq _ => ?_) (fun hq _ => ?_)
 refine q8 hb 2 hq (tQ4y hb he y3.1 y26.1) fun y28 hy28 hq => ?_
 refine ifE hb 2 [81, 82, 83] [] hq (fun hq _ => ?_) (fun hq _ => ?_)
 refine ifE hb 5 [86, 87, 88] [] hq (fun hq _ => ?_) (fun hq _ => ?_)
 refine q8 hb 0 hq (gQ0c hb he ) fun y31 hy31 hq => ?_
 exact retE hb 3 (injO hq).symm
 exact retE hb 4 (injO hq).symm
 exact retE hb 9 (injO hq).symm
 exact retE hb 14 (injO hq).symm
end Abs
end Go.Proofs.YtpidpioifnnllaaGreatDoor
