import Derived.Test.YtagadjpmkggjdaaGreatDoorCtG
import Derived.Test.YtagadjpmkggjdaaGreatDoorACb
import Derived.Test.YtagadjpmkggjdaaGreatDoorAbsP
import Derived.Test.YtagadjpmkggjdaaGreatDoorAbsR
import Derived.Test.YtagadjpmkggjdaaGreatDoorAbsV
import Derived.Test.YtagadjpmkggjdaaGreatDoorACe
import Derived.Test.YtagadjpmkggjdaaGreatDoorAbsO
import Derived.Test.YtagadjpmkggjdaaGreatDoorAbsN
noncomputable section
namespace Go.Proofs.YtagadjpmkggjdaaGreatDoor
namespace Abs
open Go.RowKit
variable {E:World->Prop} {E0:Nat} {G:Nat->Option (List PV)}
set_option maxRecDepth 100000
set_option linter.unusedVariables false
set_option linter.unusedSimpArgs false
attribute [local irreducible] adv J KE KO mPut mSto q6d mFrm qbo hedS unl Pure Ok sl q7 awpL awp asq asqD asqX asqF
structure SpecG where
 kinds:ByteArray
 least:Int
 most:Int
 strict:Bool
def gQ3j (r_l18_long:Val->Int->Option (Int)) (v_:Val) (depth_:Int) (s2:Int×Int):Option ((Int×Int)⊕((Int×Int)⊕(Int))) :=
 bif (decide (s2.2<(v_.items.length:Int))) then bif (decide (depth_ > 0)) then (idx v_.items s2.2).bind fun x5=>(r_l18_long x5 (IntKind.i64.wrap (depth_ - 1))).bind fun y6=>some (.inl ((if y6 > s2.1 then y6 else s2.1),(IntKind.i64.wrap (s2.2+1)))) else some (.inr (.inr (s2.1))) else some (.inr (.inr (s2.1)))
def gQ3i (r_l18_long:Val->Int->Option (Int)) (v_:Val) (depth_:Int) (s1:Int×Int):Option ((Int×Int)⊕(Int)) :=
 bif (decide (s1.2<(v_.keys.length:Int))) then (idx v_.keys s1.2).bind fun x2=>some (.inl ((if (x2.size:Int) > s1.1 then (x2.size:Int) else s1.1),(IntKind.i64.wrap (s1.2+1)))) else q7 (gQ3j r_l18_long v_ depth_) (s1.1,0)
def gQ3h (r_l18_long:Val->Int->Option (Int)) (v_:Val) (depth_:Int):Option (Int) :=
 q7 (gQ3i r_l18_long v_ depth_) ((v_.str.size:Int),0)
theorem gQ3k (hb:Base E E0 G) (he:∀w,E w->EnvV w) (r_l18_long:Val->Int->Option (Int)) (hr_l18_long:∀(a0:Val) (a1:Int) (r:Int),r_l18_long a0 a1=some r->Pure E E0 Tryz.prog 21 [.agg (aV a0),.cell (vi a1)] (c1 (vi r))) (v_:Val) (depth_:Int):∀r_:Int,gQ3h r_l18_long v_ depth_=some r_ ->
 Pure E E0 Tryz.prog 21 [.agg (aV v_),.cell (vi depth_)] (c1 (vi r_)):=by
 refine fnE hb Tryz.func21 rfl fun r_ hq=>?_
 refine qd hb 18 (gQ3i r_l18_long v_ depth_) (fun s1=>sl 48 [(1,c1 (vi depth_)),(2,pt 0),(5,c1 (vi s1.1)),(6,c1 (vi s1.2))]) (fun s1=>[bx (aV v_)]) [1,2,5,6] [] 1 (s0:=((v_.str.size:Int),0)) ⟨(by kernel_rfl),trivial⟩ hq (fun s1 o1 hq hn1 he1=>?_)
 refine ifE hb 9 [15] [] hq ?_ ?_<;>intro hq _
 refine idxE hb flS 9 hq fun x2 hx2 hq=>?_
 exact q8 hb 11 [1,2,5,6] [] 1 (hn1 _ (injO hq)) ⟨(by kernel_rfl),trivial⟩
 refine qd hb 8 (gQ3j r_l18_long v_ depth_) (fun s2=>sl 48 [(1,c1 (vi depth_)),(2,pt 0),(5,c1 (vi s2.1)),(7,c1 (vi s2.2))]) (fun s2=>[bx (aV v_)]) [1,2,5,7] [] 1 (s0:=(s1.1,0)) ⟨(by kernel_rfl),trivial⟩ hq (fun s2 o2 hq hn2 he2=>?_)
 refine ifE hb 9 [30,31] [] hq ?_ ?_<;>intro hq _
 refine ifE hb 4 [33,34] [] hq ?_ ?_<;>intro hq _
 refine idxE hb flV 9 hq fun x5 hx5 hq=>?_
 refine q6 hb 3 hq (hr_l18_long x5 (IntKind.i64.wrap (depth_ - 1))) fun y6 _ hq=>?_
 exact q8 hb 9 [1,2,5,7] [] 1 (hn2 _ (injO hq)) ⟨(by kernel_rfl),trivial⟩
 exact retE hb 7 (he1 _ ((he2 _ (injO hq)).symm))
 exact retE hb 11 (he1 _ ((he2 _ (injO hq)).symm))
def tQap (rec:Val->Int->Option (Int)) (a:Val) (b:Int):Option (Int) :=
 gQ3h (fun a0 a1=>rec a0 a1) a b
def tQan (a0:Val) (a1:Int):Option (Int):=tieF relV wfV tQap a0 a1
theorem tQao (hb:Base E E0 G) (he:∀w,E w->EnvV w) (a0:Val) (a1:Int) (r:Int) (hq:tQan a0 a1=some r):Pure E E0 Tryz.prog 21 [.agg (aV a0),.cell (vi a1)] (c1 (vi r)) :=
 q4b (C:=fun a b r=>Pure E E0 Tryz.prog 21 [.agg (aV a),.cell (vi b)] (c1 (vi r))) (fun rec hr a b r hq=>gQ3k hb he (fun a0 a1=>rec a0 a1) (fun a0 a1 r e=>hr a0 a1 r e) a b r hq) a0 a1 r hq
def gQ4k (r_r07_Nodes:Val->Option (Int)) (v_:Val) (s1:Int×Int):Option ((Int×Int)⊕(Int)) :=
 bif (decide (s1.2<(v_.items.length:Int))) then (idx v_.items s1.2).bind fun x2=>(r_r07_Nodes x2).bind fun y3=>some (.inl ((IntKind.i64.wrap (s1.1+y3)),(IntKind.i64.wrap (s1.2+1)))) else some (.inr (s1.1))
def gQ4j (r_r07_Nodes:Val->Option (Int)) (v_:Val):Option (Int) :=
 q7 (gQ4k r_r07_Nodes v_) (1,0)
theorem gQ4l (hb:Base E E0 G) (he:∀w,E w->EnvV w) (r_r07_Nodes:Val->Option (Int)) (hr_r07_Nodes:∀(a0:Val) (r:Int),r_r07_Nodes a0=some r->Pure E E0 Tryz.prog 22 [.agg (aV a0)] (c1 (vi r))) (v_:Val):∀r_:Int,gQ4j r_r07_Nodes v_=some r_ ->
 Pure E E0 Tryz.prog 22 [.agg (aV v_)] (c1 (vi r_)):=by
 refine fnE hb Tryz.func22 rfl fun r_ hq=>?_
 refine qd hb 15 (gQ4k r_r07_Nodes v_) (fun s1=>sl 21 [(1,pt 0),(3,c1 (vi s1.1)),(4,c1 (vi s1.2))]) (fun s1=>[bx (aV v_)]) [1,3,4] [] 1 (s0:=(1,0)) ⟨(by kernel_rfl),trivial⟩ hq (fun s1 o1 hq hn1 he1=>?_)
 refine ifE hb 9 [9] [] hq ?_ ?_<;>intro hq _
 refine idxE hb flV 9 hq fun x2 hx2 hq=>?_
 refine q6 hb 1 hq (hr_r07_Nodes x2) fun y3 _ hq=>?_
 exact q8 hb 9 [1,3,4] [] 1 (hn1 _ (injO hq)) ⟨(by kernel_rfl),trivial⟩
 exact retE hb 7 (he1 _ (injO hq))
def tQay (rec:Val->Unit->Option (Int)) (a:Val) (b:Unit):Option (Int) :=
 gQ4j (fun a0=>rec a0 ()) a
def tQaw (a0:Val):Option (Int):=tieF relV wfV tQay a0 ()
theorem tQax (hb:Base E E0 G) (he:∀w,E w->EnvV w) (a0:Val) (r:Int) (hq:tQaw a0=some r):Pure E E0 Tryz.prog 22 [.agg (aV a0)] (c1 (vi r)) :=
 q4b (C:=fun a b r=>Pure E E0 Tryz.prog 22 [.agg (aV a)] (c1 (vi r))) (fun rec hr a b r hq=>gQ4l hb he (fun a0=>rec a0 ()) (fun a0 r e=>hr a0 () r e) a r hq) a0 () r hq
def gQ3d (args_:List Val) (s1:Int×Int):Option ((Int×Int)⊕(Bool)) :=
 bif (decide (s1.2<(args_.length:Int))) then bif (decide (s1.1<=100)) then (idx args_ s1.2).bind fun x4=>(qes x4 100).bind fun y5=>bif (!y5) then some (.inr (false)) else (idx args_ s1.2).bind fun x7=>(q2e x7).bind fun y8=>bif (!decide (y8=0)) then some (.inr (false)) else (idx args_ s1.2).bind fun x10=>(tQan x10 32).bind fun y11=>bif (decide (y11 > 300)) then some (.inr (false)) else (idx args_ s1.2).bind fun x13=>(tQaw x13).bind fun y14=>some (.inl ((IntKind.i64.wrap (s1.1+y14)),(IntKind.i64.wrap (s1.2+1)))) else some (.inr (decide (s1.1<=100))) else some (.inr (decide (s1.1<=100)))
def gQ3c  (args_:List Val):Option (Bool) :=
 bif (decide ((args_.length:Int) > 70)) then some (false) else q7 (gQ3d args_) (0,0)
theorem gQ3e (hb:Base E E0 G) (he:∀w,E w->EnvV w)   (args_:List Val):∀r_:Bool,gQ3c args_=some r_ ->
 Pure E E0 Tryz.prog 8 [.cell (vL flV args_)] (c1 (vB r_)):=by
 refine fnE hb Tryz.func8 rfl fun r_ hq=>?_
 refine ifE hb 11 [7] [] hq ?_ ?_<;>intro hq _
 exact retE hb 5 (injO hq).symm
 refine qd hb 12 (gQ3d args_) (fun s1=>sl 49 [(0,c1 (vL flV args_)),(3,c1 (vi s1.1)),(4,c1 (vi s1.2))]) (fun s1=>[]) [0,3,4] [] 0 (s0:=(0,0)) trivial hq (fun s1 o1 hq hn1 he1=>?_)
 refine ifE hb 8 [11,12] [] hq ?_ ?_<;>intro hq _
 refine ifE hb 4 [14,15] [] hq ?_ ?_<;>intro hq _
 refine idxE hb flV 9 hq fun x4 hx4 hq=>?_
 refine q6 hb 1 hq (qwb hb he x4 100) fun y5 _ hq=>?_
 refine ifE hb 2 [23,24] [] hq ?_ ?_<;>intro hq _
 exact retE hb 21 (he1 _ (injO hq))
 refine idxE hb flV 2 hq fun x7 hx7 hq=>?_
 refine q6 hb 1 hq (qbz hb he x7) fun y8 _ hq=>?_
 refine ifE hb 3 [30,31,32] [] hq ?_ ?_<;>intro hq _
 exact retE hb 13 (he1 _ (injO hq))
 refine idxE hb flV 2 hq fun x10 hx10 hq=>?_
 refine q6 hb 1 hq (tQao hb he x10 32) fun y11 _ hq=>?_
 refine ifE hb 3 [38,39] [] hq ?_ ?_<;>intro hq _
 exact retE hb 5 (he1 _ (injO hq))
 refine idxE hb flV 6 hq fun x13 hx13 hq=>?_
 refine q6 hb 1 hq (tQax hb he x13) fun y14 _ hq=>?_
 exact q8 hb 9 [0,3,4] [] 0 (hn1 _ (injO hq)) trivial
 exact retE hb 8 (he1 _ (injO hq))
 exact retE hb 12 (he1 _ (injO hq))
def gQ1f  (kinds_:ByteArray) (strict_:Bool):Option (SpecG×Bool) :=
 some ((SpecG.mk kinds_ (kinds_.size:Int) (kinds_.size:Int) strict_),true)
theorem gQ1g (hb:Base E E0 G) (he:∀w,E w->EnvV w)   (kinds_:ByteArray) (strict_:Bool):∀r_:SpecG×Bool,gQ1f kinds_ strict_=some r_ ->
 Pure E E0 Tryz.prog 49 [.cell (vS kinds_),.cell (vB strict_)] (.tup [.agg [vS r_.1.kinds,vi r_.1.least,vi r_.1.most,vB r_.1.strict],.cell (vB r_.2)]):=by
 refine fnE hb Tryz.func49 rfl fun r_ hq=>?_
 exact retE hb 17 (injO hq).symm
def gQ1b  (name_:ByteArray):Option (SpecG×Bool) :=
 bif (decide (name_=⟨#[97,98,115]⟩)) then (gQ1f (⟨#[110]⟩:ByteArray) true).bind fun y2=>some (y2.1,y2.2) else bif (decide (name_=⟨#[99,111,97,108,101,115,99,101]⟩)) then some ((SpecG.mk (⟨#[97]⟩:ByteArray) 1 64 false),true) else bif (decide (name_=⟨#[99,111,110,99,97,116]⟩)) then some ((SpecG.mk (⟨#[108]⟩:ByteArray) 1 64 true),true) else bif (decide (name_=⟨#[99,111,110,116,97,105,110,115]⟩)) then (gQ1f (⟨#[108,97]⟩:ByteArray) false).bind fun y6=>some (y6.1,y6.2) else bif (decide (name_=⟨#[105,110,100,101,120]⟩)) then (gQ1f (⟨#[108,97]⟩:ByteArray) false).bind fun y8=>some (y8.1,y8.2) else bif (decide (name_=⟨#[100,105,115,116,105,110,99,116]⟩)) then (gQ1f (⟨#[108]⟩:ByteArray) false).bind fun y10=>some (y10.1,y10.2) else bif (decide (name_=⟨#[102,108,97,116,116,101,110]⟩)) then (gQ1f (⟨#[108]⟩:ByteArray) false).bind fun y12=>some (y12.1,y12.2) else bif (decide (name_=⟨#[101,108,101,109,101,110,116]⟩)) then (gQ1f (⟨#[108,110]⟩:ByteArray) false).bind fun y14=>some (y14.1,y14.2) else bif (decide (name_=⟨#[101,110,100,115,119,105,116,104]⟩)) then (gQ1f (⟨#[115,115]⟩:ByteArray) true).bind fun y16=>some (y16.1,y16.2) else bif (decide (name_=⟨#[115,112,108,105,116]⟩)) then (gQ1f (⟨#[115,115]⟩:ByteArray) true).bind fun y18=>some (y18.1,y18.2) else bif (decide (name_=⟨#[115,116,97,114,116,115,119,105,116,104]⟩)) then (gQ1f (⟨#[115,115]⟩:ByteArray) true).bind fun y20=>some (y20.1,y20.2) else bif (decide (name_=⟨#[106,111,105,110]⟩)) then (gQ1f (⟨#[115,83]⟩:ByteArray) true).bind fun y22=>some (y22.1,y22.2) else bif (decide (name_=⟨#[107,101,121,115]⟩)) then (gQ1f (⟨#[109]⟩:ByteArray) true).bind fun y24=>some (y24.1,y24.2) else bif (decide (name_=⟨#[118,97,108,117,101,115]⟩)) then (gQ1f (⟨#[109]⟩:ByteArray) true).bind fun y26=>some (y26.1,y26.2) else bif (decide (name_=⟨#[108,101,110,103,116,104]⟩)) then (gQ1f (⟨#[99]⟩:ByteArray) true).bind fun y28=>some (y28.1,y28.2) else bif (decide (name_=⟨#[108,111,111,107,117,112]⟩)) then some ((SpecG.mk (⟨#[109,115,97]⟩:ByteArray) 2 3 false),true) else bif (decide (name_=⟨#[108,111,119,101,114]⟩)) then (gQ1f (⟨#[115]⟩:ByteArray) true).bind fun y31=>some (y31.1,y31.2) else bif (decide (name_=⟨#[116,114,105,109]⟩)) then (gQ1f (⟨#[115]⟩:ByteArray) true).bind fun y33=>some (y33.1,y33.2) else bif (decide (name_=⟨#[117,112,112,101,114]⟩)) then (gQ1f (⟨#[115]⟩:ByteArray) true).bind fun y35=>some (y35.1,y35.2) else bif (decide (name_=⟨#[109,97,120]⟩)) then some ((SpecG.mk (⟨#[110]⟩:ByteArray) 1 64 true),true) else bif (decide (name_=⟨#[109,105,110]⟩)) then some ((SpecG.mk (⟨#[110]⟩:ByteArray) 1 64 true),true) else bif (decide (name_=⟨#[109,101,114,103,101]⟩)) then some ((SpecG.mk (⟨#[109]⟩:ByteArray) 1 64 true),true) else bif (decide (name_=⟨#[114,97,110,103,101]⟩)) then some ((SpecG.mk (⟨#[110]⟩:ByteArray) 1 2 true),true) else bif (decide (name_=⟨#[114,101,112,108,97,99,101]⟩)) then (gQ1f (⟨#[115,115,115]⟩:ByteArray) true).bind fun y41=>some (y41.1,y41.2) else bif (decide (name_=⟨#[114,101,118,101,114,115,101]⟩)) then (gQ1f (⟨#[108]⟩:ByteArray) true).bind fun y43=>some (y43.1,y43.2) else bif (decide (name_=⟨#[115,108,105,99,101]⟩)) then (gQ1f (⟨#[108,110,110]⟩:ByteArray) true).bind fun y45=>some (y45.1,y45.2) else bif (decide (name_=⟨#[115,111,114,116]⟩)) then (gQ1f (⟨#[83]⟩:ByteArray) true).bind fun y47=>some (y47.1,y47.2) else bif (decide (name_=⟨#[115,117,109]⟩)) then (gQ1f (⟨#[78]⟩:ByteArray) true).bind fun y49=>some (y49.1,y49.2) else bif (decide (name_=⟨#[116,111,98,111,111,108]⟩)) then (gQ1f (⟨#[97]⟩:ByteArray) false).bind fun y51=>some (y51.1,y51.2) else bif (decide (name_=⟨#[116,111,110,117,109,98,101,114]⟩)) then (gQ1f (⟨#[97]⟩:ByteArray) false).bind fun y53=>some (y53.1,y53.2) else bif (decide (name_=⟨#[116,111,115,116,114,105,110,103]⟩)) then (gQ1f (⟨#[97]⟩:ByteArray) false).bind fun y55=>some (y55.1,y55.2) else bif (decide (name_=⟨#[122,105,112,109,97,112]⟩)) then (gQ1f (⟨#[83,108]⟩:ByteArray) false).bind fun y57=>some (y57.1,y57.2) else some ((SpecG.mk eS 0 0 false),false)
theorem gQ1c (hb:Base E E0 G) (he:∀w,E w->EnvV w)   (name_:ByteArray):∀r_:SpecG×Bool,gQ1b name_=some r_ ->
 Pure E E0 Tryz.prog 26 [.cell (vS name_)] (.tup [.agg [vS r_.1.kinds,vi r_.1.least,vi r_.1.most,vB r_.1.strict],.cell (vB r_.2)]):=by
 refine fnE hb Tryz.func26 rfl fun r_ hq=>?_
 refine ifE hb 16 [5,6] [] hq ?_ ?_<;>intro hq _
 refine q6 hb 3 hq (gQ1g hb he ⟨#[110]⟩ true) fun y2 _ hq=>?_
 exact retE hb 5 (injO hq).symm
 refine ifE hb 6 [10,11] [] hq ?_ ?_<;>intro hq _
 exact retE hb 7 (injO hq).symm
 refine ifE hb 6 [13,14] [] hq ?_ ?_<;>intro hq _
 exact retE hb 7 (injO hq).symm
 refine ifE hb 7 [16,17] [] hq ?_ ?_<;>intro hq _
 refine q6 hb 5 hq (gQ1g hb he ⟨#[108,97]⟩ false) fun y6 _ hq=>?_
 exact retE hb 5 (injO hq).symm
 refine ifE hb 5 [16,18] [] hq ?_ ?_<;>intro hq _
 refine q6 hb 3 hq (gQ1g hb he ⟨#[108,97]⟩ false) fun y8 _ hq=>?_
 exact retE hb 5 (injO hq).symm
 refine ifE hb 7 [22,23] [] hq ?_ ?_<;>intro hq _
 refine q6 hb 5 hq (gQ1g hb he ⟨#[108]⟩ false) fun y10 _ hq=>?_
 exact retE hb 5 (injO hq).symm
 refine ifE hb 5 [22,24] [] hq ?_ ?_<;>intro hq _
 refine q6 hb 3 hq (gQ1g hb he ⟨#[108]⟩ false) fun y12 _ hq=>?_
 exact retE hb 5 (injO hq).symm
 refine ifE hb 6 [28,29] [] hq ?_ ?_<;>intro hq _
 refine q6 hb 3 hq (gQ1g hb he ⟨#[108,110]⟩ false) fun y14 _ hq=>?_
 exact retE hb 5 (injO hq).symm
 refine ifE hb 7 [33,34] [] hq ?_ ?_<;>intro hq _
 refine q6 hb 5 hq (gQ1g hb he ⟨#[115,115]⟩ true) fun y16 _ hq=>?_
 exact retE hb 5 (injO hq).symm
 refine ifE hb 6 [33,35] [] hq ?_ ?_<;>intro hq _
 refine q6 hb 5 hq (gQ1g hb he ⟨#[115,115]⟩ true) fun y18 _ hq=>?_
 exact retE hb 5 (injO hq).symm
 refine ifE hb 5 [33,36] [] hq ?_ ?_<;>intro hq _
 refine q6 hb 3 hq (gQ1g hb he ⟨#[115,115]⟩ true) fun y20 _ hq=>?_
 exact retE hb 5 (injO hq).symm
 refine ifE hb 6 [40,41] [] hq ?_ ?_<;>intro hq _
 refine q6 hb 3 hq (gQ1g hb he ⟨#[115,83]⟩ true) fun y22 _ hq=>?_
 exact retE hb 5 (injO hq).symm
 refine ifE hb 7 [45,46] [] hq ?_ ?_<;>intro hq _
 refine q6 hb 5 hq (gQ1g hb he ⟨#[109]⟩ true) fun y24 _ hq=>?_
 exact retE hb 5 (injO hq).symm
 refine ifE hb 5 [45,47] [] hq ?_ ?_<;>intro hq _
 refine q6 hb 3 hq (gQ1g hb he ⟨#[109]⟩ true) fun y26 _ hq=>?_
 exact retE hb 5 (injO hq).symm
 refine ifE hb 6 [51,52] [] hq ?_ ?_<;>intro hq _
 refine q6 hb 3 hq (gQ1g hb he ⟨#[99]⟩ true) fun y28 _ hq=>?_
 exact retE hb 5 (injO hq).symm
 refine ifE hb 6 [56,57] [] hq ?_ ?_<;>intro hq _
 exact retE hb 7 (injO hq).symm
 refine ifE hb 7 [59,60] [] hq ?_ ?_<;>intro hq _
 refine q6 hb 5 hq (gQ1g hb he ⟨#[115]⟩ true) fun y31 _ hq=>?_
 exact retE hb 5 (injO hq).symm
 refine ifE hb 6 [59,61] [] hq ?_ ?_<;>intro hq _
 refine q6 hb 5 hq (gQ1g hb he ⟨#[115]⟩ true) fun y33 _ hq=>?_
 exact retE hb 5 (injO hq).symm
 refine ifE hb 5 [59,62] [] hq ?_ ?_<;>intro hq _
 refine q6 hb 3 hq (gQ1g hb he ⟨#[115]⟩ true) fun y35 _ hq=>?_
 exact retE hb 5 (injO hq).symm
 refine ifE hb 7 [66,67] [] hq ?_ ?_<;>intro hq _
 exact retE hb 9 (injO hq).symm
 refine ifE hb 5 [66,68] [] hq ?_ ?_<;>intro hq _
 exact retE hb 7 (injO hq).symm
 refine ifE hb 6 [70,71] [] hq ?_ ?_<;>intro hq _
 exact retE hb 7 (injO hq).symm
 refine ifE hb 6 [73,74] [] hq ?_ ?_<;>intro hq _
 exact retE hb 7 (injO hq).symm
 refine ifE hb 6 [76,77] [] hq ?_ ?_<;>intro hq _
 refine q6 hb 3 hq (gQ1g hb he ⟨#[115,115,115]⟩ true) fun y41 _ hq=>?_
 exact retE hb 5 (injO hq).symm
 refine ifE hb 6 [81,82] [] hq ?_ ?_<;>intro hq _
 refine cpE hb 2 [2] (s':=⟨none,[pk Tryz.f26 927712935932,pk Tryz.f26 927712935933],[(0,[pk Tryz.f26 7])],sl 114 [(2,pt 0)],[bx [vS eS,vi 0,vi 0,vB false]]⟩) ?_
 refine q6 hb 1 hq (gQ1g hb he ⟨#[108]⟩ true) fun y43 _ hq=>?_
 exact retE hb 5 (injO hq).symm
 refine cpE hb 2 [2,4] (s':=⟨none,[pk Tryz.f26 927712935934,pk Tryz.f26 927712935935],[(0,[pk Tryz.f26 7])],sl 114 [(2,pt 0),(4,c1 (vS name_))],[bx [vS eS,vi 0,vi 0,vB false]]⟩) ?_
 refine ifE hb 4 [86,87] [] hq ?_ ?_<;>intro hq _
 refine q6 hb 3 hq (gQ1g hb he ⟨#[108,110,110]⟩ true) fun y45 _ hq=>?_
 exact retE hb 5 (injO hq).symm
 refine ifE hb 6 [91,92] [] hq ?_ ?_<;>intro hq _
 refine q6 hb 3 hq (gQ1g hb he ⟨#[83]⟩ true) fun y47 _ hq=>?_
 exact retE hb 5 (injO hq).symm
 refine ifE hb 6 [96,97] [] hq ?_ ?_<;>intro hq _
 refine q6 hb 3 hq (gQ1g hb he ⟨#[78]⟩ true) fun y49 _ hq=>?_
 exact retE hb 5 (injO hq).symm
 refine ifE hb 7 [101,102] [] hq ?_ ?_<;>intro hq _
 refine q6 hb 5 hq (gQ1g hb he ⟨#[97]⟩ false) fun y51 _ hq=>?_
 exact retE hb 5 (injO hq).symm
 refine ifE hb 6 [101,103] [] hq ?_ ?_<;>intro hq _
 refine q6 hb 5 hq (gQ1g hb he ⟨#[97]⟩ false) fun y53 _ hq=>?_
 exact retE hb 5 (injO hq).symm
 refine ifE hb 5 [101,104] [] hq ?_ ?_<;>intro hq _
 refine q6 hb 3 hq (gQ1g hb he ⟨#[97]⟩ false) fun y55 _ hq=>?_
 exact retE hb 5 (injO hq).symm
 refine ifE hb 6 [108,109] [] hq ?_ ?_<;>intro hq _
 refine q6 hb 3 hq (gQ1g hb he ⟨#[83,108]⟩ false) fun y57 _ hq=>?_
 exact retE hb 5 (injO hq).symm
 exact retE hb 9 (injO hq).symm
def gQ1r (v_:Val) (kinds_:List Int) (s1:Int):Option ((Int)⊕(Bool)) :=
 bif (decide (s1<(kinds_.length:Int))) then (idx kinds_ s1).bind fun x2=>bif (decide (v_.kind=x2)) then some (.inr (true)) else some (.inl (IntKind.i64.wrap (s1+1))) else some (.inr (decide (v_.kind=6)))
def gQ1q  (v_:Val) (kinds_:List Int):Option (Bool) :=
 q7 (gQ1r v_ kinds_) 0
theorem gQ1s (hb:Base E E0 G) (he:∀w,E w->EnvV w)   (v_:Val) (kinds_:List Int):∀r_:Bool,gQ1q v_ kinds_=some r_ ->
 Pure E E0 Tryz.prog 50 [.agg (aV v_),.cell (vL (flI .i64) kinds_)] (c1 (vB r_)):=by
 refine fnE hb Tryz.func50 rfl fun r_ hq=>?_
 refine qd hb 13 (gQ1r v_ kinds_) (fun s1=>sl 21 [(2,pt 0),(7,c1 (vL (flI .i64) kinds_)),(8,c1 (vi (kinds_.length:Int))),(9,c1 (vi s1))]) (fun s1=>[bx (aV v_)]) [2,7,8,9] [] 1 (s0:=0) ⟨(by kernel_rfl),trivial⟩ hq (fun s1 o1 hq hn1 he1=>?_)
 refine ifE hb 5 [10] [] hq ?_ ?_<;>intro hq _
 refine idxE hb (flI .i64) 6 hq fun x2 hx2 hq=>?_
 refine ifE hb 10 [16] [] hq ?_ ?_<;>intro hq _
 exact retE hb 5 (he1 _ (injO hq))
 exact q8 hb 7 [2,7,8,9] [] 1 (hn1 _ (injO hq)) ⟨(by kernel_rfl),trivial⟩
 exact retE hb 9 (he1 _ (injO hq))
def gQ0v (v_:Val) (k_:Int) (s1:Int):Option ((Int)⊕(Bool)) :=
 bif (decide (s1<(v_.items.length:Int))) then (idx v_.items s1).bind fun x4=>(gQ1q x4 [k_]).bind fun y5=>bif (!y5) then some (.inr (false)) else some (.inl (IntKind.i64.wrap (s1+1))) else some (.inr (true))
def gQ0u  (v_:Val) (k_:Int):Option (Bool) :=
 (gQ1q v_ [4]).bind fun y1=>bif (!y1) then some (false) else q7 (gQ0v v_ k_) 0
theorem gQ0w (hb:Base E E0 G) (he:∀w,E w->EnvV w)   (v_:Val) (k_:Int):∀r_:Bool,gQ0u v_ k_=some r_ ->
 Pure E E0 Tryz.prog 51 [.agg (aV v_),.cell (vi k_)] (c1 (vB r_)):=by
 refine fnE hb Tryz.func51 rfl fun r_ hq=>?_
 have hp:=(gQ1s hb he v_ [4])
 simp only[aV,aT,kind_mk,q3i,q3l,q3e,q3f,Ty.kind_mk,Ty.elems_mk,Ty.names_mk,q3v,q3y,q3x,q3u,q3t,q3w]at hp
 refine q6 hb 10 hq hp fun y1 _ hq=>?_
 refine ifE hb 2 [10] [] hq ?_ ?_<;>intro hq _
 exact retE hb 5 (injO hq).symm
 refine qd hb 11 (gQ0v v_ k_) (fun s1=>sl 24 [(1,c1 (vi k_)),(12,c1 (vL flV v_.items)),(13,c1 (vi (v_.items.length:Int))),(14,c1 (vi s1))]) (fun s1=>[none]) [1,12,13,14] [0] 1 (s0:=0) ⟨rfl,trivial⟩ hq (fun s1 o1 hq hn1 he1=>?_)
 refine ifE hb 5 [15] [] hq ?_ ?_<;>intro hq _
 refine idxE hb flV 6 hq fun x4 hx4 hq=>?_
 have hp:=(gQ1s hb he x4 [k_])
 simp only[aV,aT,kind_mk,q3i,q3l,q3e,q3f,Ty.kind_mk,Ty.elems_mk,Ty.names_mk,q3v,q3y,q3x,q3u,q3t,q3w]at hp
 refine q6 hb 9 hq hp fun y5 _ hq=>?_
 refine ifE hb 2 [22] [] hq ?_ ?_<;>intro hq _
 exact retE hb 5 (he1 _ (injO hq))
 exact q8 hb 7 [1,12,13,14] [] 1 (hn1 _ (injO hq)) ⟨rfl,trivial⟩
 exact retE hb 6 (he1 _ (injO hq))
def gQ1d  (v_:Val) (letter_:Int):Option (Bool) :=
 bif (decide (letter_=110)) then (gQ1q v_ [2]).bind fun y2=>some (y2) else bif (decide (letter_=115)) then (gQ1q v_ [3]).bind fun y4=>some (y4) else bif (decide (letter_=108)) then (gQ1q v_ [4]).bind fun y6=>some (y6) else bif (decide (letter_=109)) then (gQ1q v_ [5]).bind fun y8=>some (y8) else bif (decide (letter_=78)) then (gQ0u v_ 2).bind fun y10=>some (y10) else bif (decide (letter_=83)) then (gQ0u v_ 3).bind fun y12=>some (y12) else bif (decide (letter_=99)) then (gQ1q v_ [3,4,5]).bind fun y14=>some (y14) else some (true)
theorem gQ1e (hb:Base E E0 G) (he:∀w,E w->EnvV w)   (v_:Val) (letter_:Int):∀r_:Bool,gQ1d v_ letter_=some r_ ->
 Pure E E0 Tryz.prog 27 [.agg (aV v_),.cell (vI .u8 letter_)] (c1 (vB r_)):=by
 refine fnE hb Tryz.func27 rfl fun r_ hq=>?_
 refine ifE hb 16 [6,7] [] hq ?_ ?_<;>intro hq _
 have hp:=(gQ1s hb he v_ [2])
 simp only[aV,aT,kind_mk,q3i,q3l,q3e,q3f,Ty.kind_mk,Ty.elems_mk,Ty.names_mk,q3v,q3y,q3x,q3u,q3t,q3w]at hp
 refine q6 hb 5 hq hp fun y2 _ hq=>?_
 exact retE hb 2 (injO hq).symm
 refine ifE hb 6 [11,12] [] hq ?_ ?_<;>intro hq _
 have hp:=(gQ1s hb he v_ [3])
 simp only[aV,aT,kind_mk,q3i,q3l,q3e,q3f,Ty.kind_mk,Ty.elems_mk,Ty.names_mk,q3v,q3y,q3x,q3u,q3t,q3w]at hp
 refine q6 hb 5 hq hp fun y4 _ hq=>?_
 exact retE hb 2 (injO hq).symm
 refine ifE hb 6 [16,17] [] hq ?_ ?_<;>intro hq _
 have hp:=(gQ1s hb he v_ [4])
 simp only[aV,aT,kind_mk,q3i,q3l,q3e,q3f,Ty.kind_mk,Ty.elems_mk,Ty.names_mk,q3v,q3y,q3x,q3u,q3t,q3w]at hp
 refine q6 hb 5 hq hp fun y6 _ hq=>?_
 exact retE hb 2 (injO hq).symm
 refine ifE hb 6 [21,22] [] hq ?_ ?_<;>intro hq _
 have hp:=(gQ1s hb he v_ [5])
 simp only[aV,aT,kind_mk,q3i,q3l,q3e,q3f,Ty.kind_mk,Ty.elems_mk,Ty.names_mk,q3v,q3y,q3x,q3u,q3t,q3w]at hp
 refine q6 hb 5 hq hp fun y8 _ hq=>?_
 exact retE hb 2 (injO hq).symm
 refine ifE hb 6 [26,27] [] hq ?_ ?_<;>intro hq _
 refine q6 hb 4 hq (gQ0w hb he v_ 2) fun y10 _ hq=>?_
 exact retE hb 2 (injO hq).symm
 refine ifE hb 6 [30,31] [] hq ?_ ?_<;>intro hq _
 refine q6 hb 4 hq (gQ0w hb he v_ 3) fun y12 _ hq=>?_
 exact retE hb 2 (injO hq).symm
 refine ifE hb 6 [34,35] [] hq ?_ ?_<;>intro hq _
 have hp:=(gQ1s hb he v_ [3,4,5])
 simp only[aV,aT,kind_mk,q3i,q3l,q3e,q3f,Ty.kind_mk,Ty.elems_mk,Ty.names_mk,q3v,q3y,q3x,q3u,q3t,q3w]at hp
 refine q6 hb 5 hq hp fun y14 _ hq=>?_
 exact retE hb 2 (injO hq).symm
 exact retE hb 7 (injO hq).symm
def gQ2q  (s_:SpecG) (i_:Int):Option (Int) :=
 (sidx s_.kinds (if (IntKind.i64.wrap ((s_.kinds.size:Int) - 1))<i_ then (IntKind.i64.wrap ((s_.kinds.size:Int) - 1)) else i_)).bind fun c1=>some (c1)
theorem gQ2r (hb:Base E E0 G) (he:∀w,E w->EnvV w)   (s_:SpecG) (i_:Int):∀r_:Int,gQ2q s_ i_=some r_ ->
 Pure E E0 Tryz.prog 28 [.agg [vS s_.kinds,vi s_.least,vi s_.most,vB s_.strict],.cell (vi i_)] (c1 (vI .u8 r_)):=by
 refine fnE hb Tryz.func28 rfl fun r_ hq=>?_
 refine q5w hb 15 hq fun c1 hc1 hq=>?_
 exact retE hb 2 (injO hq).symm
def gQ9p (r_value_Known:Val->Option (Bool)) (x_:Val):Option (Bool) :=
 (r_value_Known x_).bind fun y1=>some (!y1)
theorem gQ9q (hb:Base E E0 G) (he:∀w,E w->EnvV w) (r_value_Known:Val->Option (Bool)) (hr_value_Known:∀(a0:Val) (r:Bool),r_value_Known a0=some r->Pure E E0 Tryz.prog 15 [.agg (aV a0)] (c1 (vB r))) (x_:Val):∀r_:Bool,gQ9p r_value_Known x_=some r_ ->
 Pure E E0 Tryz.prog 40 [.agg (aV x_)] (c1 (vB r_)):=by
 refine fnE hb Tryz.func40 rfl fun r_ hq=>?_
 refine q6 hb 8 hq (hr_value_Known x_) fun y1 _ hq=>?_
 exact retE hb 3 (injO hq).symm
def gQ9v (r_value_Known_1:Val->Option (Bool)) (s_:List Val) (s1ii:Int):Option ((Int)⊕(Int)) :=
 bif (decide (s1ii<(s_.length:Int))) then (idx s_ s1ii).bind fun x2=>(r_value_Known_1 x2).bind fun y3=>bif y3 then some (.inr (s1ii)) else some (.inl (IntKind.i64.wrap (s1ii+1))) else some (.inr (-1))
def gQ9u (r_value_Known_1:Val->Option (Bool)) (s_:List Val):Option (Int) :=
 q7 (gQ9v r_value_Known_1 s_) 0
theorem gQ9w (hb:Base E E0 G) (he:∀w,E w->EnvV w) (r_value_Known_1:Val->Option (Bool)) (hr_value_Known_1:∀(a0:Val) (r:Bool),r_value_Known_1 a0=some r->Pure E E0 Tryz.prog 40 [.agg (aV a0)] (c1 (vB r))) (s_:List Val):∀r_:Int,gQ9u r_value_Known_1 s_=some r_ ->
 Pure E E0 Tryz.prog 70 [.cell (vL flV s_),.cell (.pv (.sc (.func (.func 40) #[] #[])))] (c1 (vi r_)):=by
 refine fnE hb Tryz.func70 rfl fun r_ hq=>?_
 refine qd hb 12 (gQ9v r_value_Known_1 s_) (fun s1ii=>sl 19 [(0,c1 (vL flV s_)),(1,c1 (.pv (.sc (.func (.func 40) #[] #[])))),(7,c1 (vi (s_.length:Int))),(8,c1 (vi s1ii))]) (fun s1ii=>[]) [0,1,7,8] [] 0 (s0:=0) trivial hq (fun s1ii o1 hq hn1 he1=>?_)
 refine ifE hb 5 [9] [] hq ?_ ?_<;>intro hq _
 refine idxE hb flV 14 hq fun x2 hx2 hq=>?_
 refine q6 hb 1 hq (hr_value_Known_1 x2) fun y3 _ hq=>?_
 refine ifE hb 1 [16] [] hq ?_ ?_<;>intro hq _
 exact retE hb 6 (he1 _ (injO hq))
 exact q8 hb 7 [0,1,7,8] [] 0 (hn1 _ (injO hq)) trivial
 exact retE hb 6 (he1 _ (injO hq))
def gQ9s (r_value_Known_1:Val->Option (Bool)) (s_:List Val):Option (Bool) :=
 (gQ9u r_value_Known_1 s_).bind fun y1=>some (decide (y1 >= 0))
theorem gQ9t (hb:Base E E0 G) (he:∀w,E w->EnvV w) (r_value_Known_1:Val->Option (Bool)) (hr_value_Known_1:∀(a0:Val) (r:Bool),r_value_Known_1 a0=some r->Pure E E0 Tryz.prog 40 [.agg (aV a0)] (c1 (vB r))) (s_:List Val):∀r_:Bool,gQ9s r_value_Known_1 s_=some r_ ->
 Pure E E0 Tryz.prog 39 [.cell (vL flV s_),.cell (.pv (.sc (.func (.func 40) #[] #[])))] (c1 (vB r_)):=by
 refine fnE hb Tryz.func39 rfl fun r_ hq=>?_
 refine q6 hb 8 hq (gQ9w hb he r_value_Known_1 hr_value_Known_1 s_) fun y1 _ hq=>?_
 exact retE hb 3 (injO hq).symm
def gQ9o (r_value_Known_1:Val->Option (Bool)) (v_:Val):Option (Bool) :=
 bif (!decide (v_.kind=6)) then (gQ9s r_value_Known_1 v_.items).bind fun y2=>some (!y2) else some (false)
theorem gQ9r (hb:Base E E0 G) (he:∀w,E w->EnvV w) (r_value_Known_1:Val->Option (Bool)) (hr_value_Known_1:∀(a0:Val) (r:Bool),r_value_Known_1 a0=some r->Pure E E0 Tryz.prog 40 [.agg (aV a0)] (c1 (vB r))) (v_:Val):∀r_:Bool,gQ9o r_value_Known_1 v_=some r_ ->
 Pure E E0 Tryz.prog 15 [.agg (aV v_)] (c1 (vB r_)):=by
 refine fnE hb Tryz.func15 rfl fun r_ hq=>?_
 refine ifE hb 11 [5,6] [] hq ?_ ?_<;>intro hq _
 refine q6 hb 2 hq (gQ9t hb he r_value_Known_1 hr_value_Known_1 v_.items) fun y2 _ hq=>?_
 exact retE hb 4 (injO hq).symm
 exact retE hb 7 (injO hq).symm
def tQbd (rec:Val->Unit->Option (Bool)) (a:Val) (b:Unit):Option (Bool) :=
 gQ9o (gQ9p (fun a0=>rec a0 ())) a
def tQbb (a0:Val):Option (Bool):=tieF relV wfV tQbd a0 ()
theorem tQbc (hb:Base E E0 G) (he:∀w,E w->EnvV w) (a0:Val) (r:Bool) (hq:tQbb a0=some r):Pure E E0 Tryz.prog 15 [.agg (aV a0)] (c1 (vB r)) :=
 q4b (C:=fun a b r=>Pure E E0 Tryz.prog 15 [.agg (aV a)] (c1 (vB r))) (fun rec hr a b r hq=>gQ9r hb he (gQ9p (fun a0=>rec a0 ())) (gQ9q hb he (fun a0=>rec a0 ()) (fun a0 r e=>hr a0 () r e)) a r hq) a0 () r hq
def gQ2t (s_:SpecG) (args_:List Val) (s1:Int):Option ((Int)⊕(Bool)) :=
 bif (decide (s1<(args_.length:Int))) then (idx args_ s1).bind fun x2=>bif (decide (x2.kind=6)) then some (.inr (true)) else (gQ2q s_ s1).bind fun y4=>bif (decide (y4=78)) then (tQbb x2).bind fun y6=>bif (!y6) then some (.inr (true)) else some (.inl (IntKind.i64.wrap (s1+1))) else bif (decide (y4=83)) then (tQbb x2).bind fun y9=>bif (!y9) then some (.inr (true)) else some (.inl (IntKind.i64.wrap (s1+1))) else some (.inl (IntKind.i64.wrap (s1+1))) else some (.inr (false))
def gQ2s  (s_:SpecG) (args_:List Val):Option (Bool) :=
 q7 (gQ2t s_ args_) 0
theorem gQ2u (hb:Base E E0 G) (he:∀w,E w->EnvV w)   (s_:SpecG) (args_:List Val):∀r_:Bool,gQ2s s_ args_=some r_ ->
 Pure E E0 Tryz.prog 29 [.agg [vS s_.kinds,vi s_.least,vi s_.most,vB s_.strict],.cell (vL flV args_)] (c1 (vB r_)):=by
 refine fnE hb Tryz.func29 rfl fun r_ hq=>?_
 refine qd hb 13 (gQ2t s_ args_) (fun s1=>sl 33 [(2,pt 0),(8,c1 (vL flV args_)),(9,c1 (vi (args_.length:Int))),(10,c1 (vi s1))]) (fun s1=>[bx [vS s_.kinds,vi s_.least,vi s_.most,vB s_.strict]]) [2,8,9,10] [] 1 (s0:=0) ⟨(by kernel_rfl),trivial⟩ hq (fun s1 o1 hq hn1 he1=>?_)
 refine ifE hb 5 [11] [] hq ?_ ?_<;>intro hq _
 refine idxE hb flV 7 hq fun x2 hx2 hq=>?_
 refine ifE hb 12 [17] [] hq ?_ ?_<;>intro hq _
 exact retE hb 5 (he1 _ (injO hq))
 refine q6 hb 6 hq (gQ2r hb he s_ s1) fun y4 _ hq=>?_
 refine ifE hb 7 [22,23] [] hq ?_ ?_<;>intro hq _
 refine q6 hb 5 hq (tQbc hb he x2) fun y6 _ hq=>?_
 refine ifE hb 3 [30,31] [] hq ?_ ?_<;>intro hq _
 exact retE hb 5 (he1 _ (injO hq))
 exact q8 hb 7 [2,8,9,10] [] 1 (hn1 _ (injO hq)) ⟨(by kernel_rfl),trivial⟩
 refine ifE hb 4 [25,26,27] [] hq ?_ ?_<;>intro hq _
 refine q6 hb 1 hq (tQbc hb he x2) fun y9 _ hq=>?_
 refine ifE hb 3 [30,31] [] hq ?_ ?_<;>intro hq _
 exact retE hb 5 (he1 _ (injO hq))
 exact q8 hb 7 [2,8,9,10] [] 1 (hn1 _ (injO hq)) ⟨(by kernel_rfl),trivial⟩
 exact q8 hb 12 [2,8,9,10] [] 1 (hn1 _ (injO hq)) ⟨(by kernel_rfl),trivial⟩
 exact retE hb 6 (he1 _ (injO hq))
def gQa7  :Option (Val) :=
 some (Val.mk 6 0 eS [] [])
theorem gQa8 (hb:Base E E0 G) (he:∀w,E w->EnvV w)   :∀r_:Val,gQa7=some r_ ->
 Pure E E0 Tryz.prog 30 [] (.one (.agg (aV r_))):=by
 refine fnE hb Tryz.func30 rfl fun r_ hq=>?_
 exact retE hb 9 (injO hq).symm
def gQa3  (n_:Int):Option (Val) :=
 some (Val.mk 2 n_ eS [] [])
theorem gQa4 (hb:Base E E0 G) (he:∀w,E w->EnvV w)   (n_:Int):∀r_:Val,gQa3 n_=some r_ ->
 Pure E E0 Tryz.prog 75 [.cell (vi n_)] (.one (.agg (aV r_))):=by
 refine fnE hb Tryz.func75 rfl fun r_ hq=>?_
 exact retE hb 10 (injO hq).symm
def gQ19 (sign_:Int) (x2:List Val) (s1:Int×Int×ByteArray×List Val×List ByteArray×Int):Option ((Int×Int×ByteArray×List Val×List ByteArray×Int)⊕(Val)) :=
 bif (decide (s1.2.2.2.2.2<(x2.length:Int))) then (idx x2 s1.2.2.2.2.2).bind fun x5=>bif (decide ((IntKind.i64.wrap (sign_*x5.num)) > (IntKind.i64.wrap (sign_*s1.2.1)))) then some (.inl (x5.kind,x5.num,x5.str,x5.items,x5.keys,(IntKind.i64.wrap (s1.2.2.2.2.2+1)))) else some (.inl (s1.1,s1.2.1,s1.2.2.1,s1.2.2.2.1,s1.2.2.2.2.1,(IntKind.i64.wrap (s1.2.2.2.2.2+1)))) else some (.inr (Val.mk s1.1 s1.2.1 s1.2.2.1 s1.2.2.2.1 s1.2.2.2.2.1))
def gQ18  (args_:List Val) (sign_:Int):Option (Val) :=
 (idx args_ 0).bind fun x1=>(slc args_ 1 (args_.length:Int)).bind fun x2=>q7 (gQ19 sign_ x2) (x1.kind,x1.num,x1.str,x1.items,x1.keys,0)
theorem gQ1a (hb:Base E E0 G) (he:∀w,E w->EnvV w)   (args_:List Val) (sign_:Int):∀r_:Val,gQ18 args_ sign_=some r_ ->
 Pure E E0 Tryz.prog 76 [.cell (vL flV args_),.cell (vi sign_)] (.one (.agg (aV r_))):=by
 refine fnE hb Tryz.func76 rfl fun r_ hq=>?_
 refine idxE hb flV 7 hq fun x1 hx1 hq=>?_
 refine slcE hb flV 8 hq fun x2 hx2 hq fb3=>?_
 refine qd hb 4 (gQ19 sign_ x2) (fun s1=>sl 30 [(1,c1 (vi sign_)),(4,pt 0),(5,pt 1),(12,c1 (.pv (.sl fb3 x2.length (flV.f x2)))),(13,c1 (vi (x2.length:Int))),(14,c1 (vi s1.2.2.2.2.2))]) (fun s1=>[bx zV,bx [vi s1.1,vi s1.2.1,vS s1.2.2.1,vL flV s1.2.2.2.1,vL flS s1.2.2.2.2.1]]) [1,4,5,12,13,14] [] 2 (s0:=(x1.kind,x1.num,x1.str,x1.items,x1.keys,0)) ⟨(by kernel_rfl),(by kernel_rfl),trivial⟩ hq (fun s1 o1 hq hn1 he1=>?_)
 refine ifE hb 5 [15] [] hq ?_ ?_<;>intro hq _
 refine idxE hb flV 6 hq fun x5 hx5 hq=>?_
 refine ifE hb 16 [26] [] hq ?_ ?_<;>intro hq _
 exact q8 hb 10 [1,4,5,12,13,14] [] 2 (hn1 _ (injO hq)) ⟨(by kernel_rfl),(by kernel_rfl),trivial⟩
 exact q8 hb 7 [1,4,5,12,13,14] [] 2 (hn1 _ (injO hq)) ⟨(by kernel_rfl),(by kernel_rfl),trivial⟩
 exact retE hb 7 (he1 _ (injO hq))
def gQ1y  (l_:List Val):Option (Val) :=
 some (Val.mk 4 0 eS l_ [])
theorem gQ1z (hb:Base E E0 G) (he:∀w,E w->EnvV w)   (l_:List Val):∀r_:Val,gQ1y l_=some r_ ->
 Pure E E0 Tryz.prog 91 [.cell (vL flV l_)] (.one (.agg (aV r_))):=by
 refine fnE hb Tryz.func91 rfl fun r_ hq=>?_
 exact retE hb 10 (injO hq).symm
def gQ2h (b_:Int) (s1:Int×List Val):Option ((Int×List Val)⊕(Val×Int)) :=
 bif (decide (s1.1<b_)) then (gQa3 s1.1).bind fun y3=>(app 80 s1.2 [y3]).bind fun l4=>some (.inl ((IntKind.i64.wrap (s1.1+1)),l4)) else (gQ1y s1.2).bind fun y5=>some (.inr (y5,0))
def gQ2g  (a_:Int) (b_:Int):Option (Val×Int) :=
 bif (decide ((IntKind.i64.wrap (b_-a_)) > 4096)) then some ((Val.mk 0 0 eS [] []),14) else q7 (gQ2h b_) (a_,[])
theorem gQ2i (hb:Base E E0 G) (he:∀w,E w->EnvV w)   (a_:Int) (b_:Int):∀r_:Val×Int,gQ2g a_ b_=some r_ ->
 Pure E E0 Tryz.prog 77 [.cell (vi a_),.cell (vi b_)] (.tup [.agg (aV r_.1),.cell (vi r_.2)]):=by
 refine fnE hb Tryz.func77 rfl fun r_ hq=>?_
 refine ifE hb 13 [11] [] hq ?_ ?_<;>intro hq _
 exact retE hb 7 (injO hq).symm
 refine q2f hb 13 6 5 ?_
 refine qd hb 0 (gQ2h b_) (fun s1=>sl 26 [(1,c1 (vi b_)),(4,pt 0),(6,c1 (vO flV 1 s1.2)),(7,c1 (vi s1.1))]) (fun s1=>[bx zV,some (arO true flV.sz 0 (flV.f s1.2))]) [1,4,6,7] [] 2 (s0:=(a_,[])) ⟨(by kernel_rfl),(qa _ _ _ _ _),trivial⟩ hq (fun s1 o1 hq hn1 he1=>?_)
 refine ifE hb 7 [16] [] hq ?_ ?_<;>intro hq _
 refine q6 hb 7 hq (gQa4 hb he s1.1) fun y3 _ hq=>?_
 refine qi flV hb 1 1 true 0 (flV.one y3) hq fun l4 hl4 hq=>?_
 exact q8 hb 8 [1,4,6,7] [] 2 (hn1 _ (injO hq)) ⟨(by kernel_rfl),(qa _ _ _ _ _),trivial⟩
 refine qw hb 3 1 true (sz:=flV.sz) (fr:=0) (cs:=flV.f s1.2) (by kernel_rfl) (Nat.zero_le _) ?_
 refine q3b hb 2 (vs:=[.cell (vO flV 1 s1.2)]) hq (q1i (q2j (q29 flV (b:=true) (id:=1) (fr:=(flV.f s1.2).length) (xs:=s1.2) (by kernel_rfl))) rfl) (q2r (q38 (q39 flV (nb:=true) (id:=1) (xs:=s1.2) (by kernel_rfl))) rfl) (gQ1z hb he s1.2) fun y5 _ hq=>?_
 exact retE hb 3 (he1 _ (injO hq))
def gQ3v  (n_:Int):Option (Bool) :=
 bif (decide (n_ >= (-9007199254740992))) then some (decide (n_<=9007199254740992)) else some (false)
theorem gQ3w (hb:Base E E0 G) (he:∀w,E w->EnvV w)   (n_:Int):∀r_:Bool,gQ3v n_=some r_ ->
 Pure E E0 Tryz.prog 72 [.cell (vi n_)] (c1 (vB r_)):=by
 refine fnE hb Tryz.func72 rfl fun r_ hq=>?_
 refine ifE hb 9 [4,5] [] hq ?_ ?_<;>intro hq _
 exact retE hb 5 (injO hq).symm
 exact retE hb 5 (injO hq).symm
def gQ3x  (n_:Int):Option (Int×Int) :=
 (gQ3v n_).bind fun y1=>bif (!y1) then some (0,5) else some (n_,0)
theorem gQ3y (hb:Base E E0 G) (he:∀w,E w->EnvV w)   (n_:Int):∀r_:Int×Int,gQ3x n_=some r_ ->
 Pure E E0 Tryz.prog 132 [.cell (vi n_)] (.tup [.cell (vi r_.1),.cell (vi r_.2)]):=by
 refine fnE hb Tryz.func132 rfl fun r_ hq=>?_
 refine q6 hb 9 hq (gQ3w hb he n_) fun y1 _ hq=>?_
 refine ifE hb 2 [6] [] hq ?_ ?_<;>intro hq _
 exact retE hb 6 (injO hq).symm
 exact retE hb 8 (injO hq).symm
def gQ3p  (a_:Int) (b_:Int):Option (Int×Int) :=
 (gQ3v a_).bind fun y1=>bif (!y1) then some (0,1) else (gQ3v b_).bind fun y3=>bif (!y3) then some (0,1) else (gQ3x (IntKind.i64.wrap (a_+b_))).bind fun y5=>some (y5.1,y5.2)
theorem gQ3q (hb:Base E E0 G) (he:∀w,E w->EnvV w)   (a_:Int) (b_:Int):∀r_:Int×Int,gQ3p a_ b_=some r_ ->
 Pure E E0 Tryz.prog 78 [.cell (vi a_),.cell (vi b_)] (.tup [.cell (vi r_.1),.cell (vi r_.2)]):=by
 refine fnE hb Tryz.func78 rfl fun r_ hq=>?_
 refine q6 hb 9 hq (gQ3w hb he a_) fun y1 _ hq=>?_
 refine ifE hb 2 [8,9] [] hq ?_ ?_<;>intro hq _
 exact retE hb 11 (injO hq).symm
 refine q6 hb 1 hq (gQ3w hb he b_) fun y3 _ hq=>?_
 refine ifE hb 3 [12,13] [] hq ?_ ?_<;>intro hq _
 exact retE hb 6 (injO hq).symm
 refine q6 hb 7 hq (gQ3y hb he (IntKind.i64.wrap (a_+b_))) fun y5 _ hq=>?_
 exact retE hb 5 (injO hq).symm
def gQ2k (x16:Val) (s1:Int×Int):Option ((Int×Int)⊕(Val×Int)) :=
 bif (decide (s1.1<(x16.items.length:Int))) then (idx x16.items s1.1).bind fun x18=>(gQ3p s1.2 x18.num).bind fun y19=>bif (!decide (y19.2=0)) then some (.inr ((Val.mk 0 0 eS [] []),y19.2)) else some (.inl ((IntKind.i64.wrap (s1.1+1)),y19.1)) else (gQa3 s1.2).bind fun y21=>some (.inr (y21,0))
def gQ2j  (name_:ByteArray) (args_:List Val):Option (Val×Int) :=
 bif (decide (name_=⟨#[97,98,115]⟩)) then (idx args_ 0).bind fun x2=>(idx args_ 0).bind fun x3=>(gQa3 (if (IntKind.i64.wrap (0-x3.num)) > x2.num then (IntKind.i64.wrap (0-x3.num)) else x2.num)).bind fun y4=>some (y4,0) else bif (decide (name_=⟨#[109,105,110]⟩)) then (gQ18 args_ (-1)).bind fun y6=>some (y6,0) else bif (decide (name_=⟨#[109,97,120]⟩)) then (gQ18 args_ 1).bind fun y8=>some (y8,0) else bif (decide (name_=⟨#[114,97,110,103,101]⟩)) then bif (decide ((args_.length:Int)=1)) then (idx args_ 0).bind fun x11=>(gQ2g 0 x11.num).bind fun y12=>some (y12.1,y12.2) else (idx args_ 0).bind fun x13=>(idx args_ 1).bind fun x14=>(gQ2g x13.num x14.num).bind fun y15=>some (y15.1,y15.2) else (idx args_ 0).bind fun x16=>q7 (gQ2k x16) (0,0)
theorem gQ2l (hb:Base E E0 G) (he:∀w,E w->EnvV w)   (name_:ByteArray) (args_:List Val):∀r_:Val×Int,gQ2j name_ args_=some r_ ->
 Pure E E0 Tryz.prog 52 [.cell (vS name_),.cell (vL flV args_)] (.tup [.agg (aV r_.1),.cell (vi r_.2)]):=by
 refine fnE hb Tryz.func52 rfl fun r_ hq=>?_
 refine ifE hb 30 [13,14] [] hq ?_ ?_<;>intro hq _
 refine qh hb mixed 4 9 [] ?_
 refine idxE hb flV 1 hq fun x2 hx2 hq=>?_
 refine idxE hb flV 3 hq fun x3 hx3 hq=>?_
 refine q6 hb 5 hq (gQa4 hb he (if (IntKind.i64.wrap (0-x3.num)) > x2.num then (IntKind.i64.wrap (0-x3.num)) else x2.num)) fun y4 _ hq=>?_
 exact retE hb 3 (injO hq).symm
 refine ifE hb 8 [15,16] [] hq ?_ ?_<;>intro hq _
 refine q6 hb 11 hq (gQ1a hb he args_ (-1)) fun y6 _ hq=>?_
 exact retE hb 3 (injO hq).symm
 refine ifE hb 8 [17,18] [] hq ?_ ?_<;>intro hq _
 refine q6 hb 7 hq (gQ1a hb he args_ 1) fun y8 _ hq=>?_
 exact retE hb 3 (injO hq).symm
 refine ifE hb 7 [19,20] [] hq ?_ ?_<;>intro hq _
 refine ifE hb 10 [37] [] hq ?_ ?_<;>intro hq _
 refine idxE hb flV 4 hq fun x11 hx11 hq=>?_
 refine q6 hb 2 hq (gQ2i hb he 0 x11.num) fun y12 _ hq=>?_
 exact retE hb 5 (injO hq).symm
 refine qh hb mixed 3 10 [9] ?_
 refine idxE hb flV 1 hq fun x13 hx13 hq=>?_
 refine idxE hb flV 3 hq fun x14 hx14 hq=>?_
 refine q6 hb 2 hq (gQ2i hb he x13.num x14.num) fun y15 _ hq=>?_
 exact retE hb 6 (injO hq).symm
 refine idxE hb flV 11 hq fun x16 hx16 hq=>?_
 refine cpE hb 6 [4,7,59,60,61] (s':=⟨none,[pk Tryz.f52 250],[(5,[pk Tryz.f52 63])],sl 80 [(4,pt 0),(7,c1 (vi 0)),(59,c1 (vL flV x16.items)),(60,c1 (vi (x16.items.length:Int))),(61,c1 (vi 0))],[bx zV]⟩) ?_
 refine qd hb 0 (gQ2k x16) (fun s1=>sl 80 [(4,pt 0),(7,c1 (vi s1.2)),(59,c1 (vL flV x16.items)),(60,c1 (vi (x16.items.length:Int))),(61,c1 (vi s1.1))]) (fun s1=>[bx zV]) [4,7,59,60,61] [] 1 (s0:=(0,0)) ⟨(by kernel_rfl),trivial⟩ hq (fun s1 o1 hq hn1 he1=>?_)
 refine ifE hb 5 [62] [] hq ?_ ?_<;>intro hq _
 refine idxE hb flV 6 hq fun x18 hx18 hq=>?_
 refine q6 hb 9 hq (gQ3q hb he s1.2 x18.num) fun y19 _ hq=>?_
 refine ifE hb 12 [73] [] hq ?_ ?_<;>intro hq _
 exact retE hb 8 (he1 _ (injO hq))
 exact q8 hb 11 [4,7,59,60,61] [] 1 (hn1 _ (injO hq)) ⟨(by kernel_rfl),trivial⟩
 refine q6 hb 5 hq (gQa4 hb he s1.2) fun y21 _ hq=>?_
 exact retE hb 3 (he1 _ (injO hq))
def gQ9f  (b_:Bool):Option (Val) :=
 bif b_ then some (Val.mk 1 1 eS [] []) else some (Val.mk 1 0 eS [] [])
theorem gQ9g (hb:Base E E0 G) (he:∀w,E w->EnvV w)   (b_:Bool):∀r_:Val,gQ9f b_=some r_ ->
 Pure E E0 Tryz.prog 79 [.cell (vB b_)] (.one (.agg (aV r_))):=by
 refine fnE hb Tryz.func79 rfl fun r_ hq=>?_
 refine ifE hb 15 [0,5] [] hq ?_ ?_<;>intro hq _
 exact retE hb 10 (injO hq).symm
 exact retE hb 7 (injO hq).symm
def gQ9b  (s_:ByteArray) (suffix_:ByteArray):Option (Bool) :=
 bif (decide ((s_.size:Int) >= (suffix_.size:Int))) then (sslc s_ (IntKind.i64.wrap ((s_.size:Int)-(suffix_.size:Int))) (s_.size:Int)).bind fun x2=>some (decide (x2=suffix_)) else some (false)
theorem gQ9c (hb:Base E E0 G) (he:∀w,E w->EnvV w)   (s_:ByteArray) (suffix_:ByteArray):∀r_:Bool,gQ9b s_ suffix_=some r_ ->
 Pure E E0 Tryz.prog 133 [.cell (vS s_),.cell (vS suffix_)] (c1 (vB r_)):=by
 refine fnE hb Tryz.func133 rfl fun r_ hq=>?_
 refine ifE hb 12 [9,10] [] hq ?_ ?_<;>intro hq _
 refine q4x hb 6 hq fun x2 hx2 hq=>?_
 exact retE hb 5 (injO hq).symm
 exact retE hb 12 (injO hq).symm
def gQ97  (s_:ByteArray) (suffix_:ByteArray):Option (Bool) :=
 (gQ9b s_ suffix_).bind fun y1=>some (y1)
theorem gQ98 (hb:Base E E0 G) (he:∀w,E w->EnvV w)   (s_:ByteArray) (suffix_:ByteArray):∀r_:Bool,gQ97 s_ suffix_=some r_ ->
 Pure E E0 Tryz.prog 80 [.cell (vS s_),.cell (vS suffix_)] (c1 (vB r_)):=by
 refine fnE hb Tryz.func80 rfl fun r_ hq=>?_
 refine q6 hb 8 hq (gQ9c hb he s_ suffix_) fun y1 _ hq=>?_
 exact retE hb 2 (injO hq).symm
def gQ99  (s_:ByteArray) (prefix_:ByteArray):Option (Bool) :=
 bif (decide ((s_.size:Int) >= (prefix_.size:Int))) then (sslc s_ 0 (prefix_.size:Int)).bind fun x2=>some (decide (x2=prefix_)) else some (false)
theorem gQ9a (hb:Base E E0 G) (he:∀w,E w->EnvV w)   (s_:ByteArray) (prefix_:ByteArray):∀r_:Bool,gQ99 s_ prefix_=some r_ ->
 Pure E E0 Tryz.prog 134 [.cell (vS s_),.cell (vS prefix_)] (c1 (vB r_)):=by
 refine fnE hb Tryz.func134 rfl fun r_ hq=>?_
 refine ifE hb 12 [9,10] [] hq ?_ ?_<;>intro hq _
 refine q4x hb 3 hq fun x2 hx2 hq=>?_
 exact retE hb 5 (injO hq).symm
 exact retE hb 9 (injO hq).symm
def gQ95  (s_:ByteArray) (prefix_:ByteArray):Option (Bool) :=
 (gQ99 s_ prefix_).bind fun y1=>some (y1)
theorem gQ96 (hb:Base E E0 G) (he:∀w,E w->EnvV w)   (s_:ByteArray) (prefix_:ByteArray):∀r_:Bool,gQ95 s_ prefix_=some r_ ->
 Pure E E0 Tryz.prog 81 [.cell (vS s_),.cell (vS prefix_)] (c1 (vB r_)):=by
 refine fnE hb Tryz.func81 rfl fun r_ hq=>?_
 refine q6 hb 8 hq (gQ9a hb he s_ prefix_) fun y1 _ hq=>?_
 exact retE hb 2 (injO hq).symm
def gQa5  (s_:ByteArray):Option (Val) :=
 some (Val.mk 3 0 s_ [] [])
theorem gQa6 (hb:Base E E0 G) (he:∀w,E w->EnvV w)   (s_:ByteArray):∀r_:Val,gQa5 s_=some r_ ->
 Pure E E0 Tryz.prog 82 [.cell (vS s_)] (.one (.agg (aV r_))):=by
 refine fnE hb Tryz.func82 rfl fun r_ hq=>?_
 exact retE hb 10 (injO hq).symm
def gQ1u (s_:ByteArray) (l_:List Val) (s1:Int×List ByteArray):Option ((Int×List ByteArray)⊕(ByteArray)) :=
 bif (decide (s1.1<(l_.length:Int))) then (idx l_ s1.1).bind fun x2=>(app 16 s1.2 [x2.str]).bind fun l3=>some (.inl ((IntKind.i64.wrap (s1.1+1)),l3)) else (qeo s1.2 s_).bind fun y4=>some (.inr (y4))
def gQ1t  (s_:ByteArray) (l_:List Val):Option (ByteArray) :=
 q7 (gQ1u s_ l_) (0,[])
theorem gQ1v (hb:Base E E0 G) (he:∀w,E w->EnvV w)   (s_:ByteArray) (l_:List Val):∀r_:ByteArray,gQ1t s_ l_=some r_ ->
 Pure E E0 Tryz.prog 83 [.cell (vS s_),.cell (vL flV l_)] (c1 (vS r_)):=by
 refine fnE hb Tryz.func83 rfl fun r_ hq=>?_
 refine q2f hb 16 5 1 ?_
 refine qd hb 0 (gQ1u s_ l_) (fun s1=>sl 23 [(0,c1 (vS s_)),(5,c1 (vO flS 0 s1.2)),(8,c1 (vL flV l_)),(9,c1 (vi (l_.length:Int))),(10,c1 (vi s1.1))]) (fun s1=>[some (arO true flS.sz 0 (flS.f s1.2))]) [0,5,8,9,10] [] 1 (s0:=(0,[])) ⟨(qa _ _ _ _ _),trivial⟩ hq (fun s1 o1 hq hn1 he1=>?_)
 refine ifE hb 5 [11] [] hq ?_ ?_<;>intro hq _
 refine idxE hb flV 6 hq fun x2 hx2 hq=>?_
 refine qi flS hb 9 0 true 0 (flS.one x2.str) hq fun l3 hl3 hq=>?_
 exact q8 hb 7 [0,5,8,9,10] [] 1 (hn1 _ (injO hq)) ⟨(qa _ _ _ _ _),trivial⟩
 refine q94 hb 6 (vs:=[.cell (vO flS 0 s1.2),.cell (vS s_)]) hq (q1i (q2j (q29 flS (b:=true) (id:=0) (fr:=0) (xs:=s1.2) (by kernel_rfl))) (q1i (by kernel_rfl) rfl)) (fun _=>rfl) (join_g hb he s1.2 s_) fun y4 _ hq=>?_
 exact retE hb 2 (he1 _ (injO hq))
def gQ2m  (s_:ByteArray) (a_:ByteArray) (b_:ByteArray):Option (Val×Int) :=
 bif (decide (a_=eS)) then some ((Val.mk 0 0 eS [] []),1) else (qep s_ a_ b_).bind fun y2=>bif (decide ((y2.size:Int) > 4096)) then some ((Val.mk 0 0 eS [] []),3) else (gQa5 y2).bind fun y4=>some (y4,0)
theorem gQ2n (hb:Base E E0 G) (he:∀w,E w->EnvV w)   (s_:ByteArray) (a_:ByteArray) (b_:ByteArray):∀r_:Val×Int,gQ2m s_ a_ b_=some r_ ->
 Pure E E0 Tryz.prog 85 [.cell (vS s_),.cell (vS a_),.cell (vS b_)] (.tup [.agg (aV r_.1),.cell (vi r_.2)]):=by
 refine fnE hb Tryz.func85 rfl fun r_ hq=>?_
 refine ifE hb 11 [10] [] hq ?_ ?_<;>intro hq _
 exact retE hb 7 (injO hq).symm
 refine q6 hb 7 hq (qww hb he s_ a_ b_) fun y2 _ hq=>?_
 refine ifE hb 9 [18] [] hq ?_ ?_<;>intro hq _
 exact retE hb 7 (injO hq).symm
 refine q6 hb 5 hq (gQa6 hb he y2) fun y4 _ hq=>?_
 exact retE hb 3 (injO hq).symm
def gQ2w (y2:List ByteArray) (s1:Int×List Val):Option ((Int×List Val)⊕(Val×Int)) :=
 bif (decide (s1.1<(y2.length:Int))) then (idx y2 s1.1).bind fun x4=>(gQa5 x4).bind fun y5=>(app 80 s1.2 [y5]).bind fun l6=>some (.inl ((IntKind.i64.wrap (s1.1+1)),l6)) else (gQ1y s1.2).bind fun y7=>some (.inr (y7,0))
def gQ2v  (s_:ByteArray) (t_:ByteArray):Option (Val×Int) :=
 bif (decide (s_=eS)) then some ((Val.mk 0 0 eS [] []),1) else (qet t_ s_).bind fun y2=>q7 (gQ2w y2) (0,[])
theorem gQ2x (hb:Base E E0 G) (he:∀w,E w->EnvV w)   (s_:ByteArray) (t_:ByteArray):∀r_:Val×Int,gQ2v s_ t_=some r_ ->
 Pure E E0 Tryz.prog 86 [.cell (vS s_),.cell (vS t_)] (.tup [.agg (aV r_.1),.cell (vi r_.2)]):=by
 refine fnE hb Tryz.func86 rfl fun r_ hq=>?_
 refine ifE hb 11 [10] [] hq ?_ ?_<;>intro hq _
 exact retE hb 7 (injO hq).symm
 refine q6 hb 11 hq (qz6 hb he t_ s_) fun y2 _ hq=>?_
 refine q2f hb 4 6 5 ?_
 refine qd hb 0 (gQ2w y2) (fun s1=>sl 28 [(4,pt 0),(6,c1 (vO flV 1 s1.2)),(14,c1 (vL flS y2)),(15,c1 (vi (y2.length:Int))),(16,c1 (vi s1.1))]) (fun s1=>[bx zV,some (arO true flV.sz 0 (flV.f s1.2))]) [4,6,14,15,16] [] 2 (s0:=(0,[])) ⟨(by kernel_rfl),(qa _ _ _ _ _),trivial⟩ hq (fun s1 o1 hq hn1 he1=>?_)
 refine ifE hb 5 [17] [] hq ?_ ?_<;>intro hq _
 refine idxE hb flS 6 hq fun x4 hx4 hq=>?_
 refine q6 hb 6 hq (gQa6 hb he x4) fun y5 _ hq=>?_
 refine qi flV hb 1 1 true 0 (flV.one y5) hq fun l6 hl6 hq=>?_
 exact q8 hb 7 [4,6,14,15,16] [] 2 (hn1 _ (injO hq)) ⟨(by kernel_rfl),(qa _ _ _ _ _),trivial⟩
 refine qw hb 3 1 true (sz:=flV.sz) (fr:=0) (cs:=flV.f s1.2) (by kernel_rfl) (Nat.zero_le _) ?_
 refine q3b hb 2 (vs:=[.cell (vO flV 1 s1.2)]) hq (q1i (q2j (q29 flV (b:=true) (id:=1) (fr:=(flV.f s1.2).length) (xs:=s1.2) (by kernel_rfl))) rfl) (q2r (q38 (q39 flV (nb:=true) (id:=1) (xs:=s1.2) (by kernel_rfl))) rfl) (gQ1z hb he s1.2) fun y7 _ hq=>?_
 exact retE hb 3 (he1 _ (injO hq))
def gQ2y  (name_:ByteArray) (args_:List Val):Option (Val×Int) :=
 (idx args_ 0).bind fun x1=>bif (decide (name_=⟨#[101,110,100,115,119,105,116,104]⟩)) then (idx args_ 1).bind fun x3=>(gQ97 x1.str x3.str).bind fun y4=>(gQ9f y4).bind fun y5=>some (y5,0) else bif (decide (name_=⟨#[115,116,97,114,116,115,119,105,116,104]⟩)) then (idx args_ 1).bind fun x7=>(gQ95 x1.str x7.str).bind fun y8=>(gQ9f y8).bind fun y9=>some (y9,0) else bif (decide (name_=⟨#[106,111,105,110]⟩)) then (idx args_ 1).bind fun x11=>(gQ1t x1.str x11.items).bind fun y12=>(gQa5 y12).bind fun y13=>some (y13,0) else bif (decide (name_=⟨#[108,111,119,101,114]⟩)) then (q9j x1.str 65 90 32).bind fun y15=>(gQa5 y15).bind fun y16=>some (y16,0) else bif (decide (name_=⟨#[117,112,112,101,114]⟩)) then (q9j x1.str 97 122 (-32)).bind fun y18=>(gQa5 y18).bind fun y19=>some (y19,0) else bif (decide (name_=⟨#[114,101,112,108,97,99,101]⟩)) then (idx args_ 1).bind fun x21=>(idx args_ 2).bind fun x22=>(gQ2m x1.str x21.str x22.str).bind fun y23=>some (y23.1,y23.2) else bif (decide (name_=⟨#[115,112,108,105,116]⟩)) then (idx args_ 1).bind fun x25=>(gQ2v x1.str x25.str).bind fun y26=>some (y26.1,y26.2) else (qbp x1.str (⟨#[32,9,10,13]⟩:ByteArray)).bind fun y27=>(gQa5 y27).bind fun y28=>some (y28,0)
theorem gQ2z (hb:Base E E0 G) (he:∀w,E w->EnvV w)   (name_:ByteArray) (args_:List Val):∀r_:Val×Int,gQ2y name_ args_=some r_ ->
 Pure E E0 Tryz.prog 53 [.cell (vS name_),.cell (vL flV args_)] (.tup [.agg (aV r_.1),.cell (vi r_.2)]):=by
 refine fnE hb Tryz.func53 rfl fun r_ hq=>?_
 refine idxE hb flV 8 hq fun x1 hx1 hq=>?_
 refine ifE hb 15 [12,13] [] hq ?_ ?_<;>intro hq _
 refine idxE hb flV 5 hq fun x3 hx3 hq=>?_
 refine q6 hb 2 hq (gQ98 hb he x1.str x3.str) fun y4 _ hq=>?_
 refine q6 hb 0 hq (gQ9g hb he y4) fun y5 _ hq=>?_
 exact retE hb 3 (injO hq).symm
 refine ifE hb 6 [21,22] [] hq ?_ ?_<;>intro hq _
 refine idxE hb flV 5 hq fun x7 hx7 hq=>?_
 refine q6 hb 2 hq (gQ96 hb he x1.str x7.str) fun y8 _ hq=>?_
 refine q6 hb 0 hq (gQ9g hb he y8) fun y9 _ hq=>?_
 exact retE hb 3 (injO hq).symm
 refine ifE hb 6 [30,31] [] hq ?_ ?_<;>intro hq _
 refine idxE hb flV 5 hq fun x11 hx11 hq=>?_
 refine q6 hb 2 hq (gQ1v hb he x1.str x11.items) fun y12 _ hq=>?_
 refine q6 hb 0 hq (gQa6 hb he y12) fun y13 _ hq=>?_
 exact retE hb 3 (injO hq).symm
 refine ifE hb 6 [39,40] [] hq ?_ ?_<;>intro hq _
 refine q6 hb 4 hq (qh6 hb he x1.str 65 90 32) fun y15 _ hq=>?_
 refine q6 hb 0 hq (gQa6 hb he y15) fun y16 _ hq=>?_
 exact retE hb 3 (injO hq).symm
 refine ifE hb 6 [44,45] [] hq ?_ ?_<;>intro hq _
 refine q6 hb 4 hq (qh6 hb he x1.str 97 122 (-32)) fun y18 _ hq=>?_
 refine q6 hb 0 hq (gQa6 hb he y18) fun y19 _ hq=>?_
 exact retE hb 3 (injO hq).symm
 refine ifE hb 6 [49,50] [] hq ?_ ?_<;>intro hq _
 refine qh hb mixed 2 11 [10] ?_
 refine idxE hb flV 2 hq fun x21 hx21 hq=>?_
 refine idxE hb flV 3 hq fun x22 hx22 hq=>?_
 refine q6 hb 2 hq (gQ2n hb he x1.str x21.str x22.str) fun y23 _ hq=>?_
 exact retE hb 6 (injO hq).symm
 refine ifE hb 6 [63,64] [] hq ?_ ?_<;>intro hq _
 refine idxE hb flV 5 hq fun x25 hx25 hq=>?_
 refine q6 hb 2 hq (gQ2x hb he x1.str x25.str) fun y26 _ hq=>?_
 exact retE hb 5 (injO hq).symm
 refine q6 hb 6 hq (trim_g hb he x1.str (⟨#[32,9,10,13]⟩:ByteArray)) fun y27 _ hq=>?_
 refine q6 hb 0 hq (gQa6 hb he y27) fun y28 _ hq=>?_
 exact retE hb 3 (injO hq).symm
def gQ8y (s1_:List ByteArray) (s2_:List ByteArray) (s1:Int):Option ((Int)⊕(Bool)) :=
 bif (decide (s1<(s1_.length:Int))) then (idx s1_ s1).bind fun x3=>(idx s2_ s1).bind fun x4=>bif (!decide (x3=x4)) then some (.inr (false)) else some (.inl (IntKind.i64.wrap (s1+1))) else some (.inr (true))
def gQ8x  (s1_:List ByteArray) (s2_:List ByteArray):Option (Bool) :=
 bif (!decide ((s1_.length:Int)=(s2_.length:Int))) then some (false) else q7 (gQ8y s1_ s2_) 0
theorem gQ8z (hb:Base E E0 G) (he:∀w,E w->EnvV w)   (s1_:List ByteArray) (s2_:List ByteArray):∀r_:Bool,gQ8x s1_ s2_=some r_ ->
 Pure E E0 Tryz.prog 45 [.cell (vL flS s1_),.cell (vL flS s2_)] (c1 (vB r_)):=by
 refine fnE hb Tryz.func45 rfl fun r_ hq=>?_
 refine ifE hb 13 [10] [] hq ?_ ?_<;>intro hq _
 exact retE hb 5 (injO hq).symm
 refine qd hb 10 (gQ8y s1_ s2_) (fun s1=>sl 26 [(0,c1 (vL flS s1_)),(1,c1 (vL flS s2_)),(12,c1 (vi (s1_.length:Int))),(13,c1 (vi s1))]) (fun s1=>[]) [0,1,12,13] [] 0 (s0:=0) trivial hq (fun s1 o1 hq hn1 he1=>?_)
 refine ifE hb 5 [14] [] hq ?_ ?_<;>intro hq _
 refine qh hb mixed 10 8 [] ?_
 refine idxE hb flS 2 hq fun x3 hx3 hq=>?_
 refine idxE hb flS 3 hq fun x4 hx4 hq=>?_
 refine ifE hb 4 [24] [] hq ?_ ?_<;>intro hq _
 exact retE hb 5 (he1 _ (injO hq))
 exact q8 hb 7 [0,1,12,13] [] 0 (hn1 _ (injO hq)) trivial
 exact retE hb 6 (he1 _ (injO hq))
def gQ9k (r_value_Equal:Val->Val->Option (Bool)) (s1_:List Val) (s2_:List Val) (s1i:Int):Option ((Int)⊕(Bool)) :=
 bif (decide (s1i<(s1_.length:Int))) then (idx s1_ s1i).bind fun x3=>(idx s2_ s1i).bind fun x4=>(r_value_Equal x3 x4).bind fun y5=>bif (!y5) then some (.inr (false)) else some (.inl (IntKind.i64.wrap (s1i+1))) else some (.inr (true))
def gQ9j (r_value_Equal:Val->Val->Option (Bool)) (s1_:List Val) (s2_:List Val):Option (Bool) :=
 bif (!decide ((s1_.length:Int)=(s2_.length:Int))) then some (false) else q7 (gQ9k r_value_Equal s1_ s2_) 0
theorem gQ9l (hb:Base E E0 G) (he:∀w,E w->EnvV w) (r_value_Equal:Val->Val->Option (Bool)) (hr_value_Equal:∀(a0:Val) (a1:Val) (r:Bool),r_value_Equal a0 a1=some r->Pure E E0 Tryz.prog 180 [.agg (aV a0),.agg (aV a1)] (c1 (vB r))) (s1_:List Val) (s2_:List Val):∀r_:Bool,gQ9j r_value_Equal s1_ s2_=some r_ ->
 Pure E E0 Tryz.prog 46 [.cell (vL flV s1_),.cell (vL flV s2_),.cell (.pv (.sc (.func (.func 180) #[] #[])))] (c1 (vB r_)):=by
 refine fnE hb Tryz.func46 rfl fun r_ hq=>?_
 refine ifE hb 13 [14] [] hq ?_ ?_<;>intro hq _
 exact retE hb 5 (injO hq).symm
 refine qd hb 10 (gQ9k r_value_Equal s1_ s2_) (fun s1i=>sl 32 [(1,c1 (vL flV s2_)),(2,c1 (.pv (.sc (.func (.func 180) #[] #[])))),(15,c1 (vL flV s1_)),(16,c1 (vi (s1_.length:Int))),(17,c1 (vi s1i))]) (fun s1i=>[]) [1,2,15,16,17] [] 0 (s0:=0) trivial hq (fun s1i o1 hq hn1 he1=>?_)
 refine ifE hb 5 [18] [] hq ?_ ?_<;>intro hq _
 refine idxE hb flV 7 hq fun x3 hx3 hq=>?_
 refine idxE hb flV 9 hq fun x4 hx4 hq=>?_
 refine q6 hb 9 hq (hr_value_Equal x3 x4) fun y5 _ hq=>?_
 refine ifE hb 2 [30] [] hq ?_ ?_<;>intro hq _
 exact retE hb 5 (he1 _ (injO hq))
 exact q8 hb 7 [1,2,15,16,17] [] 0 (hn1 _ (injO hq)) trivial
 exact retE hb 6 (he1 _ (injO hq))
def gQ9h (r_value_Equal:Val->Val->Option (Bool)) (a_:Val) (b_:Val):Option (Bool) :=
 bif (decide (a_.kind=b_.kind)) then bif (decide (a_.num=b_.num)) then bif (decide (a_.str=b_.str)) then (gQ8x a_.keys b_.keys).bind fun y4=>bif y4 then (gQ9j r_value_Equal a_.items b_.items).bind fun y6=>some (y6) else some (false) else some (false) else some (false) else some (false)
theorem gQ9i (hb:Base E E0 G) (he:∀w,E w->EnvV w) (r_value_Equal:Val->Val->Option (Bool)) (hr_value_Equal:∀(a0:Val) (a1:Val) (r:Bool),r_value_Equal a0 a1=some r->Pure E E0 Tryz.prog 180 [.agg (aV a0),.agg (aV a1)] (c1 (vB r))) (a_:Val) (b_:Val):∀r_:Bool,gQ9h r_value_Equal a_ b_=some r_ ->
 Pure E E0 Tryz.prog 180 [.agg (aV a_),.agg (aV b_)] (c1 (vB r_)):=by
 refine fnE hb Tryz.func180 rfl fun r_ hq=>?_
 refine ifE hb 14 [9,10] [] hq ?_ ?_<;>intro hq _
 refine ifE hb 7 [15,16,17] [] hq ?_ ?_<;>intro hq _
 refine ifE hb 7 [22,23,24] [] hq ?_ ?_<;>intro hq _
 refine q6 hb 4 hq (gQ8z hb he a_.keys b_.keys) fun y4 _ hq=>?_
 refine ifE hb 2 [29,30,31] [] hq ?_ ?_<;>intro hq _
 refine q6 hb 4 hq (gQ9l hb he r_value_Equal hr_value_Equal a_.items b_.items) fun y6 _ hq=>?_
 exact retE hb 3 (injO hq).symm
 exact retE hb 8 (injO hq).symm
 exact retE hb 15 (injO hq).symm
 exact retE hb 22 (injO hq).symm
 exact retE hb 29 (injO hq).symm
def tQba (rec:Val->Val->Option (Bool)) (a:Val) (b:Val):Option (Bool) :=
 gQ9h (fun a0 a1=>rec a0 a1) a b
def tQb8 (a0:Val) (a1:Val):Option (Bool):=tieF relV wfV tQba a0 a1
theorem tQb9 (hb:Base E E0 G) (he:∀w,E w->EnvV w) (a0:Val) (a1:Val) (r:Bool) (hq:tQb8 a0 a1=some r):Pure E E0 Tryz.prog 180 [.agg (aV a0),.agg (aV a1)] (c1 (vB r)) :=
 q4b (C:=fun a b r=>Pure E E0 Tryz.prog 180 [.agg (aV a),.agg (aV b)] (c1 (vB r))) (fun rec hr a b r hq=>gQ9i hb he (fun a0 a1=>rec a0 a1) (fun a0 a1 r e=>hr a0 a1 r e) a b r hq) a0 a1 r hq
def gQ0s  (a_:Val) (b_:Val):Option (Bool) :=
 (tQb8 a_ b_).bind fun y1=>bif y1 then (tQbb a_).bind fun y3=>some (y3) else some (false)
theorem gQ0t (hb:Base E E0 G) (he:∀w,E w->EnvV w)   (a_:Val) (b_:Val):∀r_:Bool,gQ0s a_ b_=some r_ ->
 Pure E E0 Tryz.prog 145 [.agg (aV a_),.agg (aV b_)] (c1 (vB r_)):=by
 refine fnE hb Tryz.func145 rfl fun r_ hq=>?_
 refine q6 hb 10 hq (tQb9 hb he a_ b_) fun y1 _ hq=>?_
 refine ifE hb 1 [7,8] [] hq ?_ ?_<;>intro hq _
 refine q6 hb 1 hq (tQbc hb he a_) fun y3 _ hq=>?_
 exact retE hb 3 (injO hq).symm
 exact retE hb 5 (injO hq).symm
def gQ31 (r_funcs_unlike:Val->Val->Option (Bool)) (a_:Val) (b_:Val) (s1:Int):Option ((Int)⊕(Bool)) :=
 bif (decide (s1<(a_.items.length:Int))) then (idx a_.items s1).bind fun x10=>(idx b_.items s1).bind fun x11=>(r_funcs_unlike x10 x11).bind fun y12=>bif y12 then some (.inr (true)) else some (.inl (IntKind.i64.wrap (s1+1))) else some (.inr (false))
def gQ30 (r_funcs_unlike:Val->Val->Option (Bool)) (a_:Val) (b_:Val):Option (Bool) :=
 bif (decide (a_.kind=6)) then some (false) else bif (decide (b_.kind=6)) then some (false) else bif (!decide (a_.kind=b_.kind)) then some (true) else bif (!decide (a_.num=b_.num)) then some (true) else bif (!decide (a_.str=b_.str)) then some (true) else bif (!decide ((a_.items.length:Int)=(b_.items.length:Int))) then some (true) else (gQ8x a_.keys b_.keys).bind fun y7=>bif (!y7) then some (true) else q7 (gQ31 r_funcs_unlike a_ b_) 0
theorem gQ32 (hb:Base E E0 G) (he:∀w,E w->EnvV w) (r_funcs_unlike:Val->Val->Option (Bool)) (hr_funcs_unlike:∀(a0:Val) (a1:Val) (r:Bool),r_funcs_unlike a0 a1=some r->Pure E E0 Tryz.prog 146 [.agg (aV a0),.agg (aV a1)] (c1 (vB r))) (a_:Val) (b_:Val):∀r_:Bool,gQ30 r_funcs_unlike a_ b_=some r_ ->
 Pure E E0 Tryz.prog 146 [.agg (aV a_),.agg (aV b_)] (c1 (vB r_)):=by
 refine fnE hb Tryz.func146 rfl fun r_ hq=>?_
 refine ifE hb 13 [8,9] [] hq ?_ ?_<;>intro hq _
 exact retE hb 10 (injO hq).symm
 refine ifE hb 5 [12,13] [] hq ?_ ?_<;>intro hq _
 exact retE hb 5 (injO hq).symm
 refine ifE hb 11 [18,19] [] hq ?_ ?_<;>intro hq _
 exact retE hb 36 (injO hq).symm
 refine ifE hb 7 [24,25,26] [] hq ?_ ?_<;>intro hq _
 exact retE hb 29 (injO hq).symm
 refine ifE hb 7 [31,32,33] [] hq ?_ ?_<;>intro hq _
 exact retE hb 22 (injO hq).symm
 refine ifE hb 9 [40,41,42] [] hq ?_ ?_<;>intro hq _
 exact retE hb 13 (injO hq).symm
 refine q6 hb 4 hq (gQ8z hb he a_.keys b_.keys) fun y7 _ hq=>?_
 refine ifE hb 3 [48,49] [] hq ?_ ?_<;>intro hq _
 exact retE hb 5 (injO hq).symm
 refine cpE hb 11 [2,3,52,53] (s':=⟨none,[pk Tryz.f146 122],[(0,[pk Tryz.f146 31])],sl 68 [(2,pt 0),(3,pt 1),(52,c1 (vi (a_.items.length:Int))),(53,c1 (vi 0))],[bx (aV a_),bx (aV b_)]⟩) ?_
 refine qd hb 0 (gQ31 r_funcs_unlike a_ b_) (fun s1=>sl 68 [(2,pt 0),(3,pt 1),(52,c1 (vi (a_.items.length:Int))),(53,c1 (vi s1))]) (fun s1=>[bx (aV a_),bx (aV b_)]) [2,3,52,53] [] 2 (s0:=0) ⟨(by kernel_rfl),(by kernel_rfl),trivial⟩ hq (fun s1 o1 hq hn1 he1=>?_)
 refine ifE hb 5 [54] [] hq ?_ ?_<;>intro hq _
 refine qh hb mixed 10 10 [] ?_
 refine idxE hb flV 3 hq fun x10 hx10 hq=>?_
 refine idxE hb flV 4 hq fun x11 hx11 hq=>?_
 refine q6 hb 2 hq (hr_funcs_unlike x10 x11) fun y12 _ hq=>?_
 refine ifE hb 1 [66] [] hq ?_ ?_<;>intro hq _
 exact retE hb 5 (he1 _ (injO hq))
 exact q8 hb 7 [2,3,52,53] [] 2 (hn1 _ (injO hq)) ⟨(by kernel_rfl),(by kernel_rfl),trivial⟩
 exact retE hb 6 (he1 _ (injO hq))
def tQam (rec:Val->Val->Option (Bool)) (a:Val) (b:Val):Option (Bool) :=
 gQ30 (fun a0 a1=>rec a0 a1) a b
def tQak (a0:Val) (a1:Val):Option (Bool):=tieF relV wfV tQam a0 a1
theorem tQal (hb:Base E E0 G) (he:∀w,E w->EnvV w) (a0:Val) (a1:Val) (r:Bool) (hq:tQak a0 a1=some r):Pure E E0 Tryz.prog 146 [.agg (aV a0),.agg (aV a1)] (c1 (vB r)) :=
 q4b (C:=fun a b r=>Pure E E0 Tryz.prog 146 [.agg (aV a),.agg (aV b)] (c1 (vB r))) (fun rec hr a b r hq=>gQ32 hb he (fun a0 a1=>rec a0 a1) (fun a0 a1 r e=>hr a0 a1 r e) a b r hq) a0 a1 r hq
def gQ10 (l_:List Val) (v_:Val) (s1:Int×Bool):Option ((Int×Bool)⊕(Val)) :=
 bif (decide (s1.1<(l_.length:Int))) then (idx l_ s1.1).bind fun x2=>(gQ0s x2 v_).bind fun y3=>bif y3 then (gQ9f true).bind fun y5=>some (.inr (y5)) else bif s1.2 then (tQak x2 v_).bind fun y7=>some (.inl ((IntKind.i64.wrap (s1.1+1)),y7)) else some (.inl ((IntKind.i64.wrap (s1.1+1)),false)) else bif (!s1.2) then (gQa7).bind fun y9=>some (.inr (y9)) else (gQ9f false).bind fun y10=>some (.inr (y10))
def gQ0z  (l_:List Val) (v_:Val):Option (Val) :=
 q7 (gQ10 l_ v_) (0,true)
theorem gQ11 (hb:Base E E0 G) (he:∀w,E w->EnvV w)   (l_:List Val) (v_:Val):∀r_:Val,gQ0z l_ v_=some r_ ->
 Pure E E0 Tryz.prog 88 [.cell (vL flV l_),.agg (aV v_)] (.one (.agg (aV r_))):=by
 refine fnE hb Tryz.func88 rfl fun r_ hq=>?_
 refine qd hb 17 (gQ10 l_ v_) (fun s1=>sl 29 [(3,pt 0),(4,pt 1),(5,c1 (vB s1.2)),(8,c1 (vL flV l_)),(9,c1 (vi (l_.length:Int))),(10,c1 (vi s1.1))]) (fun s1=>[bx (aV v_),bx zV]) [3,4,5,8,9,10] [] 2 (s0:=(0,true)) ⟨(by kernel_rfl),(by kernel_rfl),trivial⟩ hq (fun s1 o1 hq hn1 he1=>?_)
 refine ifE hb 5 [11] [] hq ?_ ?_<;>intro hq _
 refine idxE hb flV 6 hq fun x2 hx2 hq=>?_
 refine q6 hb 9 hq (gQ0t hb he x2 v_) fun y3 _ hq=>?_
 refine ifE hb 1 [16] [] hq ?_ ?_<;>intro hq _
 refine q6 hb 3 hq (gQ9g hb he true) fun y5 _ hq=>?_
 exact retE hb 2 (he1 _ (injO hq))
 refine ifE hb 5 [5,18,19] [] hq ?_ ?_<;>intro hq _
 refine q6 hb 2 hq (tQal hb he x2 v_) fun y7 _ hq=>?_
 exact q8 hb 8 [3,4,5,8,9,10] [] 2 (hn1 _ (injO hq)) ⟨(by kernel_rfl),(by kernel_rfl),trivial⟩
 exact q8 hb 11 [3,4,5,8,9,10] [] 2 (hn1 _ (injO hq)) ⟨(by kernel_rfl),(by kernel_rfl),trivial⟩
 refine ifE hb 8 [26] [] hq ?_ ?_<;>intro hq _
 refine q6 hb 3 hq (gQa8 hb he ) fun y9 _ hq=>?_
 exact retE hb 2 (he1 _ (injO hq))
 refine q6 hb 4 hq (gQ9g hb he false) fun y10 _ hq=>?_
 exact retE hb 2 (he1 _ (injO hq))
def gQ14 (x2:Val) (x3:List Val) (s1:Int×List Val) (s2:Int×Bool):Option ((Int×Bool)⊕((Int×List Val)⊕(Val))) :=
 bif (decide (s2.1<(x3.length:Int))) then (idx x3 s2.1).bind fun x6=>(gQ0s x2 x6).bind fun y7=>bif (!y7) then (tQak x2 x6).bind fun y9=>bif (!y9) then (gQa7).bind fun y11=>some (.inr (.inr (y11))) else bif s2.2 then some (.inl ((IntKind.i64.wrap (s2.1+1)),(!y7))) else some (.inl ((IntKind.i64.wrap (s2.1+1)),false)) else bif s2.2 then some (.inl ((IntKind.i64.wrap (s2.1+1)),(!y7))) else some (.inl ((IntKind.i64.wrap (s2.1+1)),false)) else bif s2.2 then (app 80 s1.2 [x2]).bind fun l15=>some (.inr (.inl ((IntKind.i64.wrap (s1.1+1)),l15))) else some (.inr (.inl ((IntKind.i64.wrap (s1.1+1)),s1.2)))
def gQ13 (l_:List Val) (s1:Int×List Val):Option ((Int×List Val)⊕(Val)) :=
 bif (decide (s1.1<(l_.length:Int))) then (idx l_ s1.1).bind fun x2=>(slc l_ 0 s1.1).bind fun x3=>q7 (gQ14 x2 x3 s1) (0,true) else (gQ1y s1.2).bind fun y16=>some (.inr (y16))
def gQ12  (l_:List Val):Option (Val) :=
 q7 (gQ13 l_) (0,[])
theorem gQ15 (hb:Base E E0 G) (he:∀w,E w->EnvV w)   (l_:List Val):∀r_:Val,gQ12 l_=some r_ ->
 Pure E E0 Tryz.prog 89 [.cell (vL flV l_)] (.one (.agg (aV r_))):=by
 refine fnE hb Tryz.func89 rfl fun r_ hq=>?_
 refine q2f hb 16 3 5 ?_
 refine qd hb 0 (gQ13 l_) (fun s1=>sl 51 [(0,c1 (vL flV l_)),(2,pt 0),(3,c1 (vO flV 1 s1.2)),(10,c1 (vL flV l_)),(11,c1 (vi (l_.length:Int))),(12,c1 (vi s1.1))]) (fun s1=>[bx zV,some (arO true flV.sz 0 (flV.f s1.2))]) [0,2,3,10,11,12] [] 2 (s0:=(0,[])) ⟨(by kernel_rfl),(qa _ _ _ _ _),trivial⟩ hq (fun s1 o1 hq hn1 he1=>?_)
 refine ifE hb 5 [13] [] hq ?_ ?_<;>intro hq _
 refine idxE hb flV 7 hq fun x2 hx2 hq=>?_
 refine slcE hb flV 14 hq fun x3 hx3 hq fb4=>?_
 refine cpE hb 4 [0,2,3,5,6,10,11,12,19,20,21] (s':=⟨none,[pk Tryz.f89 59802],[(2,[pk Tryz.f89 14951]),(1,[pk Tryz.f89 935,pk Tryz.f89 58]),(0,[pk Tryz.f89 15])],sl 51 [(0,c1 (vL flV l_)),(2,pt 0),(3,c1 (vO flV 1 s1.2)),(5,pt 2),(6,c1 (vB true)),(10,c1 (vL flV l_)),(11,c1 (vi (l_.length:Int))),(12,c1 (vi s1.1)),(19,c1 (.pv (.sl fb4 x3.length (flV.f x3)))),(20,c1 (vi (x3.length:Int))),(21,c1 (vi 0))],[bx zV,some (arO true flV.sz 0 (flV.f s1.2)),bx (aV x2)]⟩) ?_
 refine qd hb 0 (gQ14 x2 x3 s1) (fun s2=>sl 51 [(0,c1 (vL flV l_)),(2,pt 0),(3,c1 (vO flV 1 s1.2)),(5,pt 2),(6,c1 (vB s2.2)),(10,c1 (vL flV l_)),(11,c1 (vi (l_.length:Int))),(12,c1 (vi s1.1)),(19,c1 (.pv (.sl fb4 x3.length (flV.f x3)))),(20,c1 (vi (x3.length:Int))),(21,c1 (vi s2.1))]) (fun s2=>[bx zV,some (arO true flV.sz 0 (flV.f s1.2)),bx (aV x2)]) [0,2,3,5,6,10,11,12,19,20,21] [] 3 (s0:=(0,true)) ⟨(by kernel_rfl),(qa _ _ _ _ _),(by kernel_rfl),trivial⟩ hq (fun s2 o2 hq hn2 he2=>?_)
 refine ifE hb 5 [22] [] hq ?_ ?_<;>intro hq _
 refine idxE hb flV 6 hq fun x6 hx6 hq=>?_
 refine q6 hb 8 hq (gQ0t hb he x2 x6) fun y7 _ hq=>?_
 refine ifE hb 8 [29,30] [] hq ?_ ?_<;>intro hq _
 refine q6 hb 2 hq (tQal hb he x2 x6) fun y9 _ hq=>?_
 refine ifE hb 3 [34,35] [] hq ?_ ?_<;>intro hq _
 refine q6 hb 3 hq (gQa8 hb he ) fun y11 _ hq=>?_
 exact retE hb 2 (he1 _ ((he2 _ (injO hq)).symm))
 refine ifE hb 5 [6,37,38] [] hq ?_ ?_<;>intro hq _
 exact q8 hb 10 [0,2,3,5,6,10,11,12,19,20,21] [] 3 (hn2 _ (injO hq)) ⟨(by kernel_rfl),(qa _ _ _ _ _),(by kernel_rfl),trivial⟩
 exact q8 hb 10 [0,2,3,5,6,10,11,12,19,20,21] [] 3 (hn2 _ (injO hq)) ⟨(by kernel_rfl),(qa _ _ _ _ _),(by kernel_rfl),trivial⟩
 refine ifE hb 11 [6,37,38] [] hq ?_ ?_<;>intro hq _
 exact q8 hb 10 [0,2,3,5,6,10,11,12,19,20,21] [] 3 (hn2 _ (injO hq)) ⟨(by kernel_rfl),(qa _ _ _ _ _),(by kernel_rfl),trivial⟩
 exact q8 hb 10 [0,2,3,5,6,10,11,12,19,20,21] [] 3 (hn2 _ (injO hq)) ⟨(by kernel_rfl),(qa _ _ _ _ _),(by kernel_rfl),trivial⟩
 refine ifE hb 6 [6,43] [] hq ?_ ?_<;>intro hq _
 refine qi flV hb 5 1 true 0 (flV.one x2) hq fun l15 hl15 hq=>?_
 exact q8 hb 7 [0,2,3,10,11,12] [] 2 (hn1 _ ((he2 _ (injO hq)).symm)) ⟨(by kernel_rfl),(qa _ _ _ _ _),trivial⟩
 exact q8 hb 7 [0,2,3,10,11,12] [] 2 (hn1 _ ((he2 _ (injO hq)).symm)) ⟨(by kernel_rfl),(qa _ _ _ _ _),trivial⟩
 refine qw hb 3 1 true (sz:=flV.sz) (fr:=0) (cs:=flV.f s1.2) (by kernel_rfl) (Nat.zero_le _) ?_
 refine q3b hb 2 (vs:=[.cell (vO flV 1 s1.2)]) hq (q1i (q2j (q29 flV (b:=true) (id:=1) (fr:=(flV.f s1.2).length) (xs:=s1.2) (by kernel_rfl))) rfl) (q2r (q38 (q39 flV (nb:=true) (id:=1) (xs:=s1.2) (by kernel_rfl))) rfl) (gQ1z hb he s1.2) fun y16 _ hq=>?_
 exact retE hb 2 (he1 _ (injO hq))
def gQ1i (r_funcs_flat:List Val->Option (List Val×Bool)) (l_:List Val) (s1:Int×List Val):Option ((Int×List Val)⊕(List Val×Bool)) :=
 bif (decide (s1.1<(l_.length:Int))) then (idx l_ s1.1).bind fun x2=>bif (decide (x2.kind=6)) then some (.inr ([],false)) else bif (decide (x2.kind=4)) then (r_funcs_flat x2.items).bind fun y5=>bif (!y5.2) then some (.inr ([],false)) else (app 80 s1.2 y5.1).bind fun l7=>some (.inl ((IntKind.i64.wrap (s1.1+1)),l7)) else (app 80 s1.2 [x2]).bind fun l8=>some (.inl ((IntKind.i64.wrap (s1.1+1)),l8)) else some (.inr (s1.2,true))
def gQ1h (r_funcs_flat:List Val->Option (List Val×Bool)) (l_:List Val):Option (List Val×Bool) :=
 q7 (gQ1i r_funcs_flat l_) (0,[])
theorem gQ1j (hb:Base E E0 G) (he:∀w,E w->EnvV w) (r_funcs_flat:List Val->Option (List Val×Bool)) (hr_funcs_flat:∀(a0:List Val) (r:List Val×Bool),r_funcs_flat a0=some r->Pure E E0 Tryz.prog 90 [.cell (vL flV a0)] (.tup [.cell (vL flV r.1),.cell (vB r.2)])) (l_:List Val):∀r_:List Val×Bool,gQ1h r_funcs_flat l_=some r_ ->
 Pure E E0 Tryz.prog 90 [.cell (vL flV l_)] (.tup [.cell (vL flV r_.1),.cell (vB r_.2)]):=by
 refine fnE hb Tryz.func90 rfl fun r_ hq=>?_
 refine q2f hb 17 4 5 ?_
 refine qd hb 0 (gQ1i r_funcs_flat l_) (fun s1=>sl 38 [(4,c1 (vO flV 0 s1.2)),(9,c1 (vL flV l_)),(10,c1 (vi (l_.length:Int))),(11,c1 (vi s1.1))]) (fun s1=>[some (arO true flV.sz 0 (flV.f s1.2))]) [4,9,10,11] [] 1 (s0:=(0,[])) ⟨(qa _ _ _ _ _),trivial⟩ hq (fun s1 o1 hq hn1 he1=>?_)
 refine ifE hb 5 [12] [] hq ?_ ?_<;>intro hq _
 refine idxE hb flV 6 hq fun x2 hx2 hq=>?_
 refine ifE hb 15 [21,22] [] hq ?_ ?_<;>intro hq _
 exact retE hb 6 (he1 _ (injO hq))
 refine ifE hb 6 [23,24] [] hq ?_ ?_<;>intro hq _
 refine q6 hb 5 hq (hr_funcs_flat x2.items) fun y5 _ hq=>?_
 refine ifE hb 12 [32] [] hq ?_ ?_<;>intro hq _
 exact retE hb 6 (he1 _ (injO hq))
 refine qi flV hb 5 0 true 0 rfl hq fun l7 hl7 hq=>?_
 exact q8 hb 8 [4,9,10,11] [] 1 (hn1 _ (injO hq)) ⟨(qa _ _ _ _ _),trivial⟩
 refine qi flV hb 5 0 true 0 (flV.one x2) hq fun l8 hl8 hq=>?_
 exact q8 hb 8 [4,9,10,11] [] 1 (hn1 _ (injO hq)) ⟨(qa _ _ _ _ _),trivial⟩
 refine qw hb 8 0 true (sz:=flV.sz) (fr:=0) (cs:=flV.f s1.2) (by kernel_rfl) (Nat.zero_le _) ?_
 refine q3c hb 0 2 (c:=vO flV 0 s1.2) (q1g flV (nb:=true) (id:=0) (xs:=s1.2) (by kernel_rfl)) ?_
 exact retE hb 0 (he1 _ (injO hq))
def tQaj (rec:List Val->Unit->Option (List Val×Bool)) (a:List Val) (b:Unit):Option (List Val×Bool) :=
 gQ1h (fun a0=>rec a0 ()) a
def tQah (a0:List Val):Option (List Val×Bool):=tieF q6i wfVL tQaj a0 ()
theorem tQai (hb:Base E E0 G) (he:∀w,E w->EnvV w) (a0:List Val) (r:List Val×Bool) (hq:tQah a0=some r):Pure E E0 Tryz.prog 90 [.cell (vL flV a0)] (.tup [.cell (vL flV r.1),.cell (vB r.2)]) :=
 q4b (C:=fun a b r=>Pure E E0 Tryz.prog 90 [.cell (vL flV a)] (.tup [.cell (vL flV r.1),.cell (vB r.2)])) (fun rec hr a b r hq=>gQ1j hb he (fun a0=>rec a0 ()) (fun a0 r e=>hr a0 () r e) a r hq) a0 () r hq
def gQ1l (l_:List Val) (v_:Val) (s1:Int):Option ((Int)⊕(Int×Bool)) :=
 bif (decide (s1<(l_.length:Int))) then (idx l_ s1).bind fun x2=>(gQ0s x2 v_).bind fun y3=>bif y3 then some (.inr (s1,true)) else (tQak x2 v_).bind fun y5=>bif (!y5) then some (.inr (s1,false)) else some (.inl (IntKind.i64.wrap (s1+1))) else some (.inr ((-1),true))
def gQ1k  (l_:List Val) (v_:Val):Option (Int×Bool) :=
 q7 (gQ1l l_ v_) 0
theorem gQ1m (hb:Base E E0 G) (he:∀w,E w->EnvV w)   (l_:List Val) (v_:Val):∀r_:Int×Bool,gQ1k l_ v_=some r_ ->
 Pure E E0 Tryz.prog 92 [.cell (vL flV l_),.agg (aV v_)] (.tup [.cell (vi r_.1),.cell (vB r_.2)]):=by
 refine fnE hb Tryz.func92 rfl fun r_ hq=>?_
 refine qd hb 14 (gQ1l l_ v_) (fun s1=>sl 25 [(3,pt 0),(8,c1 (vL flV l_)),(9,c1 (vi (l_.length:Int))),(10,c1 (vi s1))]) (fun s1=>[bx (aV v_)]) [3,8,9,10] [] 1 (s0:=0) ⟨(by kernel_rfl),trivial⟩ hq (fun s1 o1 hq hn1 he1=>?_)
 refine ifE hb 5 [11] [] hq ?_ ?_<;>intro hq _
 refine idxE hb flV 7 hq fun x2 hx2 hq=>?_
 refine q6 hb 10 hq (gQ0t hb he x2 v_) fun y3 _ hq=>?_
 refine ifE hb 1 [17] [] hq ?_ ?_<;>intro hq _
 exact retE hb 7 (he1 _ (injO hq))
 refine q6 hb 6 hq (tQal hb he x2 v_) fun y5 _ hq=>?_
 refine ifE hb 2 [22] [] hq ?_ ?_<;>intro hq _
 exact retE hb 7 (he1 _ (injO hq))
 exact q8 hb 7 [3,8,9,10] [] 1 (hn1 _ (injO hq)) ⟨(by kernel_rfl),trivial⟩
 exact retE hb 7 (he1 _ (injO hq))
def gQ2o  (name_:ByteArray) (args_:List Val):Option (Val×Int) :=
 (idx args_ 0).bind fun x1=>bif (decide (x1.kind=6)) then some (x1,0) else bif (decide (name_=⟨#[99,111,110,116,97,105,110,115]⟩)) then (idx args_ 1).bind fun x4=>(gQ0z x1.items x4).bind fun y5=>some (y5,0) else bif (decide (name_=⟨#[100,105,115,116,105,110,99,116]⟩)) then (gQ12 x1.items).bind fun y7=>some (y7,0) else bif (decide (name_=⟨#[102,108,97,116,116,101,110]⟩)) then (tQah x1.items).bind fun y9=>bif (!y9.2) then (gQa7).bind fun y11=>some (y11,0) else (gQ1y y9.1).bind fun y12=>some (y12,0) else (idx args_ 1).bind fun x13=>(gQ1k x1.items x13).bind fun y14=>bif (!y14.2) then (gQa7).bind fun y16=>some (y16,0) else bif (decide (y14.1<0)) then some ((Val.mk 0 0 eS [] []),16) else (gQa3 y14.1).bind fun y18=>some (y18,0)
theorem gQ2p (hb:Base E E0 G) (he:∀w,E w->EnvV w)   (name_:ByteArray) (args_:List Val):∀r_:Val×Int,gQ2o name_ args_=some r_ ->
 Pure E E0 Tryz.prog 54 [.cell (vS name_),.cell (vL flV args_)] (.tup [.agg (aV r_.1),.cell (vi r_.2)]):=by
 refine fnE hb Tryz.func54 rfl fun r_ hq=>?_
 refine idxE hb flV 8 hq fun x1 hx1 hq=>?_
 refine ifE hb 11 [16] [] hq ?_ ?_<;>intro hq _
 exact retE hb 7 (injO hq).symm
 refine ifE hb 13 [19,20] [] hq ?_ ?_<;>intro hq _
 refine qh hb mixed 2 5 [] ?_
 refine idxE hb flV 3 hq fun x4 hx4 hq=>?_
 refine q6 hb 2 hq (gQ11 hb he x1.items x4) fun y5 _ hq=>?_
 exact retE hb 3 (injO hq).symm
 refine ifE hb 6 [27,28] [] hq ?_ ?_<;>intro hq _
 refine q6 hb 5 hq (gQ15 hb he x1.items) fun y7 _ hq=>?_
 exact retE hb 3 (injO hq).symm
 refine ifE hb 6 [32,33] [] hq ?_ ?_<;>intro hq _
 refine q6 hb 5 hq (tQai hb he x1.items) fun y9 _ hq=>?_
 refine ifE hb 12 [41] [] hq ?_ ?_<;>intro hq _
 refine q6 hb 3 hq (gQa8 hb he ) fun y11 _ hq=>?_
 exact retE hb 3 (injO hq).symm
 refine q6 hb 5 hq (gQ1z hb he y9.1) fun y12 _ hq=>?_
 exact retE hb 3 (injO hq).symm
 refine qh hb mixed 4 9 [8] ?_
 refine idxE hb flV 3 hq fun x13 hx13 hq=>?_
 refine q6 hb 1 hq (gQ1m hb he x1.items x13) fun y14 _ hq=>?_
 refine ifE hb 15 [54,56] [] hq ?_ ?_<;>intro hq _
 refine q6 hb 3 hq (gQa8 hb he ) fun y16 _ hq=>?_
 exact retE hb 3 (injO hq).symm
 refine ifE hb 7 [58,60] [] hq ?_ ?_<;>intro hq _
 exact retE hb 7 (injO hq).symm
 refine q6 hb 6 hq (gQa4 hb he y14.1) fun y18 _ hq=>?_
 exact retE hb 3 (injO hq).symm
def gQac (r_value_copied:Val->Option (Val)) (l_:List Val) (s1:Int×List Val):Option ((Int×List Val)⊕(List Val)) :=
 bif (decide (s1.1<(l_.length:Int))) then (idx l_ s1.1).bind fun x4=>(r_value_copied x4).bind fun y5=>(app 80 s1.2 [y5]).bind fun l6=>some (.inl ((IntKind.i64.wrap (s1.1+1)),l6)) else some (.inr (s1.2))
def gQab (r_value_copied:Val->Option (Val)) (l_:List Val):Option (List Val) :=
 bif (decide ((l_.length:Int)=0)) then some ([]) else (mkc 80 (l_.length:Int)).bind fun u2=>q7 (gQac r_value_copied l_) (0,[])
theorem gQad (hb:Base E E0 G) (he:∀w,E w->EnvV w) (r_value_copied:Val->Option (Val)) (hr_value_copied:∀(a0:Val) (r:Val),r_value_copied a0=some r->Pure E E0 Tryz.prog 152 [.agg (aV a0)] (.one (.agg (aV r)))) (l_:List Val):∀r_:List Val,gQab r_value_copied l_=some r_ ->
 Pure E E0 Tryz.prog 185 [.cell (vL flV l_)] (c1 (vL flV r_)):=by
 refine fnE hb Tryz.func185 rfl fun r_ hq=>?_
 refine ifE hb 11 [8] [] hq ?_ ?_<;>intro hq _
 exact retE hb 5 (injO hq).symm
 refine mk0E flV hb 6 hq fun u2 hu2 hq=>?_
 refine qd hb 10 (gQac r_value_copied l_) (fun s1=>sl 25 [(3,c1 (vO flV 0 s1.2)),(12,c1 (vL flV l_)),(13,c1 (vi (l_.length:Int))),(14,c1 (vi s1.1))]) (fun s1=>[some (arO false flV.sz 0 (flV.f s1.2))]) [3,12,13,14] [] 1 (s0:=(0,[])) ⟨(qa _ _ _ _ _),trivial⟩ hq (fun s1 o1 hq hn1 he1=>?_)
 refine ifE hb 5 [15] [] hq ?_ ?_<;>intro hq _
 refine idxE hb flV 6 hq fun x4 hx4 hq=>?_
 refine q6 hb 7 hq (hr_value_copied x4) fun y5 _ hq=>?_
 refine qi flV hb 1 0 false 0 (flV.one y5) hq fun l6 hl6 hq=>?_
 exact q8 hb 7 [3,12,13,14] [] 1 (hn1 _ (injO hq)) ⟨(qa _ _ _ _ _),trivial⟩
 refine qw hb 7 0 false (sz:=flV.sz) (fr:=0) (cs:=flV.f s1.2) (by kernel_rfl) (Nat.zero_le _) ?_
 refine q3c hb 0 2 (c:=vO flV 0 s1.2) (q1g flV (nb:=false) (id:=0) (xs:=s1.2) (by kernel_rfl)) ?_
 exact retE hb 0 (he1 _ (injO hq))
def gQa9 (r_value_copies:List Val->Option (List Val)) (v_:Val):Option (Val) :=
 (clone 16 v_.keys).bind fun y1=>(r_value_copies v_.items).bind fun y2=>some (Val.mk v_.kind v_.num v_.str y2 y1)
theorem gQaa (hb:Base E E0 G) (he:∀w,E w->EnvV w) (r_value_copies:List Val->Option (List Val)) (hr_value_copies:∀(a0:List Val) (r:List Val),r_value_copies a0=some r->Pure E E0 Tryz.prog 185 [.cell (vL flV a0)] (c1 (vL flV r))) (v_:Val):∀r_:Val,gQa9 r_value_copies v_=some r_ ->
 Pure E E0 Tryz.prog 152 [.agg (aV v_)] (.one (.agg (aV r_))):=by
 refine fnE hb Tryz.func152 rfl fun r_ hq=>?_
 refine q6 hb 9 hq (qde hb he v_.keys) fun y1 _ hq=>?_
 refine q6 hb 7 hq (hr_value_copies v_.items) fun y2 _ hq=>?_
 exact retE hb 8 (injO hq).symm
def tQbg (rec:Val->Unit->Option (Val)) (a:Val) (b:Unit):Option (Val) :=
 gQa9 (gQab (fun a0=>rec a0 ())) a
def tQbe (a0:Val):Option (Val):=tieF relV wfV tQbg a0 ()
theorem tQbf (hb:Base E E0 G) (he:∀w,E w->EnvV w) (a0:Val) (r:Val) (hq:tQbe a0=some r):Pure E E0 Tryz.prog 152 [.agg (aV a0)] (.one (.agg (aV r))) :=
 q4b (C:=fun a b r=>Pure E E0 Tryz.prog 152 [.agg (aV a)] (.one (.agg (aV r)))) (fun rec hr a b r hq=>gQaa hb he (gQab (fun a0=>rec a0 ())) (gQad hb he (fun a0=>rec a0 ()) (fun a0 r e=>hr a0 () r e)) a r hq) a0 () r hq
def gQ02  (x_:ByteArray):Option (Bool) :=
 some (!decide (x_=x_))
theorem gQ03 (hb:Base E E0 G) (he:∀w,E w->EnvV w)   (x_:ByteArray):∀r_:Bool,gQ02 x_=some r_ ->
 Pure E E0 Tryz.prog 249 [.cell (vS x_)] (c1 (vB r_)):=by
 refine fnE hb Tryz.func249 rfl fun r_ hq=>?_
 exact retE hb 11 (injO hq).symm
def gQ00  (x_:ByteArray) (y_:ByteArray):Option (Bool) :=
 (gQ02 x_).bind fun y1=>bif y1 then (gQ02 y_).bind fun y3=>bif (!y3) then some (true) else some (Op.bytesLess x_.toList y_.toList) else some (Op.bytesLess x_.toList y_.toList)
theorem gQ01 (hb:Base E E0 G) (he:∀w,E w->EnvV w)   (x_:ByteArray) (y_:ByteArray):∀r_:Bool,gQ00 x_ y_=some r_ ->
 Pure E E0 Tryz.prog 221 [.cell (vS x_),.cell (vS y_)] (c1 (vB r_)):=by
 refine fnE hb Tryz.func221 rfl fun r_ hq=>?_
 refine q6 hb 7 hq (gQ03 hb he x_) fun y1 _ hq=>?_
 refine ifE hb 1 [6,7] [] hq ?_ ?_<;>intro hq _
 refine q6 hb 1 hq (gQ03 hb he y_) fun y3 _ hq=>?_
 refine ifE hb 3 [10,11,12] [] hq ?_ ?_<;>intro hq _
 exact retE hb 6 (injO hq).symm
 exact retE hb 6 (injO hq).symm
 exact retE hb 11 (injO hq).symm
def gQ93  (x_:ByteArray):Option (Bool) :=
 some (!decide (x_=x_))
theorem gQ94 (hb:Base E E0 G) (he:∀w,E w->EnvV w)   (x_:ByteArray):∀r_:Bool,gQ93 x_=some r_ ->
 Pure E E0 Tryz.prog 222 [.cell (vS x_)] (c1 (vB r_)):=by
 refine fnE hb Tryz.func222 rfl fun r_ hq=>?_
 exact retE hb 11 (injO hq).symm
def gQ8t (x_:List ByteArray) (target_:ByteArray) (s1:Int×Int):Option ((Int×Int)⊕(Int×Bool)) :=
 bif (decide (s1.1<s1.2)) then (idx x_ (IntKind.i64.wrap (Int.fdiv (IntKind.u64.wrap (IntKind.i64.wrap (s1.1+s1.2))) (2 ^ (min (1:Int).toNat IntKind.u64.bits))))).bind fun x2=>(gQ00 x2 target_).bind fun y3=>bif y3 then some (.inl ((IntKind.i64.wrap ((IntKind.i64.wrap (Int.fdiv (IntKind.u64.wrap (IntKind.i64.wrap (s1.1+s1.2))) (2 ^ (min (1:Int).toNat IntKind.u64.bits))))+1)),s1.2)) else some (.inl (s1.1,(IntKind.i64.wrap (Int.fdiv (IntKind.u64.wrap (IntKind.i64.wrap (s1.1+s1.2))) (2 ^ (min (1:Int).toNat IntKind.u64.bits)))))) else bif (decide (s1.1<(x_.length:Int))) then (idx x_ s1.1).bind fun x6=>bif (decide (x6=target_)) then some (.inr (s1.1,true)) else (idx x_ s1.1).bind fun x8=>(gQ93 x8).bind fun y9=>bif y9 then (gQ93 target_).bind fun y11=>some (.inr (s1.1,y11)) else some (.inr (s1.1,false)) else some (.inr (s1.1,false))
def gQ8s  (x_:List ByteArray) (target_:ByteArray):Option (Int×Bool) :=
 q7 (gQ8t x_ target_) (0,(x_.length:Int))
theorem gQ8u (hb:Base E E0 G) (he:∀w,E w->EnvV w)   (x_:List ByteArray) (target_:ByteArray):∀r_:Int×Bool,gQ8s x_ target_=some r_ ->
 Pure E E0 Tryz.prog 181 [.cell (vL flS x_),.cell (vS target_)] (.tup [.cell (vi r_.1),.cell (vB r_.2)]):=by
 refine fnE hb Tryz.func181 rfl fun r_ hq=>?_
 refine qd hb 19 (gQ8t x_ target_) (fun s1=>sl 54 [(0,c1 (vL flS x_)),(1,c1 (vS target_)),(6,c1 (vi (x_.length:Int))),(7,c1 (vi s1.1)),(8,c1 (vi s1.2))]) (fun s1=>[]) [0,1,6,7,8] [] 0 (s0:=(0,(x_.length:Int))) trivial hq (fun s1 o1 hq hn1 he1=>?_)
 refine ifE hb 7 [15] [] hq ?_ ?_<;>intro hq _
 refine idxE hb flS 17 hq fun x2 hx2 hq=>?_
 refine q6 hb 2 hq (gQ01 hb he x2 target_) fun y3 _ hq=>?_
 refine ifE hb 1 [27] [] hq ?_ ?_<;>intro hq _
 exact q8 hb 7 [0,1,6,7,8] [] 0 (hn1 _ (injO hq)) trivial
 exact q8 hb 6 [0,1,6,7,8] [] 0 (hn1 _ (injO hq)) trivial
 refine ifE hb 9 [34,35] [] hq ?_ ?_<;>intro hq _
 refine idxE hb flS 2 hq fun x6 hx6 hq=>?_
 refine ifE hb 4 [41,42] [] hq ?_ ?_<;>intro hq _
 exact retE hb 14 (he1 _ (injO hq))
 refine idxE hb flS 2 hq fun x8 hx8 hq=>?_
 refine q6 hb 1 hq (gQ94 hb he x8) fun y9 _ hq=>?_
 refine ifE hb 1 [47,48] [] hq ?_ ?_<;>intro hq _
 refine q6 hb 1 hq (gQ94 hb he target_) fun y11 _ hq=>?_
 exact retE hb 6 (he1 _ (injO hq))
 exact retE hb 8 (he1 _ (injO hq))
 exact retE hb 21 (he1 _ (injO hq))
def gQ9m  (v_:Val) (key_:ByteArray):Option (Val×Bool) :=
 (gQ8s v_.keys key_).bind fun y1=>bif (!decide (v_.kind=5)) then some ((Val.mk 0 0 eS [] []),false) else bif (!y1.2) then some ((Val.mk 0 0 eS [] []),false) else bif (decide (y1.1 >= (v_.items.length:Int))) then some ((Val.mk 0 0 eS [] []),false) else (idx v_.items y1.1).bind fun x5=>(tQbe x5).bind fun y6=>some (y6,true)
theorem gQ9n (hb:Base E E0 G) (he:∀w,E w->EnvV w)   (v_:Val) (key_:ByteArray):∀r_:Val×Bool,gQ9m v_ key_=some r_ ->
 Pure E E0 Tryz.prog 147 [.agg (aV v_),.cell (vS key_)] (.tup [.agg (aV r_.1),.cell (vB r_.2)]):=by
 refine fnE hb Tryz.func147 rfl fun r_ hq=>?_
 refine q6 hb 11 hq (gQ8u hb he v_.keys key_) fun y1 _ hq=>?_
 refine ifE hb 13 [17,18] [] hq ?_ ?_<;>intro hq _
 exact retE hb 18 (injO hq).symm
 refine ifE hb 4 [20,21,22] [] hq ?_ ?_<;>intro hq _
 exact retE hb 14 (injO hq).symm
 refine ifE hb 7 [27,28] [] hq ?_ ?_<;>intro hq _
 exact retE hb 7 (injO hq).symm
 refine idxE hb flV 7 hq fun x5 hx5 hq=>?_
 refine q6 hb 1 hq (tQbf hb he x5) fun y6 _ hq=>?_
 exact retE hb 3 (injO hq).symm
def gQ28  (args_:List Val):Option (Val×Int) :=
 (idx args_ 0).bind fun x1=>bif (decide (x1.kind=6)) then (gQa7).bind fun y3=>some (y3,0) else (idx args_ 1).bind fun x4=>bif (decide (x4.kind=6)) then (gQa7).bind fun y6=>some (y6,0) else (idx args_ 0).bind fun x7=>(idx args_ 1).bind fun x8=>(gQ9m x7 x8.str).bind fun y9=>bif y9.2 then some (y9.1,0) else bif (decide ((args_.length:Int)=3)) then (idx args_ 2).bind fun x12=>some (x12,0) else some ((Val.mk 0 0 eS [] []),16)
theorem gQ29 (hb:Base E E0 G) (he:∀w,E w->EnvV w)   (args_:List Val):∀r_:Val×Int,gQ28 args_=some r_ ->
 Pure E E0 Tryz.prog 93 [.cell (vL flV args_)] (.tup [.agg (aV r_.1),.cell (vi r_.2)]):=by
 refine fnE hb Tryz.func93 rfl fun r_ hq=>?_
 refine idxE hb flV 9 hq fun x1 hx1 hq=>?_
 refine ifE hb 4 [10,11] [] hq ?_ ?_<;>intro hq _
 refine q6 hb 10 hq (gQa8 hb he ) fun y3 _ hq=>?_
 exact retE hb 3 (injO hq).symm
 refine idxE hb flV 1 hq fun x4 hx4 hq=>?_
 refine ifE hb 5 [16,17] [] hq ?_ ?_<;>intro hq _
 refine q6 hb 3 hq (gQa8 hb he ) fun y6 _ hq=>?_
 exact retE hb 3 (injO hq).symm
 refine qh hb mixed 4 12 [10] ?_
 refine idxE hb flV 1 hq fun x7 hx7 hq=>?_
 refine idxE hb flV 2 hq fun x8 hx8 hq=>?_
 refine q6 hb 2 hq (gQ9n hb he x7 x8.str) fun y9 _ hq=>?_
 refine ifE hb 12 [5,29,30] [] hq ?_ ?_<;>intro hq _
 exact retE hb 7 (injO hq).symm
 refine ifE hb 9 [34] [] hq ?_ ?_<;>intro hq _
 refine idxE hb flV 4 hq fun x12 hx12 hq=>?_
 exact retE hb 4 (injO hq).symm
 exact retE hb 8 (injO hq).symm
def gQ9z (keys_:List ByteArray) (items_:List Val) (l5:List Int) (s2:Int×List Val×List ByteArray):Option ((Int×List Val×List ByteArray)⊕((Int×List Int)⊕(Val×Int))) :=
 bif (decide (s2.1<(l5.length:Int))) then (idx l5 s2.1).bind fun x7=>bif (decide (s2.1 > 0)) then (idx keys_ x7).bind fun x9=>(idx s2.2.2 (IntKind.i64.wrap (s2.1 - 1))).bind fun x10=>bif (decide (x9=x10)) then some (.inr (.inr ((Val.mk 0 0 eS [] []),8))) else (idx keys_ x7).bind fun x12=>(app 16 s2.2.2 [x12]).bind fun l13=>(idx items_ x7).bind fun x14=>(tQbe x14).bind fun y15=>(app 80 s2.2.1 [y15]).bind fun l16=>some (.inl ((IntKind.i64.wrap (s2.1+1)),l16,l13)) else (idx keys_ x7).bind fun x17=>(app 16 s2.2.2 [x17]).bind fun l18=>(idx items_ x7).bind fun x19=>(tQbe x19).bind fun y20=>(app 80 s2.2.1 [y20]).bind fun l21=>some (.inl ((IntKind.i64.wrap (s2.1+1)),l21,l18)) else some (.inr (.inr ((Val.mk 5 0 eS s2.2.1 s2.2.2),0)))
def gQ9y (keys_:List ByteArray) (items_:List Val) (l2:List Int) (s1:Int×List Int):Option ((Int×List Int)⊕(Val×Int)) :=
 bif (decide (s1.1<(l2.length:Int))) then (idx s1.2 s1.1).bind fun x4=>some (.inl ((IntKind.i64.wrap (s1.1+1)),(upd s1.2 s1.1 s1.1))) else (q6e keys_ s1.2).bind fun l5=>q7 (gQ9z keys_ items_ l5) (0,[],[])
def gQ9x  (keys_:List ByteArray) (items_:List Val):Option (Val×Int) :=
 bif (!decide ((keys_.length:Int)=(items_.length:Int))) then some ((Val.mk 0 0 eS [] []),1) else (mkl 8 (keys_.length:Int) 0).bind fun l2=>q7 (gQ9y keys_ items_ l2) (0,l2)
theorem gQa0 (hb:Base E E0 G) (he:∀w,E w->EnvV w)   (keys_:List ByteArray) (items_:List Val):∀r_:Val×Int,gQ9x keys_ items_=some r_ ->
 Pure E E0 Tryz.prog 95 [.cell (vL flS keys_),.cell (vL flV items_)] (.tup [.agg (aV r_.1),.cell (vi r_.2)]):=by
 refine fnE hb Tryz.func95 rfl fun r_ hq=>?_
 refine ifE hb 15 [15] [] hq ?_ ?_<;>intro hq _
 exact retE hb 7 (injO hq).symm
 refine mkE (flI .i64) hb 6 hq fun l2 hl2 hq=>?_
 refine qbg (flI .i64) hb 6 2 false 0 l2 ?_
 refine qd hb 3 (gQ9y keys_ items_ l2) (fun s1=>sl 78 [(1,c1 (vL flV items_)),(2,pt 0),(4,pt 1),(6,c1 (vO (flI .i64) 2 s1.2)),(21,c1 (vi (l2.length:Int))),(22,c1 (vi s1.1))]) (fun s1=>[bx [vL flS keys_],bx zV,some (arO false (flI .i64).sz 0 ((flI .i64).f s1.2))]) [1,2,4,6,21,22] [] 3 (s0:=(0,l2)) ⟨(by kernel_rfl),(by kernel_rfl),(qa _ _ _ _ _),trivial⟩ hq (fun s1 o1 hq hn1 he1=>?_)
 refine ifE hb 5 [23] [] hq ?_ ?_<;>intro hq _
 refine q6b (flI .i64) hb 13 2 false 0 hq fun x4 hx4 hq=>?_
 refine qfz (flI .i64) hb 0 2 hx4 s1.1 ?_
 refine q3c hb 2 6 (c:=vO (flI .i64) 2 s1.2) (q7t (q7b (flI .i64) (qa1 s1.2 s1.1 s1.1))) ?_
 exact q8 hb 4 [1,2,4,6,21,22] [] 3 (hn1 _ (injO hq)) ⟨(by kernel_rfl),(by kernel_rfl),(qa _ _ _ _ _),trivial⟩
 refine q93 hb 6 hq (qys hb he 2 false 0 keys_ s1.2 (by kernel_rfl) (by kernel_rfl)) fun l5 hl5 hq=>?_
 refine q3c hb 1 6 (c:=vO (flI .i64) 2 s1.2) (q7t (q7b (flI .i64) (qty hl5))) ?_
 refine qbg (flI .i64) hb 10 2 false 0 l5 ?_
 refine cpE hb 3 [1,2,4,8,34,35,36] (s':=⟨none,[pk Tryz.f95 1018],[(2,[pk Tryz.f95 255])],sl 78 [(1,c1 (vL flV items_)),(2,pt 0),(4,pt 1),(8,pt 3),(34,c1 (vO (flI .i64) 2 l5)),(35,c1 (vi (l5.length:Int))),(36,c1 (vi 0))],[bx [vL flS keys_],bx zV,some (arO false (flI .i64).sz 0 ((flI .i64).f l5)),bx [vi 5,vi 0,vS eS,vN,vN]]⟩) ?_
 refine q3j hb 0 3 3 5 (cs:=[vi 5,vi 0,vS eS,vN,vN]) (by kernel_rfl) ?_
 refine q3j hb 0 3 4 1 (cs:=[vi 5,vi 0,vS eS,vO flV 4 [],vN]) (by kernel_rfl) ?_
 refine qd hb 0 (gQ9z keys_ items_ l5) (fun s2=>sl 78 [(1,c1 (vL flV items_)),(2,pt 0),(4,pt 1),(8,pt 3),(34,c1 (vO (flI .i64) 2 l5)),(35,c1 (vi (l5.length:Int))),(36,c1 (vi s2.1))]) (fun s2=>[bx [vL flS keys_],bx zV,some (arO false (flI .i64).sz 0 ((flI .i64).f l5)),bx [vi 5,vi 0,vS eS,vO flV 4 s2.2.1,vO flS 5 s2.2.2],some (arO true flV.sz 0 (flV.f s2.2.1)),some (arO true flS.sz 0 (flS.f s2.2.2))]) [1,2,4,8,34,35,36] [] 6 (s0:=(0,[],[])) ⟨(by kernel_rfl),(by kernel_rfl),(qa _ _ _ _ _),(by kernel_rfl),(qa _ _ _ _ _),(qa _ _ _ _ _),trivial⟩ hq (fun s2 o2 hq hn2 he2=>?_)
 refine ifE hb 5 [37] [] hq ?_ ?_<;>intro hq _
 refine q6b (flI .i64) hb 7 2 false 0 hq fun x7 hx7 hq=>?_
 refine qeg (flI .i64) hb 0 2 false 0 hx7 rfl ?_
 refine qh hb mixed 5 13 [] ?_
 refine ifE hb 3 [42,43] [] hq ?_ ?_<;>intro hq _
 refine idxE hb flS 2 hq fun x9 hx9 hq=>?_
 refine q6b flS hb 5 5 true 0 hq fun x10 hx10 hq=>?_
 refine qeg flS hb 0 5 true 0 hx10 rfl ?_
 refine ifE hb 4 [54,55] [] hq ?_ ?_<;>intro hq _
 exact retE hb 7 (he1 _ ((he2 _ (injO hq)).symm))
 refine qh hb mixed 3 7 [] ?_
 refine idxE hb flS 4 hq fun x12 hx12 hq=>?_
 refine qi flS hb 3 5 true 0 (flS.one x12) hq fun l13 hl13 hq=>?_
 refine qh hb mixed 3 8 [] ?_
 refine idxE hb flV 4 hq fun x14 hx14 hq=>?_
 refine q6 hb 1 hq (tQbf hb he x14) fun y15 _ hq=>?_
 refine qi flV hb 2 4 true 0 (flV.one y15) hq fun l16 hl16 hq=>?_
 exact q8 hb 8 [1,2,4,8,34,35,36] [] 6 (hn2 _ (injO hq)) ⟨(by kernel_rfl),(by kernel_rfl),(qa _ _ _ _ _),(by kernel_rfl),(qa _ _ _ _ _),(qa _ _ _ _ _),trivial⟩
 refine qh hb mixed 17 7 [] ?_
 refine idxE hb flS 4 hq fun x17 hx17 hq=>?_
 refine qi flS hb 3 5 true 0 (flS.one x17) hq fun l18 hl18 hq=>?_
 refine qh hb mixed 3 8 [] ?_
 refine idxE hb flV 4 hq fun x19 hx19 hq=>?_
 refine q6 hb 1 hq (tQbf hb he x19) fun y20 _ hq=>?_
 refine qi flV hb 2 4 true 0 (flV.one y20) hq fun l21 hl21 hq=>?_
 exact q8 hb 8 [1,2,4,8,34,35,36] [] 6 (hn2 _ (injO hq)) ⟨(by kernel_rfl),(by kernel_rfl),(qa _ _ _ _ _),(by kernel_rfl),(qa _ _ _ _ _),(qa _ _ _ _ _),trivial⟩
 refine qw hb 8 4 true (sz:=flV.sz) (fr:=0) (cs:=flV.f s2.2.1) (by kernel_rfl) (Nat.zero_le _) ?_
 refine q19 hb 0 1 3 (cs:=[vi 5,vi 0,vS eS,vO flV 4 s2.2.1,vO flS 5 s2.2.2]) (c:=vO flV 4 s2.2.1) (q1g flV (nb:=true) (id:=4) (xs:=s2.2.1) (by kernel_rfl)) (by kernel_rfl) ?_
 refine qw hb 0 5 true (sz:=flS.sz) (fr:=0) (cs:=flS.f s2.2.2) (by kernel_rfl) (Nat.zero_le _) ?_
 refine q19 hb 0 1 4 (cs:=[vi 5,vi 0,vS eS,vL flV s2.2.1,vO flS 5 s2.2.2]) (c:=vO flS 5 s2.2.2) (q1g flS (nb:=true) (id:=5) (xs:=s2.2.2) (by kernel_rfl)) (by kernel_rfl) ?_
 exact retE hb 0 (he1 _ ((he2 _ (injO hq)).symm))
def gQ91 (s_:List ByteArray) (v_:ByteArray) (s1:Int):Option ((Int)⊕(Int)) :=
 bif (decide (s1<(s_.length:Int))) then (idx s_ s1).bind fun x2=>bif (decide (v_=x2)) then some (.inr (s1)) else some (.inl (IntKind.i64.wrap (s1+1))) else some (.inr (-1))
def gQ90  (s_:List ByteArray) (v_:ByteArray):Option (Int) :=
 q7 (gQ91 s_ v_) 0
theorem gQ92 (hb:Base E E0 G) (he:∀w,E w->EnvV w)   (s_:List ByteArray) (v_:ByteArray):∀r_:Int,gQ90 s_ v_=some r_ ->
 Pure E E0 Tryz.prog 182 [.cell (vL flS s_),.cell (vS v_)] (c1 (vi r_)):=by
 refine fnE hb Tryz.func182 rfl fun r_ hq=>?_
 refine qd hb 12 (gQ91 s_ v_) (fun s1=>sl 19 [(0,c1 (vL flS s_)),(1,c1 (vS v_)),(7,c1 (vi (s_.length:Int))),(8,c1 (vi s1))]) (fun s1=>[]) [0,1,7,8] [] 0 (s0:=0) trivial hq (fun s1 o1 hq hn1 he1=>?_)
 refine ifE hb 5 [9] [] hq ?_ ?_<;>intro hq _
 refine idxE hb flS 14 hq fun x2 hx2 hq=>?_
 refine ifE hb 3 [16] [] hq ?_ ?_<;>intro hq _
 exact retE hb 6 (he1 _ (injO hq))
 exact q8 hb 7 [0,1,7,8] [] 0 (hn1 _ (injO hq)) trivial
 exact retE hb 6 (he1 _ (injO hq))
def gQ8v  (s_:List ByteArray) (v_:ByteArray):Option (Bool) :=
 (gQ90 s_ v_).bind fun y1=>some (decide (y1 >= 0))
theorem gQ8w (hb:Base E E0 G) (he:∀w,E w->EnvV w)   (s_:List ByteArray) (v_:ByteArray):∀r_:Bool,gQ8v s_ v_=some r_ ->
 Pure E E0 Tryz.prog 148 [.cell (vL flS s_),.cell (vS v_)] (c1 (vB r_)):=by
 refine fnE hb Tryz.func148 rfl fun r_ hq=>?_
 refine q6 hb 8 hq (gQ92 hb he s_ v_) fun y1 _ hq=>?_
 exact retE hb 3 (injO hq).symm
def gQ34 (k_:Val) (v_:Val) (s1:Int×List ByteArray):Option ((Int×List ByteArray)⊕(Val×Int)) :=
 bif (decide (s1.1<(k_.items.length:Int))) then (idx k_.items s1.1).bind fun x5=>bif (decide (x5.kind=6)) then some (.inl ((IntKind.i64.wrap (s1.1+1)),s1.2)) else (gQ8v s1.2 x5.str).bind fun y7=>bif y7 then some (.inr ((Val.mk 0 0 eS [] []),8)) else (app 16 s1.2 [x5.str]).bind fun l9=>some (.inl ((IntKind.i64.wrap (s1.1+1)),l9)) else (tQbb k_).bind fun y10=>bif (!y10) then (gQa7).bind fun y12=>some (.inr (y12,0)) else bif (decide (v_.kind=6)) then (gQa7).bind fun y14=>some (.inr (y14,0)) else (gQ9x s1.2 v_.items).bind fun y15=>some (.inr (y15.1,y15.2))
def gQ35 (k_:Val) (v_:Val) (s1:Int×List ByteArray):Option ((Int×List ByteArray)⊕(Val×Int)) :=
 bif (decide (s1.1<(k_.items.length:Int))) then (idx k_.items s1.1).bind fun x17=>bif (decide (x17.kind=6)) then some (.inl ((IntKind.i64.wrap (s1.1+1)),s1.2)) else (gQ8v s1.2 x17.str).bind fun y19=>bif y19 then some (.inr ((Val.mk 0 0 eS [] []),8)) else (app 16 s1.2 [x17.str]).bind fun l21=>some (.inl ((IntKind.i64.wrap (s1.1+1)),l21)) else (tQbb k_).bind fun y22=>bif (!y22) then (gQa7).bind fun y24=>some (.inr (y24,0)) else bif (decide (v_.kind=6)) then (gQa7).bind fun y26=>some (.inr (y26,0)) else (gQ9x s1.2 v_.items).bind fun y27=>some (.inr (y27.1,y27.2))
def gQ36 (k_:Val) (v_:Val) (s1:Int×List ByteArray):Option ((Int×List ByteArray)⊕(Val×Int)) :=
 bif (decide (s1.1<(k_.items.length:Int))) then (idx k_.items s1.1).bind fun x29=>bif (decide (x29.kind=6)) then some (.inl ((IntKind.i64.wrap (s1.1+1)),s1.2)) else (gQ8v s1.2 x29.str).bind fun y31=>bif y31 then some (.inr ((Val.mk 0 0 eS [] []),8)) else (app 16 s1.2 [x29.str]).bind fun l33=>some (.inl ((IntKind.i64.wrap (s1.1+1)),l33)) else (tQbb k_).bind fun y34=>bif (!y34) then (gQa7).bind fun y36=>some (.inr (y36,0)) else bif (decide (v_.kind=6)) then (gQa7).bind fun y38=>some (.inr (y38,0)) else (gQ9x s1.2 v_.items).bind fun y39=>some (.inr (y39.1,y39.2))
def gQ33  (k_:Val) (v_:Val):Option (Val×Int) :=
 bif (decide (k_.kind=4)) then bif (decide (v_.kind=4)) then bif (!decide ((k_.items.length:Int)=(v_.items.length:Int))) then some ((Val.mk 0 0 eS [] []),1) else q7 (gQ34 k_ v_) (0,[]) else q7 (gQ35 k_ v_) (0,[]) else q7 (gQ36 k_ v_) (0,[])
theorem gQ37 (hb:Base E E0 G) (he:∀w,E w->EnvV w)   (k_:Val) (v_:Val):∀r_:Val×Int,gQ33 k_ v_=some r_ ->
 Pure E E0 Tryz.prog 94 [.agg (aV k_),.agg (aV v_)] (.tup [.agg (aV r_.1),.cell (vi r_.2)]):=by
 refine fnE hb Tryz.func94 rfl fun r_ hq=>?_
 refine ifE hb 14 [11,12] [] hq ?_ ?_<;>intro hq _
 refine ifE hb 5 [15,16,17] [] hq ?_ ?_<;>intro hq _
 refine ifE hb 9 [24,25] [] hq ?_ ?_<;>intro hq _
 exact retE hb 7 (injO hq).symm
 refine q2f hb 15 6 1 ?_
 refine qd hb 0 (gQ34 k_ v_) (fun s1=>sl 63 [(2,pt 0),(3,pt 1),(4,pt 2),(6,c1 (vO flS 3 s1.2)),(28,c1 (vL flV k_.items)),(29,c1 (vi (k_.items.length:Int))),(30,c1 (vi s1.1))]) (fun s1=>[bx (aV k_),bx (aV v_),bx zV,some (arO true flS.sz 0 (flS.f s1.2))]) [2,3,4,6,28,29,30] [] 4 (s0:=(0,[])) ⟨(by kernel_rfl),(by kernel_rfl),(by kernel_rfl),(qa _ _ _ _ _),trivial⟩ hq (fun s1 o1 hq hn1 he1=>?_)
 refine ifE hb 5 [31] [] hq ?_ ?_<;>intro hq _
 refine idxE hb flV 6 hq fun x5 hx5 hq=>?_
 refine ifE hb 11 [36] [] hq ?_ ?_<;>intro hq _
 exact q8 hb 6 [2,3,4,6,28,29,30] [] 4 (hn1 _ (injO hq)) ⟨(by kernel_rfl),(by kernel_rfl),(by kernel_rfl),(qa _ _ _ _ _),trivial⟩
 refine q94 hb 8 (vs:=[.cell (vO flS 3 s1.2),.cell (vS x5.str)]) hq (q1i (q2j (q29 flS (b:=true) (id:=3) (fr:=0) (xs:=s1.2) (by kernel_rfl))) (q1i (by kernel_rfl) rfl)) (fun _=>rfl) (gQ8w hb he s1.2 x5.str) fun y7 _ hq=>?_
 refine ifE hb 1 [40] [] hq ?_ ?_<;>intro hq _
 exact retE hb 7 (he1 _ (injO hq))
 refine qi flS hb 7 3 true 0 (flS.one x5.str) hq fun l9 hl9 hq=>?_
 exact q8 hb 7 [2,3,4,6,28,29,30] [] 4 (hn1 _ (injO hq)) ⟨(by kernel_rfl),(by kernel_rfl),(by kernel_rfl),(qa _ _ _ _ _),trivial⟩
 refine q6 hb 6 hq (tQbc hb he k_) fun y10 _ hq=>?_
 refine ifE hb 2 [50,51] [] hq ?_ ?_<;>intro hq _
 refine q6 hb 8 hq (gQa8 hb he ) fun y12 _ hq=>?_
 exact retE hb 3 (he1 _ (injO hq))
 refine ifE hb 5 [54,55] [] hq ?_ ?_<;>intro hq _
 refine q6 hb 3 hq (gQa8 hb he ) fun y14 _ hq=>?_
 exact retE hb 3 (he1 _ (injO hq))
 refine qw hb 3 3 true (sz:=flS.sz) (fr:=0) (cs:=flS.f s1.2) (by kernel_rfl) (Nat.zero_le _) ?_
 refine q3b hb 4 (vs:=[.cell (vO flS 3 s1.2),.cell (vL flV v_.items)]) hq (q1i (q2j (q29 flS (b:=true) (id:=3) (fr:=(flS.f s1.2).length) (xs:=s1.2) (by kernel_rfl))) (q1i (by kernel_rfl) rfl)) (q2r (q38 (q39 flS (nb:=true) (id:=3) (xs:=s1.2) (by kernel_rfl))) (q2r (by kernel_rfl) rfl)) (gQa0 hb he s1.2 v_.items) fun y15 _ hq=>?_
 exact retE hb 5 (he1 _ (injO hq))
 refine q2f hb 24 6 1 ?_
 refine qd hb 0 (gQ35 k_ v_) (fun s1=>sl 63 [(2,pt 0),(3,pt 1),(4,pt 2),(6,c1 (vO flS 3 s1.2)),(28,c1 (vL flV k_.items)),(29,c1 (vi (k_.items.length:Int))),(30,c1 (vi s1.1))]) (fun s1=>[bx (aV k_),bx (aV v_),bx zV,some (arO true flS.sz 0 (flS.f s1.2))]) [2,3,4,6,28,29,30] [] 4 (s0:=(0,[])) ⟨(by kernel_rfl),(by kernel_rfl),(by kernel_rfl),(qa _ _ _ _ _),trivial⟩ hq (fun s1 o1 hq hn1 he1=>?_)
 refine ifE hb 5 [31] [] hq ?_ ?_<;>intro hq _
 refine idxE hb flV 6 hq fun x17 hx17 hq=>?_
 refine ifE hb 11 [36] [] hq ?_ ?_<;>intro hq _
 exact q8 hb 6 [2,3,4,6,28,29,30] [] 4 (hn1 _ (injO hq)) ⟨(by kernel_rfl),(by kernel_rfl),(by kernel_rfl),(qa _ _ _ _ _),trivial⟩
 refine q94 hb 8 (vs:=[.cell (vO flS 3 s1.2),.cell (vS x17.str)]) hq (q1i (q2j (q29 flS (b:=true) (id:=3) (fr:=0) (xs:=s1.2) (by kernel_rfl))) (q1i (by kernel_rfl) rfl)) (fun _=>rfl) (gQ8w hb he s1.2 x17.str) fun y19 _ hq=>?_
 refine ifE hb 1 [40] [] hq ?_ ?_<;>intro hq _
 exact retE hb 7 (he1 _ (injO hq))
 refine qi flS hb 7 3 true 0 (flS.one x17.str) hq fun l21 hl21 hq=>?_
 exact q8 hb 7 [2,3,4,6,28,29,30] [] 4 (hn1 _ (injO hq)) ⟨(by kernel_rfl),(by kernel_rfl),(by kernel_rfl),(qa _ _ _ _ _),trivial⟩
 refine q6 hb 6 hq (tQbc hb he k_) fun y22 _ hq=>?_
 refine ifE hb 2 [50,51] [] hq ?_ ?_<;>intro hq _
 refine q6 hb 8 hq (gQa8 hb he ) fun y24 _ hq=>?_
 exact retE hb 3 (he1 _ (injO hq))
 refine ifE hb 5 [54,55] [] hq ?_ ?_<;>intro hq _
 refine q6 hb 3 hq (gQa8 hb he ) fun y26 _ hq=>?_
 exact retE hb 3 (he1 _ (injO hq))
 refine qw hb 3 3 true (sz:=flS.sz) (fr:=0) (cs:=flS.f s1.2) (by kernel_rfl) (Nat.zero_le _) ?_
 refine q3b hb 4 (vs:=[.cell (vO flS 3 s1.2),.cell (vL flV v_.items)]) hq (q1i (q2j (q29 flS (b:=true) (id:=3) (fr:=(flS.f s1.2).length) (xs:=s1.2) (by kernel_rfl))) (q1i (by kernel_rfl) rfl)) (q2r (q38 (q39 flS (nb:=true) (id:=3) (xs:=s1.2) (by kernel_rfl))) (q2r (by kernel_rfl) rfl)) (gQa0 hb he s1.2 v_.items) fun y27 _ hq=>?_
 exact retE hb 5 (he1 _ (injO hq))
 refine q2f hb 29 6 1 ?_
 refine qd hb 0 (gQ36 k_ v_) (fun s1=>sl 63 [(2,pt 0),(3,pt 1),(4,pt 2),(6,c1 (vO flS 3 s1.2)),(28,c1 (vL flV k_.items)),(29,c1 (vi (k_.items.length:Int))),(30,c1 (vi s1.1))]) (fun s1=>[bx (aV k_),bx (aV v_),bx zV,some (arO true flS.sz 0 (flS.f s1.2))]) [2,3,4,6,28,29,30] [] 4 (s0:=(0,[])) ⟨(by kernel_rfl),(by kernel_rfl),(by kernel_rfl),(qa _ _ _ _ _),trivial⟩ hq (fun s1 o1 hq hn1 he1=>?_)
 refine ifE hb 5 [31] [] hq ?_ ?_<;>intro hq _
 refine idxE hb flV 6 hq fun x29 hx29 hq=>?_
 refine ifE hb 11 [36] [] hq ?_ ?_<;>intro hq _
 exact q8 hb 6 [2,3,4,6,28,29,30] [] 4 (hn1 _ (injO hq)) ⟨(by kernel_rfl),(by kernel_rfl),(by kernel_rfl),(qa _ _ _ _ _),trivial⟩
 refine q94 hb 8 (vs:=[.cell (vO flS 3 s1.2),.cell (vS x29.str)]) hq (q1i (q2j (q29 flS (b:=true) (id:=3) (fr:=0) (xs:=s1.2) (by kernel_rfl))) (q1i (by kernel_rfl) rfl)) (fun _=>rfl) (gQ8w hb he s1.2 x29.str) fun y31 _ hq=>?_
 refine ifE hb 1 [40] [] hq ?_ ?_<;>intro hq _
 exact retE hb 7 (he1 _ (injO hq))
 refine qi flS hb 7 3 true 0 (flS.one x29.str) hq fun l33 hl33 hq=>?_
 exact q8 hb 7 [2,3,4,6,28,29,30] [] 4 (hn1 _ (injO hq)) ⟨(by kernel_rfl),(by kernel_rfl),(by kernel_rfl),(qa _ _ _ _ _),trivial⟩
 refine q6 hb 6 hq (tQbc hb he k_) fun y34 _ hq=>?_
 refine ifE hb 2 [50,51] [] hq ?_ ?_<;>intro hq _
 refine q6 hb 8 hq (gQa8 hb he ) fun y36 _ hq=>?_
 exact retE hb 3 (he1 _ (injO hq))
 refine ifE hb 5 [54,55] [] hq ?_ ?_<;>intro hq _
 refine q6 hb 3 hq (gQa8 hb he ) fun y38 _ hq=>?_
 exact retE hb 3 (he1 _ (injO hq))
 refine qw hb 3 3 true (sz:=flS.sz) (fr:=0) (cs:=flS.f s1.2) (by kernel_rfl) (Nat.zero_le _) ?_
 refine q3b hb 4 (vs:=[.cell (vO flS 3 s1.2),.cell (vL flV v_.items)]) hq (q1i (q2j (q29 flS (b:=true) (id:=3) (fr:=(flS.f s1.2).length) (xs:=s1.2) (by kernel_rfl))) (q1i (by kernel_rfl) rfl)) (q2r (q38 (q39 flS (nb:=true) (id:=3) (xs:=s1.2) (by kernel_rfl))) (q2r (by kernel_rfl) rfl)) (gQa0 hb he s1.2 v_.items) fun y39 _ hq=>?_
 exact retE hb 5 (he1 _ (injO hq))
def gQ2b (x1:Val) (s1:Int×List Val):Option ((Int×List Val)⊕(Val×Int)) :=
 bif (decide (s1.1<(x1.keys.length:Int))) then (idx x1.keys s1.1).bind fun x4=>(gQa5 x4).bind fun y5=>(app 80 s1.2 [y5]).bind fun l6=>some (.inl ((IntKind.i64.wrap (s1.1+1)),l6)) else (gQ1y s1.2).bind fun y7=>some (.inr (y7,0))
def gQ2d (x16:Val) (s1b:Int×List (ByteArray×Val)×List ByteArray) (s2:Int×List (ByteArray×Val)×List ByteArray):Option ((Int×List (ByteArray×Val)×List ByteArray)⊕((Int×List (ByteArray×Val)×List ByteArray)⊕(Val×Int))) :=
 bif (decide (s2.1<(x16.keys.length:Int))) then (idx x16.keys s2.1).bind fun x18=>bif (!(mhas s2.2.1 x18)) then (app 16 s2.2.2 [x18]).bind fun l20=>(idx x16.items s2.1).bind fun x21=>some (.inl ((IntKind.i64.wrap (s2.1+1)),(mput s2.2.1 x18 x21),l20)) else (idx x16.items s2.1).bind fun x22=>some (.inl ((IntKind.i64.wrap (s2.1+1)),(mput s2.2.1 x18 x22),s2.2.2)) else some (.inr (.inl ((IntKind.i64.wrap (s1b.1+1)),s2.2.1,s2.2.2)))
def gQ2e (s1b:Int×List (ByteArray×Val)×List ByteArray) (s2b:Int×List Val):Option ((Int×List Val)⊕((Int×List (ByteArray×Val)×List ByteArray)⊕(Val×Int))) :=
 bif (decide (s2b.1<(s1b.2.2.length:Int))) then (idx s1b.2.2 s2b.1).bind fun x24=>(app 80 s2b.2 [(q3h s1b.2.1 x24 (Val.mk 0 0 eS [] []))]).bind fun l25=>some (.inl ((IntKind.i64.wrap (s2b.1+1)),l25)) else (gQ9x s1b.2.2 s2b.2).bind fun y26=>some (.inr (.inr (y26.1,y26.2)))
def gQ2c (args_:List Val) (s1b:Int×List (ByteArray×Val)×List ByteArray):Option ((Int×List (ByteArray×Val)×List ByteArray)⊕(Val×Int)) :=
 bif (decide (s1b.1<(args_.length:Int))) then (idx args_ s1b.1).bind fun x16=>q7 (gQ2d x16 s1b) (0,s1b.2.1,s1b.2.2) else q7 (gQ2e s1b) (0,[])
def gQ2a  (name_:ByteArray) (args_:List Val):Option (Val×Int) :=
 (idx args_ 0).bind fun x1=>bif (decide (name_=⟨#[107,101,121,115]⟩)) then q7 (gQ2b x1) (0,[]) else bif (decide (name_=⟨#[118,97,108,117,101,115]⟩)) then (gQ1y x1.items).bind fun y9=>some (y9,0) else bif (decide (name_=⟨#[108,111,111,107,117,112]⟩)) then (gQ28 args_).bind fun y11=>some (y11.1,y11.2) else bif (decide (name_=⟨#[122,105,112,109,97,112]⟩)) then (idx args_ 1).bind fun x13=>(gQ33 x1 x13).bind fun y14=>some (y14.1,y14.2) else q7 (gQ2c args_) (0,[],[])
theorem gQ2f (hb:Base E E0 G) (he:∀w,E w->EnvV w)   (name_:ByteArray) (args_:List Val):∀r_:Val×Int,gQ2a name_ args_=some r_ ->
 Pure E E0 Tryz.prog 55 [.cell (vS name_),.cell (vL flV args_)] (.tup [.agg (aV r_.1),.cell (vi r_.2)]):=by
 refine fnE hb Tryz.func55 rfl fun r_ hq=>?_
 refine idxE hb flV 8 hq fun x1 hx1 hq=>?_
 refine ifE hb 15 [25,26] [] hq ?_ ?_<;>intro hq _
 refine q2f hb 14 7 5 ?_
 refine qd hb 0 (gQ2b x1) (fun s1=>sl 116 [(4,pt 0),(7,c1 (vO flV 2 s1.2)),(28,c1 (vL flS x1.keys)),(29,c1 (vi (x1.keys.length:Int))),(30,c1 (vi s1.1))]) (fun s1=>[bx zV,none,some (arO true flV.sz 0 (flV.f s1.2))]) [4,7,28,29,30] [1] 3 (s0:=(0,[])) ⟨(by kernel_rfl),rfl,(qa _ _ _ _ _),trivial⟩ hq (fun s1 o1 hq hn1 he1=>?_)
 refine ifE hb 5 [31] [] hq ?_ ?_<;>intro hq _
 refine idxE hb flS 6 hq fun x4 hx4 hq=>?_
 refine q6 hb 6 hq (gQa6 hb he x4) fun y5 _ hq=>?_
 refine qi flV hb 1 2 true 0 (flV.one y5) hq fun l6 hl6 hq=>?_
 exact q8 hb 7 [4,7,28,29,30] [] 3 (hn1 _ (injO hq)) ⟨(by kernel_rfl),rfl,(qa _ _ _ _ _),trivial⟩
 refine qw hb 3 2 true (sz:=flV.sz) (fr:=0) (cs:=flV.f s1.2) (by kernel_rfl) (Nat.zero_le _) ?_
 refine q3b hb 2 (vs:=[.cell (vO flV 2 s1.2)]) hq (q1i (q2j (q29 flV (b:=true) (id:=2) (fr:=(flV.f s1.2).length) (xs:=s1.2) (by kernel_rfl))) rfl) (q2r (q38 (q39 flV (nb:=true) (id:=2) (xs:=s1.2) (by kernel_rfl))) rfl) (gQ1z hb he s1.2) fun y7 _ hq=>?_
 exact retE hb 3 (he1 _ (injO hq))
 refine ifE hb 6 [42,43] [] hq ?_ ?_<;>intro hq _
 refine q6 hb 5 hq (gQ1z hb he x1.items) fun y9 _ hq=>?_
 exact retE hb 3 (injO hq).symm
 refine ifE hb 6 [47,48] [] hq ?_ ?_<;>intro hq _
 refine q6 hb 4 hq (gQ29 hb he args_) fun y11 _ hq=>?_
 exact retE hb 5 (injO hq).symm
 refine ifE hb 6 [53,54] [] hq ?_ ?_<;>intro hq _
 refine qh hb mixed 2 6 [5] ?_
 refine idxE hb flV 2 hq fun x13 hx13 hq=>?_
 refine q6 hb 1 hq (gQ37 hb he x1 x13) fun y14 _ hq=>?_
 exact retE hb 6 (injO hq).symm
 refine cpE hb 20 [4,10,11,63,64,65] (s':=⟨none,[pk Tryz.f55 506],[(3,[pk Tryz.f55 127])],sl 116 [(4,pt 0),(10,c1 (.mapr 2)),(11,c1 (vN)),(63,c1 (vL flV args_)),(64,c1 (vi (args_.length:Int))),(65,c1 (vi 0))],[bx zV,bx (aV x1),some (.mp true (encM flV []))]⟩) ?_
 refine q2f hb 0 11 1 ?_
 refine qd hb 0 (gQ2c args_) (fun s1b=>sl 116 [(4,pt 0),(10,c1 (.mapr 2)),(11,c1 (vO flS 3 s1b.2.2)),(63,c1 (vL flV args_)),(64,c1 (vi (args_.length:Int))),(65,c1 (vi s1b.1))]) (fun s1b=>[bx zV,none,some (.mp true (encM flV s1b.2.1)),some (arO true flS.sz 0 (flS.f s1b.2.2))]) [4,10,11,63,64,65] [1] 4 (s0:=(0,[],[])) ⟨(by kernel_rfl),rfl,rfl,(qa _ _ _ _ _),trivial⟩ hq (fun s1b o1 hq hn1 he1=>?_)
 refine ifE hb 5 [66] [] hq ?_ ?_<;>intro hq _
 refine idxE hb flV 6 hq fun x16 hx16 hq=>?_
 refine qd hb 12 (gQ2d x16 s1b) (fun s2=>sl 116 [(4,pt 0),(10,c1 (.mapr 2)),(11,c1 (vO flS 3 s2.2.2)),(13,pt 4),(63,c1 (vL flV args_)),(64,c1 (vi (args_.length:Int))),(65,c1 (vi s1b.1)),(70,c1 (vL flS x16.keys)),(71,c1 (vi (x16.keys.length:Int))),(72,c1 (vi s2.1))]) (fun s2=>[bx zV,none,some (.mp true (encM flV s2.2.1)),some (arO true flS.sz 0 (flS.f s2.2.2)),bx (aV x16)]) [4,10,11,13,63,64,65,70,71,72] [] 5 (s0:=(0,s1b.2.1,s1b.2.2)) ⟨(by kernel_rfl),rfl,rfl,(qa _ _ _ _ _),(by kernel_rfl),trivial⟩ hq (fun s2 o2 hq hn2 he2=>?_)
 refine ifE hb 5 [73] [] hq ?_ ?_<;>intro hq _
 refine idxE hb flS 7 hq fun x18 hx18 hq=>?_
 refine lookE flV hb 9 2 true true s2.2.1 x18 (Val.mk 0 0 eS [] []) ?_
 refine ifE hb 12 [84] [] hq ?_ ?_<;>intro hq _
 refine qi flS hb 5 3 true 0 (flS.one x18) hq fun l20 hl20 hq=>?_
 refine idxE hb flV 8 hq fun x21 hx21 hq=>?_
 refine mputE flV hb 1 2 true s2.2.1 x18 x21 ?_
 exact q8 hb 6 [4,10,11,13,63,64,65,70,71,72] [] 5 (hn2 _ (injO hq)) ⟨(by kernel_rfl),rfl,rfl,(qa _ _ _ _ _),(by kernel_rfl),trivial⟩
 refine idxE hb flV 8 hq fun x22 hx22 hq=>?_
 refine mputE flV hb 1 2 true s2.2.1 x18 x22 ?_
 exact q8 hb 6 [4,10,11,13,63,64,65,70,71,72] [] 5 (hn2 _ (injO hq)) ⟨(by kernel_rfl),rfl,rfl,(qa _ _ _ _ _),(by kernel_rfl),trivial⟩
 exact q8 hb 7 [4,10,11,63,64,65] [] 4 (hn1 _ ((he2 _ (injO hq)).symm)) ⟨(by kernel_rfl),rfl,rfl,(qa _ _ _ _ _),trivial⟩
 refine qbg flS hb 10 3 true 0 s1b.2.2 ?_
 refine q2f hb 3 18 5 ?_
 refine qd hb 0 (gQ2e s1b) (fun s2b=>sl 116 [(4,pt 0),(10,c1 (.mapr 2)),(11,c1 (vO flS 3 s1b.2.2)),(18,c1 (vO flV 4 s2b.2)),(98,c1 (vO flS 3 s1b.2.2)),(99,c1 (vi (s1b.2.2.length:Int))),(100,c1 (vi s2b.1))]) (fun s2b=>[bx zV,none,some (.mp true (encM flV s1b.2.1)),some (arO true flS.sz 0 (flS.f s1b.2.2)),some (arO true flV.sz 0 (flV.f s2b.2))]) [4,10,11,18,98,99,100] [] 5 (s0:=(0,[])) ⟨(by kernel_rfl),rfl,rfl,(qa _ _ _ _ _),(qa _ _ _ _ _),trivial⟩ hq (fun s2b o2 hq hn2 he2=>?_)
 refine ifE hb 5 [101] [] hq ?_ ?_<;>intro hq _
 refine q6b flS hb 6 3 true 0 hq fun x24 hx24 hq=>?_
 refine qeg flS hb 0 3 true 0 hx24 rfl ?_
 refine lookE flV hb 6 2 true false s1b.2.1 x24 (Val.mk 0 0 eS [] []) ?_
 refine qi flV hb 1 4 true 0 (flV.one (q3h s1b.2.1 x24 (Val.mk 0 0 eS [] []))) hq fun l25 hl25 hq=>?_
 exact q8 hb 7 [4,10,11,18,98,99,100] [] 5 (hn2 _ (injO hq)) ⟨(by kernel_rfl),rfl,rfl,(qa _ _ _ _ _),(qa _ _ _ _ _),trivial⟩
 refine qw hb 3 3 true (sz:=flS.sz) (fr:=0) (cs:=flS.f s1b.2.2) (by kernel_rfl) (Nat.zero_le _) ?_
 refine qw hb 0 4 true (sz:=flV.sz) (fr:=0) (cs:=flV.f s2b.2) (by kernel_rfl) (Nat.zero_le _) ?_
 refine q3b hb 3 (vs:=[.cell (vO flS 3 s1b.2.2),.cell (vO flV 4 s2b.2)]) hq (q1i (q2j (q29 flS (b:=true) (id:=3) (fr:=(flS.f s1b.2.2).length) (xs:=s1b.2.2) (by kernel_rfl))) (q1i (q2j (q29 flV (b:=true) (id:=4) (fr:=(flV.f s2b.2).length) (xs:=s2b.2) (by kernel_rfl))) rfl)) (q2r (q38 (q39 flS (nb:=true) (id:=3) (xs:=s1b.2.2) (by kernel_rfl))) (q2r (q38 (q39 flV (nb:=true) (id:=4) (xs:=s2b.2) (by kernel_rfl))) rfl)) (gQa0 hb he s1b.2.2 s2b.2) fun y26 _ hq=>?_
 exact retE hb 5 (he1 _ ((he2 _ (injO hq)).symm))
def gQ0a  (v_:Val):Option (Val×Int) :=
 bif (decide (v_.kind=1)) then some (v_,0) else bif (decide (v_.kind=3)) then bif (decide (v_.str=⟨#[116,114,117,101]⟩)) then (gQ9f true).bind fun y4=>some (y4,0) else bif (decide (v_.str=⟨#[102,97,108,115,101]⟩)) then (gQ9f false).bind fun y6=>some (y6,0) else some ((Val.mk 0 0 eS [] []),6) else some ((Val.mk 0 0 eS [] []),6)
theorem gQ0b (hb:Base E E0 G) (he:∀w,E w->EnvV w)   (v_:Val):∀r_:Val×Int,gQ0a v_=some r_ ->
 Pure E E0 Tryz.prog 187 [.agg (aV v_)] (.tup [.agg (aV r_.1),.cell (vi r_.2)]):=by
 refine fnE hb Tryz.func187 rfl fun r_ hq=>?_
 refine ifE hb 15 [4,7] [] hq ?_ ?_<;>intro hq _
 exact retE hb 7 (injO hq).symm
 refine ifE hb 7 [12,13] [] hq (fun hq hc2=>?_) (fun hq hc2=>?_)
 refine ifE hb 6 [9,16,17] [] hq ?_ ?_<;>intro hq _
 refine q6 hb 3 hq (gQ9g hb he true) fun y4 _ hq=>?_
 exact retE hb 3 (injO hq).symm
 refine knE hb 7 [22,23] [] (b:=(decide (v_.kind=3))) (v:=true) hc2 ?_
 refine ifE hb 6 [19,26,27] [] hq ?_ ?_<;>intro hq _
 refine q6 hb 3 hq (gQ9g hb he false) fun y6 _ hq=>?_
 exact retE hb 3 (injO hq).symm
 exact retE hb 9 (injO hq).symm
 refine knE hb 13 [22,23] [] (b:=(decide (v_.kind=3))) (v:=false) hc2 ?_
 exact retE hb 15 (injO hq).symm
def gQ0c  (v_:Val):Option (Val×Int) :=
 bif (decide (v_.kind=2)) then some (v_,0) else bif (!decide (v_.kind=3)) then some ((Val.mk 0 0 eS [] []),6) else (q72 v_.str).bind fun y3=>bif (!decide (y3.2=0)) then some ((Val.mk 0 0 eS [] []),6) else (gQa3 y3.1).bind fun y5=>some (y5,0)
theorem gQ0d (hb:Base E E0 G) (he:∀w,E w->EnvV w)   (v_:Val):∀r_:Val×Int,gQ0c v_=some r_ ->
 Pure E E0 Tryz.prog 188 [.agg (aV v_)] (.tup [.agg (aV r_.1),.cell (vi r_.2)]):=by
 refine fnE hb Tryz.func188 rfl fun r_ hq=>?_
 refine ifE hb 13 [8] [] hq ?_ ?_<;>intro hq _
 exact retE hb 7 (injO hq).symm
 refine ifE hb 9 [12] [] hq ?_ ?_<;>intro hq _
 exact retE hb 7 (injO hq).symm
 refine q6 hb 6 hq (qvq hb he v_.str) fun y3 _ hq=>?_
 refine ifE hb 12 [21] [] hq ?_ ?_<;>intro hq _
 exact retE hb 7 (injO hq).symm
 refine q6 hb 5 hq (gQa4 hb he y3.1) fun y5 _ hq=>?_
 exact retE hb 3 (injO hq).symm
def gQ0i  (v_:Val):Option (Val×Int) :=
 bif (decide (v_.kind=3)) then some (v_,0) else bif (decide (v_.kind=2)) then (q71 v_.num).bind fun y3=>(gQa5 y3).bind fun y4=>some (y4,0) else bif (decide (v_.kind=1)) then bif (decide (v_.num=1)) then (gQa5 (⟨#[116,114,117,101]⟩:ByteArray)).bind fun y7=>some (y7,0) else (gQa5 (⟨#[102,97,108,115,101]⟩:ByteArray)).bind fun y8=>some (y8,0) else some ((Val.mk 0 0 eS [] []),6)
theorem gQ0j (hb:Base E E0 G) (he:∀w,E w->EnvV w)   (v_:Val):∀r_:Val×Int,gQ0i v_=some r_ ->
 Pure E E0 Tryz.prog 189 [.agg (aV v_)] (.tup [.agg (aV r_.1),.cell (vi r_.2)]):=by
 refine fnE hb Tryz.func189 rfl fun r_ hq=>?_
 refine ifE hb 15 [4,7] [] hq ?_ ?_<;>intro hq _
 exact retE hb 7 (injO hq).symm
 refine ifE hb 8 [9,12] [] hq ?_ ?_<;>intro hq _
 refine q6 hb 5 hq (qs2 hb he v_.num) fun y3 _ hq=>?_
 refine q6 hb 0 hq (gQa6 hb he y3) fun y4 _ hq=>?_
 exact retE hb 3 (injO hq).symm
 refine ifE hb 7 [20,21] [] hq (fun hq hc5=>?_) (fun hq hc5=>?_)
 refine ifE hb 6 [17,24,25] [] hq ?_ ?_<;>intro hq _
 refine q6 hb 3 hq (gQa6 hb he ⟨#[116,114,117,101]⟩) fun y7 _ hq=>?_
 exact retE hb 3 (injO hq).symm
 refine knE hb 8 [27,30] [] (b:=(decide (v_.kind=1))) (v:=true) hc5 ?_
 refine q6 hb 3 hq (gQa6 hb he ⟨#[102,97,108,115,101]⟩) fun y8 _ hq=>?_
 exact retE hb 3 (injO hq).symm
 refine knE hb 14 [27,30] [] (b:=(decide (v_.kind=1))) (v:=false) hc5 ?_
 exact retE hb 9 (injO hq).symm
def gQ07 (r_convert_to:Val->Ty->Option (Val×Int)) (v_:Val) (t_:Ty) (y1:List ByteArray) (s1:Int×List Val):Option ((Int×List Val)⊕(Val×Int)) :=
 bif (decide (s1.1<(v_.items.length:Int))) then (idx v_.items s1.1).bind fun x3=>(r_convert_to x3 t_).bind fun y4=>bif (!decide (y4.2=0)) then some (.inr ((Val.mk 0 0 eS [] []),y4.2)) else (app 80 s1.2 [y4.1]).bind fun l6=>some (.inl ((IntKind.i64.wrap (s1.1+1)),l6)) else some (.inr ((Val.mk v_.kind 0 eS s1.2 y1),0))
def gQ06 (r_convert_to:Val->Ty->Option (Val×Int)) (v_:Val) (t_:Ty):Option (Val×Int) :=
 (clone 16 v_.keys).bind fun y1=>q7 (gQ07 r_convert_to v_ t_ y1) (0,[])
theorem gQ08 (hb:Base E E0 G) (he:∀w,E w->EnvV w) (r_convert_to:Val->Ty->Option (Val×Int)) (hr_convert_to:∀(a0:Val) (a1:Ty) (r:Val×Int),r_convert_to a0 a1=some r->Pure E E0 Tryz.prog 153 [.agg (aV a0),.agg (aT a1)] (.tup [.agg (aV r.1),.cell (vi r.2)])) (v_:Val) (t_:Ty):∀r_:Val×Int,gQ06 r_convert_to v_ t_=some r_ ->
 Pure E E0 Tryz.prog 190 [.agg (aV v_),.agg (aT t_)] (.tup [.agg (aV r_.1),.cell (vi r_.2)]):=by
 refine fnE hb Tryz.func190 rfl fun r_ hq=>?_
 refine qh hb mixed 8 7 [] ?_
 refine q6 hb 4 hq (qde hb he v_.keys) fun y1 _ hq=>?_
 refine q3j hb 14 3 3 5 (cs:=[vi v_.kind,vi 0,vS eS,vN,vL flS y1]) (by kernel_rfl) ?_
 refine qd hb 0 (gQ07 r_convert_to v_ t_ y1) (fun s1=>sl 42 [(3,pt 1),(4,pt 2),(6,pt 3),(18,c1 (vL flV v_.items)),(19,c1 (vi (v_.items.length:Int))),(20,c1 (vi s1.1))]) (fun s1=>[none,bx (aT t_),bx zV,bx [vi v_.kind,vi 0,vS eS,vO flV 4 s1.2,vL flS y1],some (arO true flV.sz 0 (flV.f s1.2))]) [3,4,6,18,19,20] [0] 5 (s0:=(0,[])) ⟨rfl,(by kernel_rfl),(by kernel_rfl),(by kernel_rfl),(qa _ _ _ _ _),trivial⟩ hq (fun s1 o1 hq hn1 he1=>?_)
 refine ifE hb 5 [21] [] hq ?_ ?_<;>intro hq _
 refine idxE hb flV 6 hq fun x3 hx3 hq=>?_
 refine q6 hb 8 hq (hr_convert_to x3 t_) fun y4 _ hq=>?_
 refine ifE hb 13 [31] [] hq ?_ ?_<;>intro hq _
 exact retE hb 8 (he1 _ (injO hq))
 refine qi flV hb 7 4 true 0 (flV.one y4.1) hq fun l6 hl6 hq=>?_
 exact q8 hb 8 [3,4,6,18,19,20] [] 5 (hn1 _ (injO hq)) ⟨rfl,(by kernel_rfl),(by kernel_rfl),(by kernel_rfl),(qa _ _ _ _ _),trivial⟩
 refine qw hb 8 4 true (sz:=flV.sz) (fr:=0) (cs:=flV.f s1.2) (by kernel_rfl) (Nat.zero_le _) ?_
 refine q19 hb 0 2 3 (cs:=[vi v_.kind,vi 0,vS eS,vO flV 4 s1.2,vL flS y1]) (c:=vO flV 4 s1.2) (q1g flV (nb:=true) (id:=4) (xs:=s1.2) (by kernel_rfl)) (by kernel_rfl) ?_
 exact retE hb 0 (he1 _ (injO hq))
def gQ0g (r_convert_to:Val->Ty->Option (Val×Int)) (v_:Val) (t_:Ty) (y5:List ByteArray) (s2:Int×List Val):Option ((Int×List Val)⊕((Int)⊕(Val×Int))) :=
 bif (decide (s2.1<(t_.names.length:Int))) then (idx t_.names s2.1).bind fun x7=>(gQ9m v_ x7).bind fun y8=>(idx t_.elems s2.1).bind fun x9=>(r_convert_to y8.1 x9).bind fun y10=>bif (!decide (y10.2=0)) then some (.inr (.inr ((Val.mk 0 0 eS [] []),y10.2))) else (app 80 s2.2 [y10.1]).bind fun l12=>some (.inl ((IntKind.i64.wrap (s2.1+1)),l12)) else some (.inr (.inr ((Val.mk 5 0 eS s2.2 y5),0)))
def gQ0f (r_convert_to:Val->Ty->Option (Val×Int)) (v_:Val) (t_:Ty) (s1:Int):Option ((Int)⊕(Val×Int)) :=
 bif (decide (s1<(v_.keys.length:Int))) then (idx v_.keys s1).bind fun x2=>(gQ8v t_.names x2).bind fun y3=>bif (!y3) then some (.inr ((Val.mk 0 0 eS [] []),13)) else some (.inl (IntKind.i64.wrap (s1+1))) else (clone 16 t_.names).bind fun y5=>q7 (gQ0g r_convert_to v_ t_ y5) (0,[])
def gQ0e (r_convert_to:Val->Ty->Option (Val×Int)) (v_:Val) (t_:Ty):Option (Val×Int) :=
 q7 (gQ0f r_convert_to v_ t_) 0
theorem gQ0h (hb:Base E E0 G) (he:∀w,E w->EnvV w) (r_convert_to:Val->Ty->Option (Val×Int)) (hr_convert_to:∀(a0:Val) (a1:Ty) (r:Val×Int),r_convert_to a0 a1=some r->Pure E E0 Tryz.prog 153 [.agg (aV a0),.agg (aT a1)] (.tup [.agg (aV r.1),.cell (vi r.2)])) (v_:Val) (t_:Ty):∀r_:Val×Int,gQ0e r_convert_to v_ t_=some r_ ->
 Pure E E0 Tryz.prog 191 [.agg (aV v_),.agg (aT t_)] (.tup [.agg (aV r_.1),.cell (vi r_.2)]):=by
 refine fnE hb Tryz.func191 rfl fun r_ hq=>?_
 refine qd hb 16 (gQ0f r_convert_to v_ t_) (fun s1=>sl 69 [(2,pt 0),(3,pt 1),(4,pt 2),(16,c1 (vL flS v_.keys)),(17,c1 (vi (v_.keys.length:Int))),(18,c1 (vi s1))]) (fun s1=>[bx (aV v_),bx (aT t_),bx zV]) [2,3,4,16,17,18] [] 3 (s0:=0) ⟨(by kernel_rfl),(by kernel_rfl),(by kernel_rfl),trivial⟩ hq (fun s1 o1 hq hn1 he1=>?_)
 refine ifE hb 5 [19] [] hq ?_ ?_<;>intro hq _
 refine idxE hb flS 6 hq fun x2 hx2 hq=>?_
 refine q6 hb 8 hq (gQ8w hb he t_.names x2) fun y3 _ hq=>?_
 refine ifE hb 2 [26] [] hq ?_ ?_<;>intro hq _
 exact retE hb 7 (he1 _ (injO hq))
 exact q8 hb 7 [2,3,4,16,17,18] [] 3 (hn1 _ (injO hq)) ⟨(by kernel_rfl),(by kernel_rfl),(by kernel_rfl),trivial⟩
 refine q6 hb 6 hq (qde hb he t_.names) fun y5 _ hq=>?_
 refine q3j hb 13 3 3 5 (cs:=[vi 5,vi 0,vS eS,vN,vL flS y5]) (by kernel_rfl) ?_
 refine qd hb 0 (gQ0g r_convert_to v_ t_ y5) (fun s2=>sl 69 [(2,pt 0),(3,pt 1),(4,pt 2),(8,pt 3),(34,c1 (vL flS t_.names)),(35,c1 (vi (t_.names.length:Int))),(36,c1 (vi s2.1))]) (fun s2=>[bx (aV v_),bx (aT t_),bx zV,bx [vi 5,vi 0,vS eS,vO flV 4 s2.2,vL flS y5],some (arO true flV.sz 0 (flV.f s2.2))]) [2,3,4,8,34,35,36] [] 5 (s0:=(0,[])) ⟨(by kernel_rfl),(by kernel_rfl),(by kernel_rfl),(by kernel_rfl),(qa _ _ _ _ _),trivial⟩ hq (fun s2 o2 hq hn2 he2=>?_)
 refine ifE hb 5 [37] [] hq ?_ ?_<;>intro hq _
 refine idxE hb flS 7 hq fun x7 hx7 hq=>?_
 refine q6 hb 8 hq (gQ9n hb he v_ x7) fun y8 _ hq=>?_
 refine qh hb mixed 8 11 [9] ?_
 refine idxE hb flT 4 hq fun x9 hx9 hq=>?_
 refine q6 hb 1 hq (hr_convert_to y8.1 x9) fun y10 _ hq=>?_
 refine ifE hb 14 [58] [] hq ?_ ?_<;>intro hq _
 exact retE hb 8 (he1 _ ((he2 _ (injO hq)).symm))
 refine qi flV hb 7 4 true 0 (flV.one y10.1) hq fun l12 hl12 hq=>?_
 exact q8 hb 8 [2,3,4,8,34,35,36] [] 5 (hn2 _ (injO hq)) ⟨(by kernel_rfl),(by kernel_rfl),(by kernel_rfl),(by kernel_rfl),(qa _ _ _ _ _),trivial⟩
 refine qw hb 8 4 true (sz:=flV.sz) (fr:=0) (cs:=flV.f s2.2) (by kernel_rfl) (Nat.zero_le _) ?_
 refine q19 hb 0 2 3 (cs:=[vi 5,vi 0,vS eS,vO flV 4 s2.2,vL flS y5]) (c:=vO flV 4 s2.2) (q1g flV (nb:=true) (id:=4) (xs:=s2.2) (by kernel_rfl)) (by kernel_rfl) ?_
 exact retE hb 0 (he1 _ ((he2 _ (injO hq)).symm))
def gQ09 (r_convert_toObject:Val->Ty->Option (Val×Int)) (r_convert_each:Val->Ty->Option (Val×Int)) (v_:Val) (t_:Ty):Option (Val×Int) :=
 bif (decide (t_.kind=0)) then (cpy v_).bind fun y2=>some (y2,0) else bif (decide (v_.kind=0)) then (cpy v_).bind fun y4=>some (y4,0) else bif (decide (v_.kind=6)) then (cpy v_).bind fun y6=>some (y6,0) else bif (decide (t_.kind=1)) then (gQ0a v_).bind fun y8=>some (y8.1,y8.2) else bif (decide (t_.kind=2)) then (gQ0c v_).bind fun y10=>some (y10.1,y10.2) else bif (decide (t_.kind=3)) then (gQ0i v_).bind fun y12=>some (y12.1,y12.2) else bif (decide (t_.kind=4)) then bif (decide (v_.kind=4)) then (idx t_.elems 0).bind fun x15=>(r_convert_each v_ x15).bind fun y16=>some (y16.1,y16.2) else some ((Val.mk 0 0 eS [] []),6) else bif (decide (t_.kind=5)) then bif (decide (v_.kind=5)) then (idx t_.elems 0).bind fun x19=>(r_convert_each v_ x19).bind fun y20=>some (y20.1,y20.2) else some ((Val.mk 0 0 eS [] []),6) else bif (decide (t_.kind=6)) then bif (decide (v_.kind=5)) then (r_convert_toObject v_ t_).bind fun y23=>some (y23.1,y23.2) else some ((Val.mk 0 0 eS [] []),6) else some ((Val.mk 0 0 eS [] []),6)
theorem gQ0k (hb:Base E E0 G) (he:∀w,E w->EnvV w) (r_convert_toObject:Val->Ty->Option (Val×Int)) (r_convert_each:Val->Ty->Option (Val×Int)) (hr_convert_toObject:∀(a0:Val) (a1:Ty) (r:Val×Int),r_convert_toObject a0 a1=some r->Pure E E0 Tryz.prog 191 [.agg (aV a0),.agg (aT a1)] (.tup [.agg (aV r.1),.cell (vi r.2)])) (hr_convert_each:∀(a0:Val) (a1:Ty) (r:Val×Int),r_convert_each a0 a1=some r->Pure E E0 Tryz.prog 190 [.agg (aV a0),.agg (aT a1)] (.tup [.agg (aV r.1),.cell (vi r.2)])) (v_:Val) (t_:Ty):∀r_:Val×Int,gQ09 r_convert_toObject r_convert_each v_ t_=some r_ ->
 Pure E E0 Tryz.prog 153 [.agg (aV v_),.agg (aT t_)] (.tup [.agg (aV r_.1),.cell (vi r_.2)]):=by
 refine fnE hb Tryz.func153 rfl fun r_ hq=>?_
 refine ifE hb 14 [8,9] [] hq ?_ ?_<;>intro hq _
 refine q6 hb 14 hq (qdj hb he v_) fun y2 _ hq=>?_
 exact retE hb 3 (injO hq).symm
 refine ifE hb 5 [12,13,14] [] hq ?_ ?_<;>intro hq _
 refine q6 hb 9 hq (qdj hb he v_) fun y4 _ hq=>?_
 exact retE hb 3 (injO hq).symm
 refine ifE hb 5 [17,18] [] hq ?_ ?_<;>intro hq _
 refine q6 hb 4 hq (qdj hb he v_) fun y6 _ hq=>?_
 exact retE hb 3 (injO hq).symm
 refine ifE hb 14 [23,24] [] hq ?_ ?_<;>intro hq _
 refine q6 hb 4 hq (gQ0b hb he v_) fun y8 _ hq=>?_
 exact retE hb 5 (injO hq).symm
 refine ifE hb 6 [29,30] [] hq ?_ ?_<;>intro hq _
 refine q6 hb 4 hq (gQ0d hb he v_) fun y10 _ hq=>?_
 exact retE hb 5 (injO hq).symm
 refine ifE hb 6 [35,36] [] hq ?_ ?_<;>intro hq _
 refine q6 hb 4 hq (gQ0j hb he v_) fun y12 _ hq=>?_
 exact retE hb 5 (injO hq).symm
 refine ifE hb 6 [41,42] [] hq ?_ ?_<;>intro hq _
 refine ifE hb 7 [45] [] hq ?_ ?_<;>intro hq _
 refine qh hb mixed 2 7 [6] ?_
 refine idxE hb flT 3 hq fun x15 hx15 hq=>?_
 refine q6 hb 1 hq (hr_convert_each v_ x15) fun y16 _ hq=>?_
 exact retE hb 6 (injO hq).symm
 exact retE hb 9 (injO hq).symm
 refine ifE hb 6 [54,55] [] hq ?_ ?_<;>intro hq _
 refine ifE hb 7 [58] [] hq ?_ ?_<;>intro hq _
 refine qh hb mixed 2 7 [6] ?_
 refine idxE hb flT 3 hq fun x19 hx19 hq=>?_
 refine q6 hb 1 hq (hr_convert_each v_ x19) fun y20 _ hq=>?_
 exact retE hb 6 (injO hq).symm
 exact retE hb 9 (injO hq).symm
 refine ifE hb 6 [67,68] [] hq ?_ ?_<;>intro hq _
 refine ifE hb 7 [71] [] hq ?_ ?_<;>intro hq _
 refine q6 hb 5 hq (hr_convert_toObject v_ t_) fun y23 _ hq=>?_
 exact retE hb 5 (injO hq).symm
 exact retE hb 9 (injO hq).symm
 exact retE hb 9 (injO hq).symm
def tQag (rec:Ty->Val->Option (Val×Int)) (a:Ty) (b:Val):Option (Val×Int) :=
 gQ09 (gQ0e (fun a0 a1=>rec a1 a0)) (gQ06 (fun a0 a1=>rec a1 a0)) b a
def tQae (a0:Val) (a1:Ty):Option (Val×Int):=tieF relT wfT tQag a1 a0
theorem tQaf (hb:Base E E0 G) (he:∀w,E w->EnvV w) (a0:Val) (a1:Ty) (r:Val×Int) (hq:tQae a0 a1=some r):Pure E E0 Tryz.prog 153 [.agg (aV a0),.agg (aT a1)] (.tup [.agg (aV r.1),.cell (vi r.2)]) :=
 q4b (C:=fun a b r=>Pure E E0 Tryz.prog 153 [.agg (aV b),.agg (aT a)] (.tup [.agg (aV r.1),.cell (vi r.2)])) (fun rec hr a b r hq=>gQ0k hb he (gQ0e (fun a0 a1=>rec a1 a0)) (gQ06 (fun a0 a1=>rec a1 a0)) (gQ0h hb he (fun a0 a1=>rec a1 a0) (fun a0 a1 r e=>hr a1 a0 r e)) (gQ08 hb he (fun a0 a1=>rec a1 a0) (fun a0 a1 r e=>hr a1 a0 r e)) b a r hq) a1 a0 r hq
def gQ04  (v_:Val) (t_:Ty):Option (Val×Int) :=
 (tQae v_ t_).bind fun y1=>bif (decide (y1.2=0)) then (q2e y1.1).bind fun y3=>bif (!decide (y3=0)) then some ((Val.mk 0 0 eS [] []),y3) else some (y1.1,0) else some ((Val.mk 0 0 eS [] []),y1.2)
theorem gQ05 (hb:Base E E0 G) (he:∀w,E w->EnvV w)   (v_:Val) (t_:Ty):∀r_:Val×Int,gQ04 v_ t_=some r_ ->
 Pure E E0 Tryz.prog 96 [.agg (aV v_),.agg (aT t_)] (.tup [.agg (aV r_.1),.cell (vi r_.2)]):=by
 refine fnE hb Tryz.func96 rfl fun r_ hq=>?_
 refine q6 hb 11 hq (tQaf hb he v_ t_) fun y1 _ hq=>?_
 refine ifE hb 13 [15] [] hq (fun hq _=>?_) (fun hq hc2=>?_)
 refine q6 hb 3 hq (qfa hb he y1.1) fun y3 _ hq=>?_
 refine ifE hb 8 [19] [] hq ?_ ?_<;>intro hq _
 exact retE hb 8 (injO hq).symm
 exact retE hb 8 (injO hq).symm
 refine knE hb 8 [19] [] (b:=(!decide (y1.2=0))) (v:=true) (congrArg (fun z=>!z) hc2) ?_
 exact retE hb 8 (injO hq).symm
def gQa1  :Option (Val) :=
 some (Val.mk 0 0 eS [] [])
theorem gQa2 (hb:Base E E0 G) (he:∀w,E w->EnvV w)   :∀r_:Val,gQa1=some r_ ->
 Pure E E0 Tryz.prog 97 [] (.one (.agg (aV r_))):=by
 refine fnE hb Tryz.func97 rfl fun r_ hq=>?_
 exact retE hb 9 (injO hq).symm
def gQ1o (args_:List Val) (s1:Int):Option ((Int)⊕(Val×Int)) :=
 bif (decide (s1<(args_.length:Int))) then (idx args_ s1).bind fun x11=>bif (!decide (x11.kind=0)) then some (.inr (x11,0)) else some (.inl (IntKind.i64.wrap (s1+1))) else (gQa1).bind fun y13=>some (.inr (y13,0))
def gQ1n  (name_:ByteArray) (args_:List Val):Option (Val×Int) :=
 bif (decide (name_=⟨#[116,111,98,111,111,108]⟩)) then (idx args_ 0).bind fun x2=>(gQ04 x2 (Ty.mk 1 [] [])).bind fun y3=>some (y3.1,y3.2) else bif (decide (name_=⟨#[116,111,110,117,109,98,101,114]⟩)) then (idx args_ 0).bind fun x5=>(gQ04 x5 (Ty.mk 2 [] [])).bind fun y6=>some (y6.1,y6.2) else bif (decide (name_=⟨#[116,111,115,116,114,105,110,103]⟩)) then (idx args_ 0).bind fun x8=>(gQ04 x8 (Ty.mk 3 [] [])).bind fun y9=>some (y9.1,y9.2) else q7 (gQ1o args_) 0
theorem gQ1p (hb:Base E E0 G) (he:∀w,E w->EnvV w)   (name_:ByteArray) (args_:List Val):∀r_:Val×Int,gQ1n name_ args_=some r_ ->
 Pure E E0 Tryz.prog 56 [.cell (vS name_),.cell (vL flV args_)] (.tup [.agg (aV r_.1),.cell (vi r_.2)]):=by
 refine fnE hb Tryz.func56 rfl fun r_ hq=>?_
 refine ifE hb 16 [9,10] [] hq ?_ ?_<;>intro hq _
 refine idxE hb flV 4 hq fun x2 hx2 hq=>?_
 refine q6 hb 2 hq (gQ05 hb he x2 (Ty.mk 1 [] [])) fun y3 _ hq=>?_
 exact retE hb 5 (injO hq).symm
 refine ifE hb 6 [18,19] [] hq ?_ ?_<;>intro hq _
 refine idxE hb flV 4 hq fun x5 hx5 hq=>?_
 refine q6 hb 2 hq (gQ05 hb he x5 (Ty.mk 2 [] [])) fun y6 _ hq=>?_
 exact retE hb 5 (injO hq).symm
 refine ifE hb 6 [27,28] [] hq ?_ ?_<;>intro hq _
 refine idxE hb flV 4 hq fun x8 hx8 hq=>?_
 refine q6 hb 2 hq (gQ05 hb he x8 (Ty.mk 3 [] [])) fun y9 _ hq=>?_
 exact retE hb 5 (injO hq).symm
 refine qd hb 11 (gQ1o args_) (fun s1=>sl 48 [(4,pt 0),(36,c1 (vL flV args_)),(37,c1 (vi (args_.length:Int))),(38,c1 (vi s1))]) (fun s1=>[bx zV]) [4,36,37,38] [] 1 (s0:=0) ⟨(by kernel_rfl),trivial⟩ hq (fun s1 o1 hq hn1 he1=>?_)
 refine ifE hb 5 [39] [] hq ?_ ?_<;>intro hq _
 refine idxE hb flV 6 hq fun x11 hx11 hq=>?_
 refine ifE hb 10 [44] [] hq ?_ ?_<;>intro hq _
 exact retE hb 7 (he1 _ (injO hq))
 exact q8 hb 7 [4,36,37,38] [] 1 (hn1 _ (injO hq)) ⟨(by kernel_rfl),trivial⟩
 refine q6 hb 4 hq (gQa2 hb he ) fun y13 _ hq=>?_
 exact retE hb 3 (he1 _ (injO hq))
def gQ3r  (a_:Int) (b_:Int):Option (Int×Int) :=
 (gQ3v a_).bind fun y1=>bif (!y1) then some (0,1) else (gQ3v b_).bind fun y3=>bif (!y3) then some (0,1) else bif (decide (b_=0)) then some (0,15) else (quo .i64 a_ b_).bind fun x6=>(rem b_ a_).bind fun x7=>bif (!decide (x7=0)) then bif (!((decide (a_<0))==(decide (b_<0)))) then some ((IntKind.i64.wrap (x6 - 1)),0) else some (x6,0) else some (x6,0)
theorem gQ3s (hb:Base E E0 G) (he:∀w,E w->EnvV w)   (a_:Int) (b_:Int):∀r_:Int×Int,gQ3r a_ b_=some r_ ->
 Pure E E0 Tryz.prog 192 [.cell (vi a_),.cell (vi b_)] (.tup [.cell (vi r_.1),.cell (vi r_.2)]):=by
 refine fnE hb Tryz.func192 rfl fun r_ hq=>?_
 refine q6 hb 9 hq (gQ3w hb he a_) fun y1 _ hq=>?_
 refine ifE hb 2 [9,10] [] hq ?_ ?_<;>intro hq _
 exact retE hb 11 (injO hq).symm
 refine q6 hb 1 hq (gQ3w hb he b_) fun y3 _ hq=>?_
 refine ifE hb 3 [13,14] [] hq ?_ ?_<;>intro hq _
 exact retE hb 6 (injO hq).symm
 refine ifE hb 8 [16] [] hq ?_ ?_<;>intro hq _
 exact retE hb 6 (injO hq).symm
 refine quoE hb 6 hq fun x6 hx6 hq=>?_
 refine remE (kd:=.i64) hb 7 hq fun x7 hx7 hq=>?_
 refine ifE hb 2 [23,24] [] hq ?_ ?_<;>intro hq _
 refine ifE hb 7 [29,30] [] hq ?_ ?_<;>intro hq _
 exact retE hb 12 (injO hq).symm
 exact retE hb 8 (injO hq).symm
 exact retE hb 15 (injO hq).symm
def gQ3t  (a_:Int) (b_:Int):Option (Int×Int) :=
 (gQ3r a_ b_).bind fun y1=>bif (!decide (y1.2=0)) then some (0,y1.2) else some ((IntKind.i64.wrap (a_-(IntKind.i64.wrap (b_*y1.1)))),0)
theorem gQ3u (hb:Base E E0 G) (he:∀w,E w->EnvV w)   (a_:Int) (b_:Int):∀r_:Int×Int,gQ3t a_ b_=some r_ ->
 Pure E E0 Tryz.prog 154 [.cell (vi a_),.cell (vi b_)] (.tup [.cell (vi r_.1),.cell (vi r_.2)]):=by
 refine fnE hb Tryz.func154 rfl fun r_ hq=>?_
 refine q6 hb 9 hq (gQ3s hb he a_ b_) fun y1 _ hq=>?_
 refine ifE hb 12 [15] [] hq ?_ ?_<;>intro hq _
 exact retE hb 7 (injO hq).symm
 exact retE hb 12 (injO hq).symm
def gQ16  (l_:Val) (n_:Val):Option (Val×Int) :=
 bif (decide (l_.kind=4)) then bif (decide ((l_.items.length:Int)=0)) then some ((Val.mk 0 0 eS [] []),16) else bif (decide (l_.kind=6)) then (gQa7).bind fun y4=>some (y4,0) else bif (decide (n_.kind=6)) then (gQa7).bind fun y6=>some (y6,0) else (gQ3t n_.num (l_.items.length:Int)).bind fun y7=>bif (!decide (y7.2=0)) then some ((Val.mk 0 0 eS [] []),y7.2) else (idx l_.items y7.1).bind fun x9=>some (x9,0) else bif (decide (l_.kind=6)) then (gQa7).bind fun y11=>some (y11,0) else bif (decide (n_.kind=6)) then (gQa7).bind fun y13=>some (y13,0) else (gQ3t n_.num (l_.items.length:Int)).bind fun y14=>bif (!decide (y14.2=0)) then some ((Val.mk 0 0 eS [] []),y14.2) else (idx l_.items y14.1).bind fun x16=>some (x16,0)
theorem gQ17 (hb:Base E E0 G) (he:∀w,E w->EnvV w)   (l_:Val) (n_:Val):∀r_:Val×Int,gQ16 l_ n_=some r_ ->
 Pure E E0 Tryz.prog 98 [.agg (aV l_),.agg (aV n_)] (.tup [.agg (aV r_.1),.cell (vi r_.2)]):=by
 refine fnE hb Tryz.func98 rfl fun r_ hq=>?_
 refine ifE hb 14 [10,11] [] hq ?_ ?_<;>intro hq _
 refine ifE hb 6 [15,16] [] hq ?_ ?_<;>intro hq _
 exact retE hb 7 (injO hq).symm
 refine ifE hb 9 [20,21] [] hq ?_ ?_<;>intro hq _
 refine q6 hb 8 hq (gQa8 hb he ) fun y4 _ hq=>?_
 exact retE hb 3 (injO hq).symm
 refine ifE hb 5 [24,25] [] hq ?_ ?_<;>intro hq _
 refine q6 hb 3 hq (gQa8 hb he ) fun y6 _ hq=>?_
 exact retE hb 3 (injO hq).symm
 refine q6 hb 9 hq (gQ3u hb he n_.num (l_.items.length:Int)) fun y7 _ hq=>?_
 refine ifE hb 12 [37] [] hq ?_ ?_<;>intro hq _
 exact retE hb 8 (injO hq).symm
 refine idxE hb flV 7 hq fun x9 hx9 hq=>?_
 exact retE hb 4 (injO hq).symm
 refine ifE hb 15 [20,21] [] hq ?_ ?_<;>intro hq _
 refine q6 hb 8 hq (gQa8 hb he ) fun y11 _ hq=>?_
 exact retE hb 3 (injO hq).symm
 refine ifE hb 5 [24,25] [] hq ?_ ?_<;>intro hq _
 refine q6 hb 3 hq (gQa8 hb he ) fun y13 _ hq=>?_
 exact retE hb 3 (injO hq).symm
 refine q6 hb 9 hq (gQ3u hb he n_.num (l_.items.length:Int)) fun y14 _ hq=>?_
 refine ifE hb 12 [37] [] hq ?_ ?_<;>intro hq _
 exact retE hb 8 (injO hq).symm
 refine idxE hb flV 7 hq fun x16 hx16 hq=>?_
 exact retE hb 4 (injO hq).symm
def gQ9d  (s_:ByteArray):Option (Int) :=
 (qer s_).bind fun y1=>some (y1)
theorem gQ9e (hb:Base E E0 G) (he:∀w,E w->EnvV w)   (s_:ByteArray):∀r_:Int,gQ9d s_=some r_ ->
 Pure E E0 Tryz.prog 155 [.cell (vS s_)] (c1 (vi r_)):=by
 refine fnE hb Tryz.func155 rfl fun r_ hq=>?_
 refine q6 hb 7 hq (qyf hb he s_) fun y1 _ hq=>?_
 exact retE hb 2 (injO hq).symm
def gQ1w  (v_:Val):Option (Val) :=
 bif (decide (v_.kind=3)) then (gQ9d v_.str).bind fun y2=>(gQa3 y2).bind fun y3=>some (y3) else (gQa3 (v_.items.length:Int)).bind fun y4=>some (y4)
theorem gQ1x (hb:Base E E0 G) (he:∀w,E w->EnvV w)   (v_:Val):∀r_:Val,gQ1w v_=some r_ ->
 Pure E E0 Tryz.prog 99 [.agg (aV v_)] (.one (.agg (aV r_))):=by
 refine fnE hb Tryz.func99 rfl fun r_ hq=>?_
 refine ifE hb 12 [5] [] hq ?_ ?_<;>intro hq _
 refine q6 hb 5 hq (gQ9e hb he v_.str) fun y2 _ hq=>?_
 refine q6 hb 0 hq (gQa4 hb he y2) fun y3 _ hq=>?_
 exact retE hb 2 (injO hq).symm
 refine q6 hb 7 hq (gQa4 hb he (v_.items.length:Int)) fun y4 _ hq=>?_
 exact retE hb 2 (injO hq).symm
def gQ22  (x1:Val):Option (Unit) :=
 some ()
theorem gQ23 (hb:Base E E0 G) (he:∀w,E w->EnvV w)   (x1:Val):∀r_:Unit,gQ22 x1=some r_ ->
 Ok E E0 Tryz.prog 100 [.cell (vL flV [])] [bx zV,bx (aV x1)] (.tup []) [bx zV,bx (aV x1)]:=by
 refine fnO2 hb Tryz.func100 rfl fun r_ hq=>?_
 refine peelE hb 9 ?_
 exact qif hb 9 (σ1:=fun r_:Unit=>[bx zV,bx (aV x1)]) (injO hq).symm
def gQ25  (s1i:Int×Int×List Val):Option ((Int×Int×List Val)⊕(List Val)) :=
 bif (decide (s1i.1<s1i.2.1)) then (idx s1i.2.2 s1i.2.1).bind fun x18=>(idx s1i.2.2 s1i.1).bind fun x19=>(idx s1i.2.2 s1i.1).bind fun x20=>(idx (upd s1i.2.2 s1i.1 x18) s1i.2.1).bind fun x21=>some (.inl ((IntKind.i64.wrap (s1i.1+1)),(IntKind.i64.wrap (s1i.2.1 - 1)),(upd (upd s1i.2.2 s1i.1 x18) s1i.2.1 x19))) else some (.inr (s1i.2.2))
def gQ24  (x1:Val) (l16:List Val):Option (List Val) :=
 q7 gQ25 (0,(IntKind.i64.wrap ((l16.length:Int) - 1)),l16)
theorem gQ26 (hb:Base E E0 G) (he:∀w,E w->EnvV w)   (x1:Val) (l16:List Val):∀r_:List Val,gQ24 x1 l16=some r_ ->
 Ok E E0 Tryz.prog 100 [.cell (vO flV 2 l16)] [bx zV,bx (aV x1),some (arO false flV.sz 0 (flV.f l16))] (.tup []) [bx zV,bx (aV x1),some (arO false flV.sz 0 (flV.f r_))]:=by
 refine fnO2 hb Tryz.func100 rfl fun r_ hq=>?_
 refine qbg flV hb 3 2 false 0 l16 ?_
 refine qd hb 5 gQ25 (fun s1i=>sl 28 [(0,c1 (vO flV 2 s1i.2.2)),(2,c1 (vi s1i.1)),(3,c1 (vi s1i.2.1))]) (fun s1i=>[bx zV,bx (aV x1),some (arO false flV.sz 0 (flV.f s1i.2.2))]) [0,2,3] [] 3 (s0:=(0,(IntKind.i64.wrap ((l16.length:Int) - 1)),l16)) ⟨(by kernel_rfl),(by kernel_rfl),(qa _ _ _ _ _),trivial⟩ hq (fun s1i o1 hq hn1 he1=>?_)
 refine ifE hb 7 [9] [] hq ?_ ?_<;>intro hq _
 refine qh hb mixed 4 12 [2,3] ?_
 refine q6b flV hb 6 2 false 0 hq fun x18 hx18 hq=>?_
 refine qki flV hb 0 2 false 0 hx18 ?_
 refine q6b flV hb 2 2 false 0 hq fun x19 hx19 hq=>?_
 refine qki flV hb 0 2 false 0 hx19 ?_
 refine q6b flV hb 1 2 false 0 hq fun x20 hx20 hq=>?_
 refine qfz flV hb 0 2 hx20 x18 ?_
 refine qso hb flV 0 2 false 0 (xs:=s1i.2.2) (ys:=(upd s1i.2.2 s1i.1 x18)) (qa1 s1i.2.2 s1i.1 x18) hq fun x21 hx21 hq=>?_
 refine qfz flV hb 0 2 hx21 x19 ?_
 refine q3c hb 2 0 (c:=vO flV 2 s1i.2.2) (q7t (q7b flV (qa1 s1i.2.2 s1i.1 x18))) ?_
 refine q3c hb 0 0 (c:=vO flV 2 (upd s1i.2.2 s1i.1 x18)) (q7t (q7b flV (qa1 (upd s1i.2.2 s1i.1 x18) s1i.2.1 x19))) ?_
 exact q8 hb 8 [0,2,3] [] 3 (hn1 _ (injO hq)) ⟨(by kernel_rfl),(by kernel_rfl),(qa _ _ _ _ _),trivial⟩
 exact qif hb 2 (σ1:=fun r_:List Val=>[bx zV,bx (aV x1),some (arO false flV.sz 0 (flV.f r_))]) (he1 _ (injO hq))
def gQ21 (args_:List Val) (s1:Int×List Val):Option ((Int×List Val)⊕(Val×Int)) :=
 bif (decide (s1.1<(args_.length:Int))) then (idx args_ s1.1).bind fun x4=>(app 80 s1.2 x4.items).bind fun l5=>some (.inl ((IntKind.i64.wrap (s1.1+1)),l5)) else (gQ1y s1.2).bind fun y6=>some (.inr (y6,0))
def gQ20  (name_:ByteArray) (args_:List Val):Option (Val×Int) :=
 (idx args_ 0).bind fun x1=>bif (decide (name_=⟨#[99,111,110,99,97,116]⟩)) then q7 (gQ21 args_) (0,[]) else bif (decide (name_=⟨#[101,108,101,109,101,110,116]⟩)) then (idx args_ 1).bind fun x8=>(gQ16 x1 x8).bind fun y9=>some (y9.1,y9.2) else bif (decide (name_=⟨#[108,101,110,103,116,104]⟩)) then (gQ1w x1).bind fun y11=>some (y11,0) else bif (decide (name_=⟨#[114,101,118,101,114,115,101]⟩)) then bif (decide ((x1.items.length:Int)=0)) then (gQ22 x1).bind fun y14=>(gQ1y []).bind fun y15=>some (y15,0) else (clone 80 x1.items).bind fun l16=>(gQ24 x1 l16).bind fun y22=>bif decide ((y22.length:Int)=(l16.length:Int)) then (gQ1y y22).bind fun y24=>some (y24,0) else none else bif (decide (name_=⟨#[115,108,105,99,101]⟩)) then (idx args_ 1).bind fun x26=>(idx args_ 2).bind fun x27=>bif (decide (x26.num<0)) then some ((Val.mk 0 0 eS [] []),16) else bif (decide (x27.num<x26.num)) then some ((Val.mk 0 0 eS [] []),16) else bif (decide (x27.num > (x1.items.length:Int))) then some ((Val.mk 0 0 eS [] []),16) else (slc x1.items x26.num x27.num).bind fun x31=>(gQ1y x31).bind fun y33=>some (y33,0) else bif (decide (name_=⟨#[115,111,114,116]⟩)) then bif (decide ((x1.items.length:Int)=0)) then (gQ1y []).bind fun y36=>some (y36,0) else (clone 80 x1.items).bind fun l37=>(q9k l37).bind fun l38=>(gQ1y l38).bind fun y39=>some (y39,0) else some ((Val.mk 0 0 eS [] []),17)
theorem gQ27 (hb:Base E E0 G) (he:∀w,E w->EnvV w)   (name_:ByteArray) (args_:List Val):∀r_:Val×Int,gQ20 name_ args_=some r_ ->
 Pure E E0 Tryz.prog 57 [.cell (vS name_),.cell (vL flV args_)] (.tup [.agg (aV r_.1),.cell (vi r_.2)]):=by
 refine fnE hb Tryz.func57 rfl fun r_ hq=>?_
 refine idxE hb flV 8 hq fun x1 hx1 hq=>?_
 refine ifE hb 15 [18,19] [] hq ?_ ?_<;>intro hq _
 refine q2f hb 13 7 5 ?_
 refine qd hb 0 (gQ21 args_) (fun s1=>sl 96 [(4,pt 0),(7,c1 (vO flV 2 s1.2)),(20,c1 (vL flV args_)),(21,c1 (vi (args_.length:Int))),(22,c1 (vi s1.1))]) (fun s1=>[bx zV,none,some (arO true flV.sz 0 (flV.f s1.2))]) [4,7,20,21,22] [1] 3 (s0:=(0,[])) ⟨(by kernel_rfl),rfl,(qa _ _ _ _ _),trivial⟩ hq (fun s1 o1 hq hn1 he1=>?_)
 refine ifE hb 5 [23] [] hq ?_ ?_<;>intro hq _
 refine idxE hb flV 6 hq fun x4 hx4 hq=>?_
 refine qi flV hb 8 2 true 0 rfl hq fun l5 hl5 hq=>?_
 exact q8 hb 7 [4,7,20,21,22] [] 3 (hn1 _ (injO hq)) ⟨(by kernel_rfl),rfl,(qa _ _ _ _ _),trivial⟩
 refine qw hb 3 2 true (sz:=flV.sz) (fr:=0) (cs:=flV.f s1.2) (by kernel_rfl) (Nat.zero_le _) ?_
 refine q3b hb 2 (vs:=[.cell (vO flV 2 s1.2)]) hq (q1i (q2j (q29 flV (b:=true) (id:=2) (fr:=(flV.f s1.2).length) (xs:=s1.2) (by kernel_rfl))) rfl) (q2r (q38 (q39 flV (nb:=true) (id:=2) (xs:=s1.2) (by kernel_rfl))) rfl) (gQ1z hb he s1.2) fun y6 _ hq=>?_
 exact retE hb 3 (he1 _ (injO hq))
 refine ifE hb 6 [33,34] [] hq ?_ ?_<;>intro hq _
 refine qh hb mixed 2 6 [5] ?_
 refine idxE hb flV 2 hq fun x8 hx8 hq=>?_
 refine q6 hb 1 hq (gQ17 hb he x1 x8) fun y9 _ hq=>?_
 exact retE hb 6 (injO hq).symm
 refine ifE hb 6 [42,43] [] hq ?_ ?_<;>intro hq _
 refine q6 hb 4 hq (gQ1x hb he x1) fun y11 _ hq=>?_
 exact retE hb 3 (injO hq).symm
 refine ifE hb 6 [46,47] [] hq ?_ ?_<;>intro hq _
 refine ifE hb 5 [] [] hq (fun hq hc13=>?_) (fun hq hc13=>?_)
 refine qd9 hb 0 (qi0 hb he x1.items hc13) ?_
 refine qhh hb 5 hq (gQ23 hb he x1) fun y14 _ hq=>?_
 refine q6 hb 4 hq (gQ1z hb he []) fun y15 _ hq=>?_
 exact retE hb 3 (injO hq).symm
 refine q93 hb 0 hq (qhz hb he _ x1.items hc13) fun l16 hl16 hq=>?_
 refine qhh hb 5 hq (gQ26 hb he x1 l16) fun y22 _ hq=>?_
 refine chkE hq (fun hl23 hq=>?_)
 refine q3c hb 1 10 (c:=vO flV 2 l16) (q7t (q7b flV (len_of hl23))) ?_
 refine qw hb 1 2 false (sz:=flV.sz) (fr:=0) (cs:=flV.f y22) (by kernel_rfl) (Nat.zero_le _) ?_
 refine q3b hb 2 (vs:=[.cell (vO flV 2 y22)]) hq (q1i (q2j (q29 flV (b:=false) (id:=2) (fr:=(flV.f y22).length) (xs:=y22) (by kernel_rfl))) rfl) (q2r (q38 (q39 flV (nb:=false) (id:=2) (xs:=y22) (by kernel_rfl))) rfl) (gQ1z hb he y22) fun y24 _ hq=>?_
 exact retE hb 3 (injO hq).symm
 refine ifE hb 6 [55,56] [] hq ?_ ?_<;>intro hq _
 refine qh hb mixed 2 9 [] ?_
 refine idxE hb flV 1 hq fun x26 hx26 hq=>?_
 refine idxE hb flV 3 hq fun x27 hx27 hq=>?_
 refine ifE hb 12 [66,67] [] hq ?_ ?_<;>intro hq _
 exact retE hb 19 (injO hq).symm
 refine ifE hb 5 [70,71,72] [] hq ?_ ?_<;>intro hq _
 exact retE hb 14 (injO hq).symm
 refine ifE hb 7 [77,78] [] hq ?_ ?_<;>intro hq _
 exact retE hb 7 (injO hq).symm
 refine slcE hb flV 8 hq fun x31 hx31 hq fb32=>?_
 refine q6 hb 0 hq (gQ1z hb he x31) fun y33 _ hq=>?_
 exact retE hb 3 (injO hq).symm
 refine ifE hb 6 [86,87] [] hq ?_ ?_<;>intro hq _
 refine ifE hb 5 [] [] hq (fun hq hc35=>?_) (fun hq hc35=>?_)
 refine qd9 hb 0 (qi0 hb he x1.items hc35) ?_
 refine qd9 hb 5 (qyu hb he) ?_
 refine q6 hb 4 hq (gQ1z hb he []) fun y36 _ hq=>?_
 exact retE hb 3 (injO hq).symm
 refine q93 hb 0 hq (qhz hb he _ x1.items hc35) fun l37 hl37 hq=>?_
 refine q93 hb 5 hq (qyt hb he 2 false l37 (by kernel_rfl)) fun l38 hl38 hq=>?_
 refine q3c hb 1 13 (c:=vO flV 2 l37) (q7t (q7b flV (qtz hl38))) ?_
 refine qw hb 1 2 false (sz:=flV.sz) (fr:=0) (cs:=flV.f l38) (by kernel_rfl) (Nat.zero_le _) ?_
 refine q3b hb 2 (vs:=[.cell (vO flV 2 l38)]) hq (q1i (q2j (q29 flV (b:=false) (id:=2) (fr:=(flV.f l38).length) (xs:=l38) (by kernel_rfl))) rfl) (q2r (q38 (q39 flV (nb:=false) (id:=2) (xs:=l38) (by kernel_rfl))) rfl) (gQ1z hb he l38) fun y39 _ hq=>?_
 exact retE hb 3 (injO hq).symm
 exact retE hb 9 (injO hq).symm
def gQ0x  (name_:ByteArray) (args_:List Val):Option (Val×Int) :=
 bif (decide (name_=⟨#[97,98,115]⟩)) then (gQ2j name_ args_).bind fun y2=>some (y2.1,y2.2) else bif (decide (name_=⟨#[109,97,120]⟩)) then (gQ2j name_ args_).bind fun y4=>some (y4.1,y4.2) else bif (decide (name_=⟨#[109,105,110]⟩)) then (gQ2j name_ args_).bind fun y6=>some (y6.1,y6.2) else bif (decide (name_=⟨#[114,97,110,103,101]⟩)) then (gQ2j name_ args_).bind fun y8=>some (y8.1,y8.2) else bif (decide (name_=⟨#[115,117,109]⟩)) then (gQ2j name_ args_).bind fun y10=>some (y10.1,y10.2) else bif (decide (name_=⟨#[101,110,100,115,119,105,116,104]⟩)) then (gQ2y name_ args_).bind fun y12=>some (y12.1,y12.2) else bif (decide (name_=⟨#[106,111,105,110]⟩)) then (gQ2y name_ args_).bind fun y14=>some (y14.1,y14.2) else bif (decide (name_=⟨#[108,111,119,101,114]⟩)) then (gQ2y name_ args_).bind fun y16=>some (y16.1,y16.2) else bif (decide (name_=⟨#[114,101,112,108,97,99,101]⟩)) then (gQ2y name_ args_).bind fun y18=>some (y18.1,y18.2) else bif (decide (name_=⟨#[115,112,108,105,116]⟩)) then (gQ2y name_ args_).bind fun y20=>some (y20.1,y20.2) else bif (decide (name_=⟨#[115,116,97,114,116,115,119,105,116,104]⟩)) then (gQ2y name_ args_).bind fun y22=>some (y22.1,y22.2) else bif (decide (name_=⟨#[116,114,105,109]⟩)) then (gQ2y name_ args_).bind fun y24=>some (y24.1,y24.2) else bif (decide (name_=⟨#[117,112,112,101,114]⟩)) then (gQ2y name_ args_).bind fun y26=>some (y26.1,y26.2) else bif (decide (name_=⟨#[99,111,110,116,97,105,110,115]⟩)) then (gQ2o name_ args_).bind fun y28=>some (y28.1,y28.2) else bif (decide (name_=⟨#[100,105,115,116,105,110,99,116]⟩)) then (gQ2o name_ args_).bind fun y30=>some (y30.1,y30.2) else bif (decide (name_=⟨#[102,108,97,116,116,101,110]⟩)) then (gQ2o name_ args_).bind fun y32=>some (y32.1,y32.2) else bif (decide (name_=⟨#[105,110,100,101,120]⟩)) then (gQ2o name_ args_).bind fun y34=>some (y34.1,y34.2) else bif (decide (name_=⟨#[107,101,121,115]⟩)) then (gQ2a name_ args_).bind fun y36=>some (y36.1,y36.2) else bif (decide (name_=⟨#[108,111,111,107,117,112]⟩)) then (gQ2a name_ args_).bind fun y38=>some (y38.1,y38.2) else bif (decide (name_=⟨#[109,101,114,103,101]⟩)) then (gQ2a name_ args_).bind fun y40=>some (y40.1,y40.2) else bif (decide (name_=⟨#[118,97,108,117,101,115]⟩)) then (gQ2a name_ args_).bind fun y42=>some (y42.1,y42.2) else bif (decide (name_=⟨#[122,105,112,109,97,112]⟩)) then (gQ2a name_ args_).bind fun y44=>some (y44.1,y44.2) else bif (decide (name_=⟨#[99,111,97,108,101,115,99,101]⟩)) then (gQ1n name_ args_).bind fun y46=>some (y46.1,y46.2) else bif (decide (name_=⟨#[116,111,98,111,111,108]⟩)) then (gQ1n name_ args_).bind fun y48=>some (y48.1,y48.2) else bif (decide (name_=⟨#[116,111,110,117,109,98,101,114]⟩)) then (gQ1n name_ args_).bind fun y50=>some (y50.1,y50.2) else bif (decide (name_=⟨#[116,111,115,116,114,105,110,103]⟩)) then (gQ1n name_ args_).bind fun y52=>some (y52.1,y52.2) else (gQ20 name_ args_).bind fun y53=>some (y53.1,y53.2)
theorem gQ0y (hb:Base E E0 G) (he:∀w,E w->EnvV w)   (name_:ByteArray) (args_:List Val):∀r_:Val×Int,gQ0x name_ args_=some r_ ->
 Pure E E0 Tryz.prog 31 [.cell (vS name_),.cell (vL flV args_)] (.tup [.agg (aV r_.1),.cell (vi r_.2)]):=by
 refine fnE hb Tryz.func31 rfl fun r_ hq=>?_
 refine ifE hb 17 [7,8] [] hq ?_ ?_<;>intro hq _
 refine q6 hb 7 hq (gQ2l hb he name_ args_) fun y2 _ hq=>?_
 exact retE hb 5 (injO hq).symm
 refine ifE hb 6 [7,9] [] hq ?_ ?_<;>intro hq _
 refine q6 hb 7 hq (gQ2l hb he name_ args_) fun y4 _ hq=>?_
 exact retE hb 5 (injO hq).symm
 refine ifE hb 6 [7,10] [] hq ?_ ?_<;>intro hq _
 refine q6 hb 7 hq (gQ2l hb he name_ args_) fun y6 _ hq=>?_
 exact retE hb 5 (injO hq).symm
 refine ifE hb 6 [7,11] [] hq ?_ ?_<;>intro hq _
 refine q6 hb 7 hq (gQ2l hb he name_ args_) fun y8 _ hq=>?_
 exact retE hb 5 (injO hq).symm
 refine ifE hb 5 [7,12] [] hq ?_ ?_<;>intro hq _
 refine q6 hb 5 hq (gQ2l hb he name_ args_) fun y10 _ hq=>?_
 exact retE hb 5 (injO hq).symm
 refine ifE hb 7 [18,19] [] hq ?_ ?_<;>intro hq _
 refine q6 hb 7 hq (gQ2z hb he name_ args_) fun y12 _ hq=>?_
 exact retE hb 5 (injO hq).symm
 refine ifE hb 6 [18,20] [] hq ?_ ?_<;>intro hq _
 refine q6 hb 7 hq (gQ2z hb he name_ args_) fun y14 _ hq=>?_
 exact retE hb 5 (injO hq).symm
 refine ifE hb 6 [18,21] [] hq ?_ ?_<;>intro hq _
 refine q6 hb 7 hq (gQ2z hb he name_ args_) fun y16 _ hq=>?_
 exact retE hb 5 (injO hq).symm
 refine ifE hb 6 [18,22] [] hq ?_ ?_<;>intro hq _
 refine q6 hb 7 hq (gQ2z hb he name_ args_) fun y18 _ hq=>?_
 exact retE hb 5 (injO hq).symm
 refine ifE hb 6 [18,23] [] hq ?_ ?_<;>intro hq _
 refine q6 hb 7 hq (gQ2z hb he name_ args_) fun y20 _ hq=>?_
 exact retE hb 5 (injO hq).symm
 refine ifE hb 6 [18,24] [] hq ?_ ?_<;>intro hq _
 refine q6 hb 7 hq (gQ2z hb he name_ args_) fun y22 _ hq=>?_
 exact retE hb 5 (injO hq).symm
 refine ifE hb 6 [18,25] [] hq ?_ ?_<;>intro hq _
 refine q6 hb 7 hq (gQ2z hb he name_ args_) fun y24 _ hq=>?_
 exact retE hb 5 (injO hq).symm
 refine ifE hb 5 [18,26] [] hq ?_ ?_<;>intro hq _
 refine q6 hb 5 hq (gQ2z hb he name_ args_) fun y26 _ hq=>?_
 exact retE hb 5 (injO hq).symm
 refine ifE hb 7 [32,33] [] hq ?_ ?_<;>intro hq _
 refine q6 hb 7 hq (gQ2p hb he name_ args_) fun y28 _ hq=>?_
 exact retE hb 5 (injO hq).symm
 refine ifE hb 6 [32,34] [] hq ?_ ?_<;>intro hq _
 refine q6 hb 7 hq (gQ2p hb he name_ args_) fun y30 _ hq=>?_
 exact retE hb 5 (injO hq).symm
 refine ifE hb 6 [32,35] [] hq ?_ ?_<;>intro hq _
 refine q6 hb 7 hq (gQ2p hb he name_ args_) fun y32 _ hq=>?_
 exact retE hb 5 (injO hq).symm
 refine ifE hb 5 [32,36] [] hq ?_ ?_<;>intro hq _
 refine q6 hb 5 hq (gQ2p hb he name_ args_) fun y34 _ hq=>?_
 exact retE hb 5 (injO hq).symm
 refine ifE hb 7 [42,43] [] hq ?_ ?_<;>intro hq _
 refine q6 hb 7 hq (gQ2f hb he name_ args_) fun y36 _ hq=>?_
 exact retE hb 5 (injO hq).symm
 refine ifE hb 6 [42,44] [] hq ?_ ?_<;>intro hq _
 refine q6 hb 7 hq (gQ2f hb he name_ args_) fun y38 _ hq=>?_
 exact retE hb 5 (injO hq).symm
 refine ifE hb 6 [42,45] [] hq ?_ ?_<;>intro hq _
 refine q6 hb 7 hq (gQ2f hb he name_ args_) fun y40 _ hq=>?_
 exact retE hb 5 (injO hq).symm
 refine ifE hb 6 [42,46] [] hq ?_ ?_<;>intro hq _
 refine q6 hb 7 hq (gQ2f hb he name_ args_) fun y42 _ hq=>?_
 exact retE hb 5 (injO hq).symm
 refine ifE hb 5 [42,47] [] hq ?_ ?_<;>intro hq _
 refine q6 hb 5 hq (gQ2f hb he name_ args_) fun y44 _ hq=>?_
 exact retE hb 5 (injO hq).symm
 refine ifE hb 7 [53,54] [] hq ?_ ?_<;>intro hq _
 refine q6 hb 7 hq (gQ1p hb he name_ args_) fun y46 _ hq=>?_
 exact retE hb 5 (injO hq).symm
 refine ifE hb 6 [53,55] [] hq ?_ ?_<;>intro hq _
 refine q6 hb 7 hq (gQ1p hb he name_ args_) fun y48 _ hq=>?_
 exact retE hb 5 (injO hq).symm
 refine ifE hb 6 [53,56] [] hq ?_ ?_<;>intro hq _
 refine cpE hb 2 [0,1,4,53] (s':=⟨none,[pk Tryz.f31 13823],[(0,[pk Tryz.f31 7])],sl 68 [(0,c1 (vS name_)),(1,c1 (vL flV args_)),(4,pt 0),(53,c1 (vB true))],[bx zV]⟩) ?_
 refine q6 hb 5 hq (gQ1p hb he name_ args_) fun y50 _ hq=>?_
 exact retE hb 5 (injO hq).symm
 refine cpE hb 1 [0,1,4,6] (s':=⟨none,[pk Tryz.f31 884671,pk Tryz.f31 13823],[(0,[pk Tryz.f31 7])],sl 68 [(0,c1 (vS name_)),(1,c1 (vL flV args_)),(4,pt 0),(6,c1 (vS name_))],[bx zV]⟩) ?_
 refine ifE hb 4 [53,57] [] hq ?_ ?_<;>intro hq _
 refine q6 hb 5 hq (gQ1p hb he name_ args_) fun y52 _ hq=>?_
 exact retE hb 5 (injO hq).symm
 refine q6 hb 7 hq (gQ27 hb he name_ args_) fun y53 _ hq=>?_
 exact retE hb 5 (injO hq).symm
def gQ0o (name_:ByteArray) (args_:List Val) (y1:SpecG×Bool) (s1:Int):Option ((Int)⊕(Val×Int)) :=
 bif (decide (s1<(args_.length:Int))) then (idx args_ s1).bind fun x6=>(gQ2q y1.1 s1).bind fun y7=>(gQ1d x6 y7).bind fun y8=>bif (!y8) then some (.inr ((Val.mk 0 0 eS [] []),6)) else some (.inl (IntKind.i64.wrap (s1+1))) else bif y1.1.strict then (gQ2s y1.1 args_).bind fun y11=>bif y11 then (gQa7).bind fun y13=>some (.inr (y13,0)) else (gQ0x name_ args_).bind fun y14=>bif (decide (y14.2=0)) then (q2e y14.1).bind fun y16=>bif (!decide (y16=0)) then some (.inr ((Val.mk 0 0 eS [] []),y16)) else (cpy y14.1).bind fun y18=>some (.inr (y18,0)) else some (.inr ((Val.mk 0 0 eS [] []),y14.2)) else (gQ0x name_ args_).bind fun y19=>bif (decide (y19.2=0)) then (q2e y19.1).bind fun y21=>bif (!decide (y21=0)) then some (.inr ((Val.mk 0 0 eS [] []),y21)) else (cpy y19.1).bind fun y23=>some (.inr (y23,0)) else some (.inr ((Val.mk 0 0 eS [] []),y19.2))
def gQ0n  (name_:ByteArray) (args_:List Val):Option (Val×Int) :=
 (gQ1b name_).bind fun y1=>bif (!y1.2) then some ((Val.mk 0 0 eS [] []),17) else bif (decide ((args_.length:Int)<y1.1.least)) then some ((Val.mk 0 0 eS [] []),18) else bif (decide ((args_.length:Int) > y1.1.most)) then some ((Val.mk 0 0 eS [] []),18) else q7 (gQ0o name_ args_ y1) 0
theorem gQ0p (hb:Base E E0 G) (he:∀w,E w->EnvV w)   (name_:ByteArray) (args_:List Val):∀r_:Val×Int,gQ0n name_ args_=some r_ ->
 Pure E E0 Tryz.prog 10 [.cell (vS name_),.cell (vL flV args_)] (.tup [.agg (aV r_.1),.cell (vi r_.2)]):=by
 refine fnE hb Tryz.func10 rfl fun r_ hq=>?_
 refine q6 hb 8 hq (gQ1c hb he name_) fun y1 _ hq=>?_
 refine ifE hb 13 [18] [] hq ?_ ?_<;>intro hq _
 exact retE hb 7 (injO hq).symm
 refine ifE hb 11 [24,25] [] hq ?_ ?_<;>intro hq _
 exact retE hb 14 (injO hq).symm
 refine ifE hb 7 [30,31] [] hq ?_ ?_<;>intro hq _
 exact retE hb 7 (injO hq).symm
 refine cpE hb 10 [0,1,4,6,33,34,35] (s':=⟨none,[pk Tryz.f10 250],[(0,[pk Tryz.f10 63])],sl 72 [(0,c1 (vS name_)),(1,c1 (vL flV args_)),(4,pt 0),(6,pt 1),(33,c1 (vL flV args_)),(34,c1 (vi (args_.length:Int))),(35,c1 (vi 0))],[bx zV,bx [vS y1.1.kinds,vi y1.1.least,vi y1.1.most,vB y1.1.strict]]⟩) ?_
 refine qd hb 0 (gQ0o name_ args_ y1) (fun s1=>sl 72 [(0,c1 (vS name_)),(1,c1 (vL flV args_)),(4,pt 0),(6,pt 1),(33,c1 (vL flV args_)),(34,c1 (vi (args_.length:Int))),(35,c1 (vi s1))]) (fun s1=>[bx zV,bx [vS y1.1.kinds,vi y1.1.least,vi y1.1.most,vB y1.1.strict]]) [0,1,4,6,33,34,35] [] 2 (s0:=0) ⟨(by kernel_rfl),(by kernel_rfl),trivial⟩ hq (fun s1 o1 hq hn1 he1=>?_)
 refine ifE hb 5 [36] [] hq ?_ ?_<;>intro hq _
 refine idxE hb flV 7 hq fun x6 hx6 hq=>?_
 refine qh hb mixed 6 4 [] ?_
 refine q6 hb 3 hq (gQ2r hb he y1.1 s1) fun y7 _ hq=>?_
 refine q6 hb 1 hq (gQ1e hb he x6 y7) fun y8 _ hq=>?_
 refine ifE hb 2 [45] [] hq ?_ ?_<;>intro hq _
 exact retE hb 7 (he1 _ (injO hq))
 exact q8 hb 7 [0,1,4,6,33,34,35] [] 2 (hn1 _ (injO hq)) ⟨(by kernel_rfl),(by kernel_rfl),trivial⟩
 refine ifE hb 8 [49,50] [] hq ?_ ?_<;>intro hq _
 refine q6 hb 2 hq (gQ2u hb he y1.1 args_) fun y11 _ hq=>?_
 refine ifE hb 2 [53,54] [] hq ?_ ?_<;>intro hq _
 refine q6 hb 3 hq (gQa8 hb he ) fun y13 _ hq=>?_
 exact retE hb 3 (he1 _ (injO hq))
 refine q6 hb 6 hq (gQ0y hb he name_ args_) fun y14 _ hq=>?_
 refine ifE hb 13 [63] [] hq (fun hq _=>?_) (fun hq hc15=>?_)
 refine q6 hb 3 hq (qfa hb he y14.1) fun y16 _ hq=>?_
 refine ifE hb 8 [67] [] hq ?_ ?_<;>intro hq _
 exact retE hb 8 (he1 _ (injO hq))
 refine q6 hb 5 hq (qi7 hb he y14.1) fun y18 _ hq=>?_
 exact retE hb 3 (he1 _ (injO hq))
 refine knE hb 8 [67] [] (b:=(!decide (y14.2=0))) (v:=true) (congrArg (fun z=>!z) hc15) ?_
 exact retE hb 8 (he1 _ (injO hq))
 refine q6 hb 11 hq (gQ0y hb he name_ args_) fun y19 _ hq=>?_
 refine ifE hb 13 [63] [] hq (fun hq _=>?_) (fun hq hc20=>?_)
 refine q6 hb 3 hq (qfa hb he y19.1) fun y21 _ hq=>?_
 refine ifE hb 8 [67] [] hq ?_ ?_<;>intro hq _
 exact retE hb 8 (he1 _ (injO hq))
 refine q6 hb 5 hq (qi7 hb he y19.1) fun y23 _ hq=>?_
 exact retE hb 3 (he1 _ (injO hq))
 refine knE hb 8 [67] [] (b:=(!decide (y19.2=0))) (v:=true) (congrArg (fun z=>!z) hc20) ?_
 exact retE hb 8 (he1 _ (injO hq))
end Abs
end Go.Proofs.YtagadjpmkggjdaaGreatDoor
end
