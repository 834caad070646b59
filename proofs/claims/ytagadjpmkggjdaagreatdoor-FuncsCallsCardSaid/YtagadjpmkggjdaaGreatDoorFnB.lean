import Derived.Test.YtagadjpmkggjdaaGreatDoorFnA
import Derived.Test.YtagadjpmkggjdaaGreatDoorAbsN
noncomputable section
namespace Go.Proofs.YtagadjpmkggjdaaGreatDoor
namespace Abs
open Go.RowKit
variable {E:World->Prop} {E0:Nat} {G:Nat->Option (List PV)}
set_option maxRecDepth 100000
set_option linter.unusedVariables false
set_option linter.unusedSimpArgs false
attribute [local irreducible] adv J KE KO mPut mSto q6d mFrm qbo hedS unl Pure Ok sl q7 awpL awp asq asqD asqX asqF
def gQ0q  :Option (List ByteArray) :=
 some ([(⟨#[97,98,115]⟩:ByteArray),⟨#[99,111,97,108,101,115,99,101]⟩,⟨#[99,111,110,99,97,116]⟩,⟨#[99,111,110,116,97,105,110,115]⟩,⟨#[100,105,115,116,105,110,99,116]⟩,⟨#[101,108,101,109,101,110,116]⟩,⟨#[101,110,100,115,119,105,116,104]⟩,⟨#[102,108,97,116,116,101,110]⟩,⟨#[105,110,100,101,120]⟩,⟨#[106,111,105,110]⟩,⟨#[107,101,121,115]⟩,⟨#[108,101,110,103,116,104]⟩,⟨#[108,111,111,107,117,112]⟩,⟨#[108,111,119,101,114]⟩,⟨#[109,97,120]⟩,⟨#[109,101,114,103,101]⟩,⟨#[109,105,110]⟩,⟨#[114,97,110,103,101]⟩,⟨#[114,101,112,108,97,99,101]⟩,⟨#[114,101,118,101,114,115,101]⟩,⟨#[115,108,105,99,101]⟩,⟨#[115,111,114,116]⟩,⟨#[115,112,108,105,116]⟩,⟨#[115,116,97,114,116,115,119,105,116,104]⟩,⟨#[115,117,109]⟩,⟨#[116,111,98,111,111,108]⟩,⟨#[116,111,110,117,109,98,101,114]⟩,⟨#[116,111,115,116,114,105,110,103]⟩,⟨#[116,114,105,109]⟩,⟨#[117,112,112,101,114]⟩,⟨#[118,97,108,117,101,115]⟩,⟨#[122,105,112,109,97,112]⟩])
theorem gQ0r (hb:Base E E0 G) (he:∀w,E w->EnvV w)   :∀r_:List ByteArray,gQ0q=some r_ ->
 Pure E E0 Tryz.prog 13 [] (c1 (vL flS r_)):=by
 refine fnE hb Tryz.func13 rfl fun r_ hq=>?_
 refine q3c hb 9 0 (c:=.pv (.sl true 32 [pS ⟨#[97,98,115]⟩,pS ⟨#[99,111,97,108,101,115,99,101]⟩,pS ⟨#[99,111,110,99,97,116]⟩,pS ⟨#[99,111,110,116,97,105,110,115]⟩,pS ⟨#[100,105,115,116,105,110,99,116]⟩,pS ⟨#[101,108,101,109,101,110,116]⟩,pS ⟨#[101,110,100,115,119,105,116,104]⟩,pS ⟨#[102,108,97,116,116,101,110]⟩,pS ⟨#[105,110,100,101,120]⟩,pS ⟨#[106,111,105,110]⟩,pS ⟨#[107,101,121,115]⟩,pS ⟨#[108,101,110,103,116,104]⟩,pS ⟨#[108,111,111,107,117,112]⟩,pS ⟨#[108,111,119,101,114]⟩,pS ⟨#[109,97,120]⟩,pS ⟨#[109,101,114,103,101]⟩,pS ⟨#[109,105,110]⟩,pS ⟨#[114,97,110,103,101]⟩,pS ⟨#[114,101,112,108,97,99,101]⟩,pS ⟨#[114,101,118,101,114,115,101]⟩,pS ⟨#[115,108,105,99,101]⟩,pS ⟨#[115,111,114,116]⟩,pS ⟨#[115,112,108,105,116]⟩,pS ⟨#[115,116,97,114,116,115,119,105,116,104]⟩,pS ⟨#[115,117,109]⟩,pS ⟨#[116,111,98,111,111,108]⟩,pS ⟨#[116,111,110,117,109,98,101,114]⟩,pS ⟨#[116,111,115,116,114,105,110,103]⟩,pS ⟨#[116,114,105,109]⟩,pS ⟨#[117,112,112,101,114]⟩,pS ⟨#[118,97,108,117,101,115]⟩,pS ⟨#[122,105,112,109,97,112]⟩])) (qi6 flS (ys:=[(⟨#[97,98,115]⟩:ByteArray),⟨#[99,111,97,108,101,115,99,101]⟩,⟨#[99,111,110,99,97,116]⟩,⟨#[99,111,110,116,97,105,110,115]⟩,⟨#[100,105,115,116,105,110,99,116]⟩,⟨#[101,108,101,109,101,110,116]⟩,⟨#[101,110,100,115,119,105,116,104]⟩,⟨#[102,108,97,116,116,101,110]⟩,⟨#[105,110,100,101,120]⟩,⟨#[106,111,105,110]⟩,⟨#[107,101,121,115]⟩,⟨#[108,101,110,103,116,104]⟩,⟨#[108,111,111,107,117,112]⟩,⟨#[108,111,119,101,114]⟩,⟨#[109,97,120]⟩,⟨#[109,101,114,103,101]⟩,⟨#[109,105,110]⟩,⟨#[114,97,110,103,101]⟩,⟨#[114,101,112,108,97,99,101]⟩,⟨#[114,101,118,101,114,115,101]⟩,⟨#[115,108,105,99,101]⟩,⟨#[115,111,114,116]⟩,⟨#[115,112,108,105,116]⟩,⟨#[115,116,97,114,116,115,119,105,116,104]⟩,⟨#[115,117,109]⟩,⟨#[116,111,98,111,111,108]⟩,⟨#[116,111,110,117,109,98,101,114]⟩,⟨#[116,111,115,116,114,105,110,103]⟩,⟨#[116,114,105,109]⟩,⟨#[117,112,112,101,114]⟩,⟨#[118,97,108,117,101,115]⟩,⟨#[122,105,112,109,97,112]⟩]) (by kernel_rfl)) ?_
 exact retE hb 0 (injO hq).symm
def gQ0l  (name_:ByteArray):Option (Int×Int×Bool) :=
 (gQ1b name_).bind fun y1=>bif (!y1.2) then some (0,0,false) else some (y1.1.least,y1.1.most,true)
theorem gQ0m (hb:Base E E0 G) (he:∀w,E w->EnvV w)   (name_:ByteArray):∀r_:Int×Int×Bool,gQ0l name_=some r_ ->
 Pure E E0 Tryz.prog 14 [.cell (vS name_)] (.tup [.cell (vi r_.1),.cell (vi r_.2.1),.cell (vB r_.2.2)]):=by
 refine fnE hb Tryz.func14 rfl fun r_ hq=>?_
 refine q6 hb 9 hq (gQ1c hb he name_) fun y1 _ hq=>?_
 refine ifE hb 13 [13] [] hq ?_ ?_<;>intro hq _
 exact retE hb 7 (injO hq).symm
 refine qh hb mixed 3 5 [] ?_
 exact retE hb 9 (injO hq).symm
def gQ3f  (l_:List Val):Option (Val) :=
 some (Val.mk 4 0 eS l_ [])
theorem gQ3g (hb:Base E E0 G) (he:∀w,E w->EnvV w)   (l_:List Val):∀r_:Val,gQ3f l_=some r_ ->
 Pure E E0 Tryz.prog 23 [.cell (vL flV l_)] (.one (.agg (aV r_))):=by
 refine fnE hb Tryz.func23 rfl fun r_ hq=>?_
 exact retE hb 10 (injO hq).symm
def gQ3n  :Option (Val) :=
 some (Val.mk 6 0 eS [] [])
theorem gQ3o (hb:Base E E0 G) (he:∀w,E w->EnvV w)   :∀r_:Val,gQ3n=some r_ ->
 Pure E E0 Tryz.prog 24 [] (.one (.agg (aV r_))):=by
 refine fnE hb Tryz.func24 rfl fun r_ hq=>?_
 exact retE hb 9 (injO hq).symm
def gQ3l  (n_:Int):Option (Val) :=
 some (Val.mk 2 n_ eS [] [])
theorem gQ3m (hb:Base E E0 G) (he:∀w,E w->EnvV w)   (n_:Int):∀r_:Val,gQ3l n_=some r_ ->
 Pure E E0 Tryz.prog 25 [.cell (vi n_)] (.one (.agg (aV r_))):=by
 refine fnE hb Tryz.func25 rfl fun r_ hq=>?_
 exact retE hb 10 (injO hq).symm
def gQ3a  :Option (Bool) :=
 (gQ3n).bind fun y1=>(gQ3l 1).bind fun y2=>(gQ3f [y1,y2]).bind fun y3=>(gQ3l 1).bind fun y4=>(gQ0n (⟨#[99,111,110,116,97,105,110,115]⟩:ByteArray) [y3,y4]).bind fun y5=>(gQ3n).bind fun y6=>(gQ3l 1).bind fun y7=>(gQ3f [y6,y7]).bind fun y8=>(gQ3l 2).bind fun y9=>(gQ0n (⟨#[99,111,110,116,97,105,110,115]⟩:ByteArray) [y8,y9]).bind fun y10=>(gQ3l 1).bind fun y11=>(gQ3l 2).bind fun y12=>(gQ3l 3).bind fun y13=>(gQ3f [y11,y12,y13]).bind fun y14=>(gQ3l (-1)).bind fun y15=>(gQ0n (⟨#[101,108,101,109,101,110,116]⟩:ByteArray) [y14,y15]).bind fun y16=>(gQ0n (⟨#[97,98,115]⟩:ByteArray) [(Val.mk 0 0 eS [] [])]).bind fun y17=>(gQ0n (⟨#[110,111,112,101]⟩:ByteArray) []).bind fun y18=>(gQ0l (⟨#[108,111,111,107,117,112]⟩:ByteArray)).bind fun y19=>(gQ0q).bind fun y20=>bif (decide (y5.2=0)) then bif (decide (y5.1.kind=1)) then bif (decide (y5.1.num=1)) then bif (decide (y10.2=0)) then bif (decide (y10.1.kind=6)) then bif (decide (y16.2=0)) then bif (decide (y16.1.num=3)) then bif (decide (y17.2=6)) then bif (decide (y18.2=17)) then bif (decide (y19.1=2)) then bif (decide (y19.2.1=3)) then bif y19.2.2 then bif (decide ((y20.length:Int)=32)) then (idx y20 0).bind fun x34=>some (decide (x34=⟨#[97,98,115]⟩)) else some (false) else some (false) else some (false) else some (false) else some (false) else some (false) else some (false) else some (false) else some (false) else some (false) else some (false) else some (false) else some (false)
theorem gQ3b (hb:Base E E0 G) (he:∀w,E w->EnvV w)   :∀r_:Bool,gQ3a=some r_ ->
 Pure E E0 Tryz.prog 9 [] (c1 (vB r_)):=by
 refine fnE hb Tryz.func9 rfl fun r_ hq=>?_
 refine q6 hb 6 hq (gQ3o hb he ) fun y1 _ hq=>?_
 refine q6 hb 0 hq (gQ3m hb he 1) fun y2 _ hq=>?_
 have hp:=(gQ3g hb he [y1,y2])
 simp only[aV,aT,kind_mk,q3i,q3l,q3e,q3f,Ty.kind_mk,Ty.elems_mk,Ty.names_mk,q3v,q3y,q3x,q3u,q3t,q3w]at hp
 refine q6 hb 1 hq hp fun y3 _ hq=>?_
 refine q6 hb 0 hq (gQ3m hb he 1) fun y4 _ hq=>?_
 have hp:=(gQ0p hb he ⟨#[99,111,110,116,97,105,110,115]⟩ [y3,y4])
 simp only[aV,aT,kind_mk,q3i,q3l,q3e,q3f,Ty.kind_mk,Ty.elems_mk,Ty.names_mk,q3v,q3y,q3x,q3u,q3t,q3w]at hp
 refine q6 hb 1 hq hp fun y5 _ hq=>?_
 refine q6 hb 9 hq (gQ3o hb he ) fun y6 _ hq=>?_
 refine q6 hb 0 hq (gQ3m hb he 1) fun y7 _ hq=>?_
 have hp:=(gQ3g hb he [y6,y7])
 simp only[aV,aT,kind_mk,q3i,q3l,q3e,q3f,Ty.kind_mk,Ty.elems_mk,Ty.names_mk,q3v,q3y,q3x,q3u,q3t,q3w]at hp
 refine q6 hb 1 hq hp fun y8 _ hq=>?_
 refine q6 hb 0 hq (gQ3m hb he 2) fun y9 _ hq=>?_
 have hp:=(gQ0p hb he ⟨#[99,111,110,116,97,105,110,115]⟩ [y8,y9])
 simp only[aV,aT,kind_mk,q3i,q3l,q3e,q3f,Ty.kind_mk,Ty.elems_mk,Ty.names_mk,q3v,q3y,q3x,q3u,q3t,q3w]at hp
 refine q6 hb 1 hq hp fun y10 _ hq=>?_
 refine q6 hb 9 hq (gQ3m hb he 1) fun y11 _ hq=>?_
 refine q6 hb 0 hq (gQ3m hb he 2) fun y12 _ hq=>?_
 refine q6 hb 0 hq (gQ3m hb he 3) fun y13 _ hq=>?_
 have hp:=(gQ3g hb he [y11,y12,y13])
 simp only[aV,aT,kind_mk,q3i,q3l,q3e,q3f,Ty.kind_mk,Ty.elems_mk,Ty.names_mk,q3v,q3y,q3x,q3u,q3t,q3w]at hp
 refine q6 hb 1 hq hp fun y14 _ hq=>?_
 refine q6 hb 0 hq (gQ3m hb he (-1)) fun y15 _ hq=>?_
 have hp:=(gQ0p hb he ⟨#[101,108,101,109,101,110,116]⟩ [y14,y15])
 simp only[aV,aT,kind_mk,q3i,q3l,q3e,q3f,Ty.kind_mk,Ty.elems_mk,Ty.names_mk,q3v,q3y,q3x,q3u,q3t,q3w]at hp
 refine q6 hb 1 hq hp fun y16 _ hq=>?_
 have hp:=(gQ0p hb he ⟨#[97,98,115]⟩ [(Val.mk 0 0 eS [] [])])
 simp only[aV,aT,kind_mk,q3i,q3l,q3e,q3f,Ty.kind_mk,Ty.elems_mk,Ty.names_mk,q3v,q3y,q3x,q3u,q3t,q3w]at hp
 refine q6 hb 11 hq hp fun y17 _ hq=>?_
 refine q6 hb 9 hq (gQ0p hb he ⟨#[110,111,112,101]⟩ []) fun y18 _ hq=>?_
 refine q6 hb 9 hq (gQ0m hb he ⟨#[108,111,111,107,117,112]⟩) fun y19 _ hq=>?_
 refine q6 hb 10 hq (gQ0r hb he ) fun y20 _ hq=>?_
 refine ifE hb 7 [63,64] [] hq ?_ ?_<;>intro hq _
 refine ifE hb 5 [67,68,69] [] hq ?_ ?_<;>intro hq _
 refine ifE hb 5 [72,73,74] [] hq ?_ ?_<;>intro hq _
 refine ifE hb 4 [76,77,78] [] hq ?_ ?_<;>intro hq _
 refine ifE hb 5 [81,82,83] [] hq ?_ ?_<;>intro hq _
 refine ifE hb 4 [85,86,87] [] hq ?_ ?_<;>intro hq _
 refine ifE hb 5 [90,91,92] [] hq ?_ ?_<;>intro hq _
 refine ifE hb 4 [94,95,96] [] hq ?_ ?_<;>intro hq _
 refine ifE hb 4 [98,99,100] [] hq ?_ ?_<;>intro hq _
 refine ifE hb 4 [102,103,104] [] hq ?_ ?_<;>intro hq _
 refine ifE hb 4 [106,107,108] [] hq ?_ ?_<;>intro hq _
 refine ifE hb 3 [13,60,109,110,111] [] hq ?_ ?_<;>intro hq _
 refine ifE hb 5 [114,115,116] [] hq ?_ ?_<;>intro hq _
 refine idxE hb flS 1 hq fun x34 hx34 hq=>?_
 exact retE hb 5 (injO hq).symm
 exact retE hb 7 (injO hq).symm
 exact retE hb 12 (injO hq).symm
 exact retE hb 15 (injO hq).symm
 exact retE hb 19 (injO hq).symm
 exact retE hb 23 (injO hq).symm
 exact retE hb 27 (injO hq).symm
 exact retE hb 31 (injO hq).symm
 exact retE hb 36 (injO hq).symm
 exact retE hb 40 (injO hq).symm
 exact retE hb 45 (injO hq).symm
 exact retE hb 49 (injO hq).symm
 exact retE hb 54 (injO hq).symm
 exact retE hb 59 (injO hq).symm
def gQ5h  :Option (List ByteArray) :=
 some ([(⟨#[97,98,115]⟩:ByteArray),⟨#[99,111,97,108,101,115,99,101]⟩,⟨#[99,111,110,99,97,116]⟩,⟨#[99,111,110,116,97,105,110,115]⟩,⟨#[100,105,115,116,105,110,99,116]⟩,⟨#[101,108,101,109,101,110,116]⟩,⟨#[101,110,100,115,119,105,116,104]⟩,⟨#[102,108,97,116,116,101,110]⟩,⟨#[105,110,100,101,120]⟩,⟨#[106,111,105,110]⟩,⟨#[107,101,121,115]⟩,⟨#[108,101,110,103,116,104]⟩,⟨#[108,111,111,107,117,112]⟩,⟨#[108,111,119,101,114]⟩,⟨#[109,97,120]⟩,⟨#[109,101,114,103,101]⟩,⟨#[109,105,110]⟩,⟨#[114,97,110,103,101]⟩,⟨#[114,101,112,108,97,99,101]⟩,⟨#[114,101,118,101,114,115,101]⟩,⟨#[115,108,105,99,101]⟩,⟨#[115,111,114,116]⟩,⟨#[115,112,108,105,116]⟩,⟨#[115,116,97,114,116,115,119,105,116,104]⟩,⟨#[115,117,109]⟩,⟨#[116,111,98,111,111,108]⟩,⟨#[116,111,110,117,109,98,101,114]⟩,⟨#[116,111,115,116,114,105,110,103]⟩,⟨#[116,114,105,109]⟩,⟨#[117,112,112,101,114]⟩,⟨#[118,97,108,117,101,115]⟩,⟨#[122,105,112,109,97,112]⟩])
theorem gQ5i (hb:Base E E0 G) (he:∀w,E w->EnvV w)   :∀r_:List ByteArray,gQ5h=some r_ ->
 Pure E E0 Tryz.prog 103 [] (c1 (vL flS r_)):=by
 refine fnE hb Tryz.func103 rfl fun r_ hq=>?_
 refine q3c hb 9 0 (c:=.pv (.sl true 32 [pS ⟨#[97,98,115]⟩,pS ⟨#[99,111,97,108,101,115,99,101]⟩,pS ⟨#[99,111,110,99,97,116]⟩,pS ⟨#[99,111,110,116,97,105,110,115]⟩,pS ⟨#[100,105,115,116,105,110,99,116]⟩,pS ⟨#[101,108,101,109,101,110,116]⟩,pS ⟨#[101,110,100,115,119,105,116,104]⟩,pS ⟨#[102,108,97,116,116,101,110]⟩,pS ⟨#[105,110,100,101,120]⟩,pS ⟨#[106,111,105,110]⟩,pS ⟨#[107,101,121,115]⟩,pS ⟨#[108,101,110,103,116,104]⟩,pS ⟨#[108,111,111,107,117,112]⟩,pS ⟨#[108,111,119,101,114]⟩,pS ⟨#[109,97,120]⟩,pS ⟨#[109,101,114,103,101]⟩,pS ⟨#[109,105,110]⟩,pS ⟨#[114,97,110,103,101]⟩,pS ⟨#[114,101,112,108,97,99,101]⟩,pS ⟨#[114,101,118,101,114,115,101]⟩,pS ⟨#[115,108,105,99,101]⟩,pS ⟨#[115,111,114,116]⟩,pS ⟨#[115,112,108,105,116]⟩,pS ⟨#[115,116,97,114,116,115,119,105,116,104]⟩,pS ⟨#[115,117,109]⟩,pS ⟨#[116,111,98,111,111,108]⟩,pS ⟨#[116,111,110,117,109,98,101,114]⟩,pS ⟨#[116,111,115,116,114,105,110,103]⟩,pS ⟨#[116,114,105,109]⟩,pS ⟨#[117,112,112,101,114]⟩,pS ⟨#[118,97,108,117,101,115]⟩,pS ⟨#[122,105,112,109,97,112]⟩])) (qi6 flS (ys:=[(⟨#[97,98,115]⟩:ByteArray),⟨#[99,111,97,108,101,115,99,101]⟩,⟨#[99,111,110,99,97,116]⟩,⟨#[99,111,110,116,97,105,110,115]⟩,⟨#[100,105,115,116,105,110,99,116]⟩,⟨#[101,108,101,109,101,110,116]⟩,⟨#[101,110,100,115,119,105,116,104]⟩,⟨#[102,108,97,116,116,101,110]⟩,⟨#[105,110,100,101,120]⟩,⟨#[106,111,105,110]⟩,⟨#[107,101,121,115]⟩,⟨#[108,101,110,103,116,104]⟩,⟨#[108,111,111,107,117,112]⟩,⟨#[108,111,119,101,114]⟩,⟨#[109,97,120]⟩,⟨#[109,101,114,103,101]⟩,⟨#[109,105,110]⟩,⟨#[114,97,110,103,101]⟩,⟨#[114,101,112,108,97,99,101]⟩,⟨#[114,101,118,101,114,115,101]⟩,⟨#[115,108,105,99,101]⟩,⟨#[115,111,114,116]⟩,⟨#[115,112,108,105,116]⟩,⟨#[115,116,97,114,116,115,119,105,116,104]⟩,⟨#[115,117,109]⟩,⟨#[116,111,98,111,111,108]⟩,⟨#[116,111,110,117,109,98,101,114]⟩,⟨#[116,111,115,116,114,105,110,103]⟩,⟨#[116,114,105,109]⟩,⟨#[117,112,112,101,114]⟩,⟨#[118,97,108,117,101,115]⟩,⟨#[122,105,112,109,97,112]⟩]) (by kernel_rfl)) ?_
 exact retE hb 0 (injO hq).symm
def gQ6t (name_:ByteArray) (y1:List ByteArray) (s1:Int):Option ((Int)⊕(Bool)) :=
 bif (decide (s1<(y1.length:Int))) then (idx y1 s1).bind fun x3=>bif (decide (x3=name_)) then some (.inr (true)) else some (.inl (IntKind.i64.wrap (s1+1))) else some (.inr (false))
def gQ6s  (name_:ByteArray):Option (Bool) :=
 (gQ5h).bind fun y1=>q7 (gQ6t name_ y1) 0
theorem gQ6u (hb:Base E E0 G) (he:∀w,E w->EnvV w)   (name_:ByteArray):∀r_:Bool,gQ6s name_=some r_ ->
 Pure E E0 Tryz.prog 60 [.cell (vS name_)] (c1 (vB r_)):=by
 refine fnE hb Tryz.func60 rfl fun r_ hq=>?_
 refine q6 hb 6 hq (gQ5i hb he ) fun y1 _ hq=>?_
 refine qd hb 8 (gQ6t name_ y1) (fun s1=>sl 18 [(0,c1 (vS name_)),(3,c1 (vL flS y1)),(4,c1 (vi s1))]) (fun s1=>[]) [0,3,4] [] 0 (s0:=0) trivial hq (fun s1 o1 hq hn1 he1=>?_)
 refine ifE hb 8 [9] [] hq ?_ ?_<;>intro hq _
 refine idxE hb flS 8 hq fun x3 hx3 hq=>?_
 refine ifE hb 4 [17] [] hq ?_ ?_<;>intro hq _
 exact retE hb 5 (he1 _ (injO hq))
 exact q8 hb 8 [0,3,4] [] 0 (hn1 _ (injO hq)) trivial
 exact retE hb 6 (he1 _ (injO hq))
def gQ59  (name_:ByteArray):Option (Int×Int×Bool) :=
 (gQ6s name_).bind fun y1=>bif (!y1) then some (0,0,false) else bif (decide (name_=⟨#[99,111,97,108,101,115,99,101]⟩)) then some (1,64,true) else bif (decide (name_=⟨#[99,111,110,99,97,116]⟩)) then some (1,64,true) else bif (decide (name_=⟨#[109,97,120]⟩)) then some (1,64,true) else bif (decide (name_=⟨#[109,101,114,103,101]⟩)) then some (1,64,true) else bif (decide (name_=⟨#[109,105,110]⟩)) then some (1,64,true) else bif (decide (name_=⟨#[99,111,110,116,97,105,110,115]⟩)) then some (2,2,true) else bif (decide (name_=⟨#[101,108,101,109,101,110,116]⟩)) then some (2,2,true) else bif (decide (name_=⟨#[101,110,100,115,119,105,116,104]⟩)) then some (2,2,true) else bif (decide (name_=⟨#[105,110,100,101,120]⟩)) then some (2,2,true) else bif (decide (name_=⟨#[106,111,105,110]⟩)) then some (2,2,true) else bif (decide (name_=⟨#[115,112,108,105,116]⟩)) then some (2,2,true) else bif (decide (name_=⟨#[115,116,97,114,116,115,119,105,116,104]⟩)) then some (2,2,true) else bif (decide (name_=⟨#[122,105,112,109,97,112]⟩)) then some (2,2,true) else bif (decide (name_=⟨#[108,111,111,107,117,112]⟩)) then some (2,3,true) else bif (decide (name_=⟨#[114,97,110,103,101]⟩)) then some (1,2,true) else bif (decide (name_=⟨#[114,101,112,108,97,99,101]⟩)) then some (3,3,true) else bif (decide (name_=⟨#[115,108,105,99,101]⟩)) then some (3,3,true) else some (1,1,true)
theorem gQ5a (hb:Base E E0 G) (he:∀w,E w->EnvV w)   (name_:ByteArray):∀r_:Int×Int×Bool,gQ59 name_=some r_ ->
 Pure E E0 Tryz.prog 33 [.cell (vS name_)] (.tup [.cell (vi r_.1),.cell (vi r_.2.1),.cell (vB r_.2.2)]):=by
 refine fnE hb Tryz.func33 rfl fun r_ hq=>?_
 refine q6 hb 10 hq (gQ6u hb he name_) fun y1 _ hq=>?_
 refine ifE hb 2 [7] [] hq ?_ ?_<;>intro hq _
 exact retE hb 7 (injO hq).symm
 refine ifE hb 14 [9,10] [] hq ?_ ?_<;>intro hq _
 exact retE hb 9 (injO hq).symm
 refine ifE hb 6 [9,11] [] hq ?_ ?_<;>intro hq _
 exact retE hb 9 (injO hq).symm
 refine ifE hb 6 [9,12] [] hq ?_ ?_<;>intro hq _
 exact retE hb 9 (injO hq).symm
 refine ifE hb 6 [9,13] [] hq ?_ ?_<;>intro hq _
 exact retE hb 9 (injO hq).symm
 refine ifE hb 5 [9,14] [] hq ?_ ?_<;>intro hq _
 exact retE hb 7 (injO hq).symm
 refine ifE hb 7 [15,16] [] hq ?_ ?_<;>intro hq _
 exact retE hb 9 (injO hq).symm
 refine ifE hb 6 [15,17] [] hq ?_ ?_<;>intro hq _
 exact retE hb 9 (injO hq).symm
 refine ifE hb 6 [15,18] [] hq ?_ ?_<;>intro hq _
 exact retE hb 9 (injO hq).symm
 refine ifE hb 6 [15,19] [] hq ?_ ?_<;>intro hq _
 exact retE hb 9 (injO hq).symm
 refine ifE hb 6 [15,20] [] hq ?_ ?_<;>intro hq _
 exact retE hb 9 (injO hq).symm
 refine ifE hb 6 [15,21] [] hq ?_ ?_<;>intro hq _
 exact retE hb 9 (injO hq).symm
 refine ifE hb 6 [15,22] [] hq ?_ ?_<;>intro hq _
 exact retE hb 9 (injO hq).symm
 refine ifE hb 5 [15,23] [] hq ?_ ?_<;>intro hq _
 exact retE hb 7 (injO hq).symm
 refine ifE hb 6 [24,25] [] hq ?_ ?_<;>intro hq _
 exact retE hb 7 (injO hq).symm
 refine ifE hb 6 [26,27] [] hq ?_ ?_<;>intro hq _
 exact retE hb 7 (injO hq).symm
 refine ifE hb 7 [28,29] [] hq ?_ ?_<;>intro hq _
 exact retE hb 9 (injO hq).symm
 refine ifE hb 5 [28,30] [] hq ?_ ?_<;>intro hq _
 exact retE hb 7 (injO hq).symm
 exact retE hb 9 (injO hq).symm
def gQ6q  (name_:ByteArray):Option (ByteArray) :=
 bif (decide (name_=⟨#[97,98,115]⟩)) then some ⟨#[110]⟩ else bif (decide (name_=⟨#[109,97,120]⟩)) then some ⟨#[110]⟩ else bif (decide (name_=⟨#[109,105,110]⟩)) then some ⟨#[110]⟩ else bif (decide (name_=⟨#[114,97,110,103,101]⟩)) then some ⟨#[110]⟩ else bif (decide (name_=⟨#[99,111,110,99,97,116]⟩)) then some ⟨#[108]⟩ else bif (decide (name_=⟨#[100,105,115,116,105,110,99,116]⟩)) then some ⟨#[108]⟩ else bif (decide (name_=⟨#[102,108,97,116,116,101,110]⟩)) then some ⟨#[108]⟩ else bif (decide (name_=⟨#[114,101,118,101,114,115,101]⟩)) then some ⟨#[108]⟩ else bif (decide (name_=⟨#[99,111,110,116,97,105,110,115]⟩)) then some ⟨#[108,97]⟩ else bif (decide (name_=⟨#[105,110,100,101,120]⟩)) then some ⟨#[108,97]⟩ else bif (decide (name_=⟨#[101,108,101,109,101,110,116]⟩)) then some ⟨#[108,110]⟩ else bif (decide (name_=⟨#[101,110,100,115,119,105,116,104]⟩)) then some ⟨#[115]⟩ else bif (decide (name_=⟨#[115,116,97,114,116,115,119,105,116,104]⟩)) then some ⟨#[115]⟩ else bif (decide (name_=⟨#[115,112,108,105,116]⟩)) then some ⟨#[115]⟩ else bif (decide (name_=⟨#[114,101,112,108,97,99,101]⟩)) then some ⟨#[115]⟩ else bif (decide (name_=⟨#[108,111,119,101,114]⟩)) then some ⟨#[115]⟩ else bif (decide (name_=⟨#[117,112,112,101,114]⟩)) then some ⟨#[115]⟩ else bif (decide (name_=⟨#[116,114,105,109]⟩)) then some ⟨#[115]⟩ else bif (decide (name_=⟨#[106,111,105,110]⟩)) then some ⟨#[115,83]⟩ else bif (decide (name_=⟨#[107,101,121,115]⟩)) then some ⟨#[109]⟩ else bif (decide (name_=⟨#[118,97,108,117,101,115]⟩)) then some ⟨#[109]⟩ else bif (decide (name_=⟨#[109,101,114,103,101]⟩)) then some ⟨#[109]⟩ else bif (decide (name_=⟨#[108,101,110,103,116,104]⟩)) then some ⟨#[120]⟩ else bif (decide (name_=⟨#[108,111,111,107,117,112]⟩)) then some ⟨#[109,115,97]⟩ else bif (decide (name_=⟨#[115,108,105,99,101]⟩)) then some ⟨#[108,110,110]⟩ else bif (decide (name_=⟨#[115,111,114,116]⟩)) then some ⟨#[83]⟩ else bif (decide (name_=⟨#[115,117,109]⟩)) then some ⟨#[78]⟩ else bif (decide (name_=⟨#[122,105,112,109,97,112]⟩)) then some ⟨#[83,108]⟩ else some ⟨#[97]⟩
theorem gQ6r (hb:Base E E0 G) (he:∀w,E w->EnvV w)   (name_:ByteArray):∀r_:ByteArray,gQ6q name_=some r_ ->
 Pure E E0 Tryz.prog 61 [.cell (vS name_)] (c1 (vS r_)):=by
 refine fnE hb Tryz.func61 rfl fun r_ hq=>?_
 refine ifE hb 16 [4,5] [] hq ?_ ?_<;>intro hq _
 exact retE hb 7 (injO hq).symm
 refine ifE hb 6 [4,6] [] hq ?_ ?_<;>intro hq _
 exact retE hb 7 (injO hq).symm
 refine ifE hb 6 [4,7] [] hq ?_ ?_<;>intro hq _
 exact retE hb 7 (injO hq).symm
 refine ifE hb 5 [4,8] [] hq ?_ ?_<;>intro hq _
 exact retE hb 5 (injO hq).symm
 refine ifE hb 7 [9,10] [] hq ?_ ?_<;>intro hq _
 exact retE hb 7 (injO hq).symm
 refine ifE hb 6 [9,11] [] hq ?_ ?_<;>intro hq _
 exact retE hb 7 (injO hq).symm
 refine ifE hb 6 [9,12] [] hq ?_ ?_<;>intro hq _
 exact retE hb 7 (injO hq).symm
 refine ifE hb 5 [9,13] [] hq ?_ ?_<;>intro hq _
 exact retE hb 5 (injO hq).symm
 refine ifE hb 7 [14,15] [] hq ?_ ?_<;>intro hq _
 exact retE hb 7 (injO hq).symm
 refine ifE hb 5 [14,16] [] hq ?_ ?_<;>intro hq _
 exact retE hb 5 (injO hq).symm
 refine ifE hb 6 [17,18] [] hq ?_ ?_<;>intro hq _
 exact retE hb 5 (injO hq).symm
 refine ifE hb 7 [19,20] [] hq ?_ ?_<;>intro hq _
 exact retE hb 7 (injO hq).symm
 refine ifE hb 6 [19,21] [] hq ?_ ?_<;>intro hq _
 exact retE hb 7 (injO hq).symm
 refine ifE hb 6 [19,22] [] hq ?_ ?_<;>intro hq _
 exact retE hb 7 (injO hq).symm
 refine ifE hb 6 [19,23] [] hq ?_ ?_<;>intro hq _
 exact retE hb 7 (injO hq).symm
 refine ifE hb 6 [19,24] [] hq ?_ ?_<;>intro hq _
 exact retE hb 7 (injO hq).symm
 refine ifE hb 6 [19,25] [] hq ?_ ?_<;>intro hq _
 exact retE hb 7 (injO hq).symm
 refine ifE hb 5 [19,26] [] hq ?_ ?_<;>intro hq _
 exact retE hb 5 (injO hq).symm
 refine ifE hb 6 [27,28] [] hq ?_ ?_<;>intro hq _
 exact retE hb 5 (injO hq).symm
 refine ifE hb 7 [29,30] [] hq ?_ ?_<;>intro hq _
 exact retE hb 7 (injO hq).symm
 refine ifE hb 6 [29,31] [] hq ?_ ?_<;>intro hq _
 exact retE hb 7 (injO hq).symm
 refine ifE hb 5 [29,32] [] hq ?_ ?_<;>intro hq _
 exact retE hb 5 (injO hq).symm
 refine ifE hb 6 [33,34] [] hq ?_ ?_<;>intro hq _
 exact retE hb 5 (injO hq).symm
 refine ifE hb 6 [35,36] [] hq ?_ ?_<;>intro hq _
 exact retE hb 5 (injO hq).symm
 refine ifE hb 6 [37,38] [] hq ?_ ?_<;>intro hq _
 refine cpE hb 2 [] (s':=⟨none,[pk Tryz.f61 56623100,pk Tryz.f61 56623101],[(0,[pk Tryz.f61 7])],sl 45 [],[]⟩) ?_
 exact retE hb 3 (injO hq).symm
 refine cpE hb 2 [3] (s':=⟨none,[pk Tryz.f61 56623102,pk Tryz.f61 56623103],[(0,[pk Tryz.f61 7])],sl 45 [(3,c1 (vS name_))],[]⟩) ?_
 refine ifE hb 4 [39,40] [] hq ?_ ?_<;>intro hq _
 exact retE hb 5 (injO hq).symm
 refine ifE hb 6 [41,42] [] hq ?_ ?_<;>intro hq _
 exact retE hb 5 (injO hq).symm
 refine ifE hb 6 [43,44] [] hq ?_ ?_<;>intro hq _
 exact retE hb 5 (injO hq).symm
 exact retE hb 7 (injO hq).symm
def gQ7a  (v_:Val):Option (Bool) :=
 some (decide (v_.kind=6))
theorem gQ7b (hb:Base E E0 G) (he:∀w,E w->EnvV w)   (v_:Val):∀r_:Bool,gQ7a v_=some r_ ->
 Pure E E0 Tryz.prog 63 [.agg (aV v_)] (c1 (vB r_)):=by
 refine fnE hb Tryz.func63 rfl fun r_ hq=>?_
 exact retE hb 12 (injO hq).symm
def gQ5k (l_:List Val) (k_:Int) (s1:Int):Option ((Int)⊕(Bool)) :=
 bif (decide (s1<(l_.length:Int))) then (idx l_ s1).bind fun x2=>bif (!decide (x2.kind=k_)) then (idx l_ s1).bind fun x4=>(gQ7a x4).bind fun y5=>bif (!y5) then some (.inr (false)) else some (.inl (IntKind.i64.wrap (s1+1))) else some (.inl (IntKind.i64.wrap (s1+1))) else some (.inr (true))
def gQ5j  (l_:List Val) (k_:Int):Option (Bool) :=
 q7 (gQ5k l_ k_) 0
theorem gQ5l (hb:Base E E0 G) (he:∀w,E w->EnvV w)   (l_:List Val) (k_:Int):∀r_:Bool,gQ5j l_ k_=some r_ ->
 Pure E E0 Tryz.prog 104 [.cell (vL flV l_),.cell (vi k_)] (c1 (vB r_)):=by
 refine fnE hb Tryz.func104 rfl fun r_ hq=>?_
 refine qd hb 10 (gQ5k l_ k_) (fun s1=>sl 27 [(0,c1 (vL flV l_)),(1,c1 (vi k_)),(5,c1 (vi s1))]) (fun s1=>[]) [0,1,5] [] 0 (s0:=0) trivial hq (fun s1 o1 hq hn1 he1=>?_)
 refine ifE hb 8 [9] [] hq ?_ ?_<;>intro hq _
 refine idxE hb flV 8 hq fun x2 hx2 hq=>?_
 refine ifE hb 5 [18,19] [] hq ?_ ?_<;>intro hq _
 refine idxE hb flV 2 hq fun x4 hx4 hq=>?_
 refine q6 hb 1 hq (gQ7b hb he x4) fun y5 _ hq=>?_
 refine ifE hb 3 [25,26] [] hq ?_ ?_<;>intro hq _
 exact retE hb 5 (he1 _ (injO hq))
 exact q8 hb 8 [0,1,5] [] 0 (hn1 _ (injO hq)) trivial
 exact q8 hb 16 [0,1,5] [] 0 (hn1 _ (injO hq)) trivial
 exact retE hb 6 (he1 _ (injO hq))
def gQ6i  (v_:Val) (kind_:Int):Option (Bool) :=
 (gQ7a v_).bind fun y1=>bif y1 then some (true) else bif (decide (kind_=110)) then some (decide (v_.kind=2)) else bif (decide (kind_=115)) then some (decide (v_.kind=3)) else bif (decide (kind_=108)) then some (decide (v_.kind=4)) else bif (decide (kind_=109)) then some (decide (v_.kind=5)) else bif (decide (kind_=83)) then bif (decide (v_.kind=4)) then (gQ5j v_.items 3).bind fun y9=>some (y9) else some (false) else bif (decide (kind_=78)) then bif (decide (v_.kind=4)) then (gQ5j v_.items 2).bind fun y12=>some (y12) else some (false) else bif (decide (kind_=120)) then bif (decide (v_.kind=3)) then some (true) else bif (decide (v_.kind=4)) then some (true) else some (decide (v_.kind=5)) else some (true)
theorem gQ6j (hb:Base E E0 G) (he:∀w,E w->EnvV w)   (v_:Val) (kind_:Int):∀r_:Bool,gQ6i v_ kind_=some r_ ->
 Pure E E0 Tryz.prog 62 [.agg (aV v_),.cell (vI .u8 kind_)] (c1 (vB r_)):=by
 refine fnE hb Tryz.func62 rfl fun r_ hq=>?_
 refine q6 hb 9 hq (gQ7b hb he v_) fun y1 _ hq=>?_
 refine ifE hb 1 [6] [] hq ?_ ?_<;>intro hq _
 exact retE hb 5 (injO hq).symm
 refine ifE hb 13 [8,9] [] hq ?_ ?_<;>intro hq _
 exact retE hb 8 (injO hq).symm
 refine ifE hb 6 [13,14] [] hq ?_ ?_<;>intro hq _
 exact retE hb 8 (injO hq).symm
 refine ifE hb 6 [18,19] [] hq ?_ ?_<;>intro hq _
 exact retE hb 8 (injO hq).symm
 refine ifE hb 6 [23,24] [] hq ?_ ?_<;>intro hq _
 exact retE hb 8 (injO hq).symm
 refine ifE hb 6 [28,29] [] hq ?_ ?_<;>intro hq _
 refine ifE hb 7 [32,33] [] hq ?_ ?_<;>intro hq _
 refine q6 hb 2 hq (gQ5l hb he v_.items 3) fun y9 _ hq=>?_
 exact retE hb 3 (injO hq).symm
 exact retE hb 6 (injO hq).symm
 refine ifE hb 6 [38,39] [] hq ?_ ?_<;>intro hq _
 refine ifE hb 7 [42,43] [] hq ?_ ?_<;>intro hq _
 refine q6 hb 2 hq (gQ5l hb he v_.items 2) fun y12 _ hq=>?_
 exact retE hb 3 (injO hq).symm
 exact retE hb 6 (injO hq).symm
 refine ifE hb 6 [48,49] [] hq ?_ ?_<;>intro hq _
 refine ifE hb 7 [52,53] [] hq ?_ ?_<;>intro hq _
 exact retE hb 11 (injO hq).symm
 refine ifE hb 5 [56,57,58] [] hq ?_ ?_<;>intro hq _
 exact retE hb 6 (injO hq).symm
 exact retE hb 6 (injO hq).symm
 exact retE hb 7 (injO hq).symm
def gQ84 (args_:List Val) (y1:ByteArray) (s1:Int):Option ((Int)⊕(Bool)) :=
 bif (decide (s1<(args_.length:Int))) then bif (decide (s1 >= (y1.size:Int))) then (idx args_ s1).bind fun x4=>(sidx y1 (IntKind.i64.wrap ((y1.size:Int) - 1))).bind fun c5=>(gQ6i x4 c5).bind fun y6=>bif (!y6) then some (.inr (false)) else some (.inl (IntKind.i64.wrap (s1+1))) else (idx args_ s1).bind fun x8=>(sidx y1 s1).bind fun c9=>(gQ6i x8 c9).bind fun y10=>bif (!y10) then some (.inr (false)) else some (.inl (IntKind.i64.wrap (s1+1))) else some (.inr (true))
def gQ83  (name_:ByteArray) (args_:List Val):Option (Bool) :=
 (gQ6q name_).bind fun y1=>q7 (gQ84 args_ y1) 0
theorem gQ85 (hb:Base E E0 G) (he:∀w,E w->EnvV w)   (name_:ByteArray) (args_:List Val):∀r_:Bool,gQ83 name_ args_=some r_ ->
 Pure E E0 Tryz.prog 34 [.cell (vS name_),.cell (vL flV args_)] (c1 (vB r_)):=by
 refine fnE hb Tryz.func34 rfl fun r_ hq=>?_
 refine q6 hb 7 hq (gQ6r hb he name_) fun y1 _ hq=>?_
 refine qd hb 8 (gQ84 args_ y1) (fun s1=>sl 33 [(1,c1 (vL flV args_)),(5,c1 (vS y1)),(6,c1 (vi s1))]) (fun s1=>[]) [1,5,6] [] 0 (s0:=0) trivial hq (fun s1 o1 hq hn1 he1=>?_)
 refine ifE hb 8 [13] [] hq ?_ ?_<;>intro hq _
 refine ifE hb 17 [20] [] hq ?_ ?_<;>intro hq _
 refine qh hb mixed 8 7 [] ?_
 refine idxE hb flV 2 hq fun x4 hx4 hq=>?_
 refine q5w hb 3 hq fun c5 hc5 hq=>?_
 refine q6 hb 1 hq (gQ6j hb he x4 c5) fun y6 _ hq=>?_
 refine ifE hb 2 [32] [] hq ?_ ?_<;>intro hq _
 exact retE hb 5 (he1 _ (injO hq))
 exact q8 hb 8 [1,5,6] [] 0 (hn1 _ (injO hq)) trivial
 refine qh hb mixed 3 7 [] ?_
 refine idxE hb flV 2 hq fun x8 hx8 hq=>?_
 refine q5w hb 3 hq fun c9 hc9 hq=>?_
 refine q6 hb 1 hq (gQ6j hb he x8 c9) fun y10 _ hq=>?_
 refine ifE hb 2 [32] [] hq ?_ ?_<;>intro hq _
 exact retE hb 5 (he1 _ (injO hq))
 exact q8 hb 8 [1,5,6] [] 0 (hn1 _ (injO hq)) trivial
 exact retE hb 6 (he1 _ (injO hq))
def gQ7j  (name_:ByteArray):Option (Bool) :=
 bif (decide (name_=⟨#[99,111,97,108,101,115,99,101]⟩)) then some (false) else bif (decide (name_=⟨#[99,111,110,116,97,105,110,115]⟩)) then some (false) else bif (decide (name_=⟨#[100,105,115,116,105,110,99,116]⟩)) then some (false) else bif (decide (name_=⟨#[101,108,101,109,101,110,116]⟩)) then some (false) else bif (decide (name_=⟨#[102,108,97,116,116,101,110]⟩)) then some (false) else bif (decide (name_=⟨#[105,110,100,101,120]⟩)) then some (false) else bif (decide (name_=⟨#[108,111,111,107,117,112]⟩)) then some (false) else bif (decide (name_=⟨#[116,111,98,111,111,108]⟩)) then some (false) else bif (decide (name_=⟨#[116,111,110,117,109,98,101,114]⟩)) then some (false) else bif (decide (name_=⟨#[116,111,115,116,114,105,110,103]⟩)) then some (false) else bif (decide (name_=⟨#[122,105,112,109,97,112]⟩)) then some (false) else some (true)
theorem gQ7k (hb:Base E E0 G) (he:∀w,E w->EnvV w)   (name_:ByteArray):∀r_:Bool,gQ7j name_=some r_ ->
 Pure E E0 Tryz.prog 35 [.cell (vS name_)] (c1 (vB r_)):=by
 refine fnE hb Tryz.func35 rfl fun r_ hq=>?_
 refine ifE hb 16 [4,5] [] hq ?_ ?_<;>intro hq _
 exact retE hb 7 (injO hq).symm
 refine ifE hb 6 [4,6] [] hq ?_ ?_<;>intro hq _
 exact retE hb 7 (injO hq).symm
 refine ifE hb 6 [4,7] [] hq ?_ ?_<;>intro hq _
 exact retE hb 7 (injO hq).symm
 refine ifE hb 6 [4,8] [] hq ?_ ?_<;>intro hq _
 exact retE hb 7 (injO hq).symm
 refine ifE hb 6 [4,9] [] hq ?_ ?_<;>intro hq _
 exact retE hb 7 (injO hq).symm
 refine ifE hb 6 [4,10] [] hq ?_ ?_<;>intro hq _
 exact retE hb 7 (injO hq).symm
 refine ifE hb 6 [4,11] [] hq ?_ ?_<;>intro hq _
 exact retE hb 7 (injO hq).symm
 refine ifE hb 6 [4,12] [] hq ?_ ?_<;>intro hq _
 exact retE hb 7 (injO hq).symm
 refine ifE hb 6 [4,13] [] hq ?_ ?_<;>intro hq _
 exact retE hb 7 (injO hq).symm
 refine ifE hb 6 [4,14] [] hq ?_ ?_<;>intro hq _
 exact retE hb 7 (injO hq).symm
 refine ifE hb 5 [4,15] [] hq ?_ ?_<;>intro hq _
 exact retE hb 5 (injO hq).symm
 exact retE hb 7 (injO hq).symm
def gQ5s (args_:List Val) (s1:Int) (s2:Int):Option ((Int)⊕((Int)⊕(Bool))) :=
 (idx args_ s1).bind fun x9=>bif (decide (s2<(x9.items.length:Int))) then (idx args_ s1).bind fun x11=>(idx x11.items s2).bind fun x12=>(gQ7a x12).bind fun y13=>bif y13 then some (.inr (.inr (true))) else some (.inl (IntKind.i64.wrap (s2+1))) else some (.inr (.inl (IntKind.i64.wrap (s1+1))))
def gQ5t (args_:List Val) (s1:Int) (s2:Int):Option ((Int)⊕((Int)⊕(Bool))) :=
 (idx args_ s1).bind fun x17=>bif (decide (s2<(x17.items.length:Int))) then (idx args_ s1).bind fun x19=>(idx x19.items s2).bind fun x20=>(gQ7a x20).bind fun y21=>bif y21 then some (.inr (.inr (true))) else some (.inl (IntKind.i64.wrap (s2+1))) else some (.inr (.inl (IntKind.i64.wrap (s1+1))))
def gQ5r (args_:List Val) (y1:ByteArray) (s1:Int):Option ((Int)⊕(Bool)) :=
 bif (decide (s1<(args_.length:Int))) then (idx args_ s1).bind fun x3=>(gQ7a x3).bind fun y4=>bif y4 then some (.inr (true)) else bif (decide (s1<(y1.size:Int))) then (sidx y1 s1).bind fun c7=>bif (decide (c7=83)) then q7 (gQ5s args_ s1) 0 else (sidx y1 s1).bind fun c15=>bif (decide (c15=78)) then q7 (gQ5t args_ s1) 0 else some (.inl (IntKind.i64.wrap (s1+1))) else some (.inl (IntKind.i64.wrap (s1+1))) else some (.inr (false))
def gQ5q  (name_:ByteArray) (args_:List Val):Option (Bool) :=
 (gQ6q name_).bind fun y1=>q7 (gQ5r args_ y1) 0
theorem gQ5u (hb:Base E E0 G) (he:∀w,E w->EnvV w)   (name_:ByteArray) (args_:List Val):∀r_:Bool,gQ5q name_ args_=some r_ ->
 Pure E E0 Tryz.prog 36 [.cell (vS name_),.cell (vL flV args_)] (c1 (vB r_)):=by
 refine fnE hb Tryz.func36 rfl fun r_ hq=>?_
 refine q6 hb 7 hq (gQ6r hb he name_) fun y1 _ hq=>?_
 refine qd hb 8 (gQ5r args_ y1) (fun s1=>sl 56 [(1,c1 (vL flV args_)),(5,c1 (vS y1)),(6,c1 (vi s1))]) (fun s1=>[]) [1,5,6] [] 0 (s0:=0) trivial hq (fun s1 o1 hq hn1 he1=>?_)
 refine ifE hb 8 [13] [] hq ?_ ?_<;>intro hq _
 refine idxE hb flV 9 hq fun x3 hx3 hq=>?_
 refine q6 hb 1 hq (gQ7b hb he x3) fun y4 _ hq=>?_
 refine ifE hb 1 [20] [] hq ?_ ?_<;>intro hq _
 exact retE hb 5 (he1 _ (injO hq))
 refine ifE hb 9 [24,25] [] hq ?_ ?_<;>intro hq _
 refine q5w hb 2 hq fun c7 hc7 hq=>?_
 refine ifE hb 2 [29,30] [] hq ?_ ?_<;>intro hq _
 refine cpE hb 13 [1,5,6,7] (s':=⟨none,[pk Tryz.f36 29850],[(2,[]),(1,[pk Tryz.f36 467,pk Tryz.f36 58]),(0,[pk Tryz.f36 15])],sl 56 [(1,c1 (vL flV args_)),(5,c1 (vS y1)),(6,c1 (vi s1)),(7,c1 (vi 0))],[]⟩) ?_
 refine qd hb 0 (gQ5s args_ s1) (fun s2=>sl 56 [(1,c1 (vL flV args_)),(5,c1 (vS y1)),(6,c1 (vi s1)),(7,c1 (vi s2))]) (fun s2=>[]) [1,5,6,7] [] 0 (s0:=0) trivial hq (fun s2 o2 hq hn2 he2=>?_)
 refine idxE hb flV 6 hq fun x9 hx9 hq=>?_
 refine ifE hb 5 [44] [] hq ?_ ?_<;>intro hq _
 refine idxE hb flV 8 hq fun x11 hx11 hq=>?_
 refine idxE hb flV 3 hq fun x12 hx12 hq=>?_
 refine q6 hb 1 hq (gQ7b hb he x12) fun y13 _ hq=>?_
 refine ifE hb 1 [55] [] hq ?_ ?_<;>intro hq _
 exact retE hb 5 (he1 _ ((he2 _ (injO hq)).symm))
 exact q8 hb 8 [1,5,6,7] [] 0 (hn2 _ (injO hq)) trivial
 exact q8 hb 8 [1,5,6] [] 0 (hn1 _ ((he2 _ (injO hq)).symm)) trivial
 refine q5w hb 2 hq fun c15 hc15 hq=>?_
 refine ifE hb 4 [34,35,36] [] hq ?_ ?_<;>intro hq _
 refine cpE hb 6 [1,5,6,7] (s':=⟨none,[pk Tryz.f36 29850],[(2,[]),(1,[pk Tryz.f36 467,pk Tryz.f36 58]),(0,[pk Tryz.f36 15])],sl 56 [(1,c1 (vL flV args_)),(5,c1 (vS y1)),(6,c1 (vi s1)),(7,c1 (vi 0))],[]⟩) ?_
 refine qd hb 0 (gQ5t args_ s1) (fun s2=>sl 56 [(1,c1 (vL flV args_)),(5,c1 (vS y1)),(6,c1 (vi s1)),(7,c1 (vi s2))]) (fun s2=>[]) [1,5,6,7] [] 0 (s0:=0) trivial hq (fun s2 o2 hq hn2 he2=>?_)
 refine idxE hb flV 6 hq fun x17 hx17 hq=>?_
 refine ifE hb 5 [44] [] hq ?_ ?_<;>intro hq _
 refine idxE hb flV 8 hq fun x19 hx19 hq=>?_
 refine idxE hb flV 3 hq fun x20 hx20 hq=>?_
 refine q6 hb 1 hq (gQ7b hb he x20) fun y21 _ hq=>?_
 refine ifE hb 1 [55] [] hq ?_ ?_<;>intro hq _
 exact retE hb 5 (he1 _ ((he2 _ (injO hq)).symm))
 exact q8 hb 8 [1,5,6,7] [] 0 (hn2 _ (injO hq)) trivial
 exact q8 hb 8 [1,5,6] [] 0 (hn1 _ ((he2 _ (injO hq)).symm)) trivial
 exact q8 hb 8 [1,5,6] [] 0 (hn1 _ (injO hq)) trivial
 exact q8 hb 20 [1,5,6] [] 0 (hn1 _ (injO hq)) trivial
 exact retE hb 6 (he1 _ (injO hq))
def gQ86  :Option (Val) :=
 some (Val.mk 6 0 eS [] [])
theorem gQ87 (hb:Base E E0 G) (he:∀w,E w->EnvV w)   :∀r_:Val,gQ86=some r_ ->
 Pure E E0 Tryz.prog 37 [] (.one (.agg (aV r_))):=by
 refine fnE hb Tryz.func37 rfl fun r_ hq=>?_
 exact retE hb 9 (injO hq).symm
def gQ73  (n_:Int):Option (Val) :=
 some (Val.mk 2 n_ eS [] [])
theorem gQ74 (hb:Base E E0 G) (he:∀w,E w->EnvV w)   (n_:Int):∀r_:Val,gQ73 n_=some r_ ->
 Pure E E0 Tryz.prog 105 [.cell (vi n_)] (.one (.agg (aV r_))):=by
 refine fnE hb Tryz.func105 rfl fun r_ hq=>?_
 exact retE hb 10 (injO hq).symm
def gQ65 (b_:Int) (s1:Int×List Val):Option ((Int×List Val)⊕(Val×Int)) :=
 bif (decide (s1.1<b_)) then (gQ73 s1.1).bind fun y3=>(app 80 s1.2 [y3]).bind fun l4=>some (.inl ((IntKind.i64.wrap (s1.1+1)),l4)) else some (.inr ((Val.mk 4 0 eS s1.2 []),0))
def gQ64  (a_:Int) (b_:Int):Option (Val×Int) :=
 bif (decide ((IntKind.i64.wrap (b_-a_)) > 4096)) then some ((Val.mk 0 0 eS [] []),14) else q7 (gQ65 b_) (a_,[])
theorem gQ66 (hb:Base E E0 G) (he:∀w,E w->EnvV w)   (a_:Int) (b_:Int):∀r_:Val×Int,gQ64 a_ b_=some r_ ->
 Pure E E0 Tryz.prog 106 [.cell (vi a_),.cell (vi b_)] (.tup [.agg (aV r_.1),.cell (vi r_.2)]):=by
 refine fnE hb Tryz.func106 rfl fun r_ hq=>?_
 refine ifE hb 13 [11] [] hq ?_ ?_<;>intro hq _
 exact retE hb 7 (injO hq).symm
 refine q3j hb 15 1 3 5 (cs:=[vi 4,vi 0,vS eS,vN,vN]) (by kernel_rfl) ?_
 refine qd hb 0 (gQ65 b_) (fun s1=>sl 28 [(1,c1 (vi b_)),(4,pt 0),(6,pt 1),(7,c1 (vi s1.1))]) (fun s1=>[bx zV,bx [vi 4,vi 0,vS eS,vO flV 2 s1.2,vN],some (arO true flV.sz 0 (flV.f s1.2))]) [1,4,6,7] [] 3 (s0:=(a_,[])) ⟨(by kernel_rfl),(by kernel_rfl),(qa _ _ _ _ _),trivial⟩ hq (fun s1 o1 hq hn1 he1=>?_)
 refine ifE hb 7 [17] [] hq ?_ ?_<;>intro hq _
 refine qh hb mixed 4 5 [] ?_
 refine q6 hb 3 hq (gQ74 hb he s1.1) fun y3 _ hq=>?_
 refine qi flV hb 2 2 true 0 (flV.one y3) hq fun l4 hl4 hq=>?_
 exact q8 hb 9 [1,4,6,7] [] 3 (hn1 _ (injO hq)) ⟨(by kernel_rfl),(by kernel_rfl),(qa _ _ _ _ _),trivial⟩
 refine qw hb 8 2 true (sz:=flV.sz) (fr:=0) (cs:=flV.f s1.2) (by kernel_rfl) (Nat.zero_le _) ?_
 refine q19 hb 0 0 3 (cs:=[vi 4,vi 0,vS eS,vO flV 2 s1.2,vN]) (c:=vO flV 2 s1.2) (q1g flV (nb:=true) (id:=2) (xs:=s1.2) (by kernel_rfl)) (by kernel_rfl) ?_
 exact retE hb 0 (he1 _ (injO hq))
def gQ45  (n_:Int):Option (Bool) :=
 bif (decide (n_ >= (-9007199254740992))) then some (decide (n_<=9007199254740992)) else some (false)
theorem gQ46 (hb:Base E E0 G) (he:∀w,E w->EnvV w)   (n_:Int):∀r_:Bool,gQ45 n_=some r_ ->
 Pure E E0 Tryz.prog 130 [.cell (vi n_)] (c1 (vB r_)):=by
 refine fnE hb Tryz.func130 rfl fun r_ hq=>?_
 refine ifE hb 9 [4,5] [] hq ?_ ?_<;>intro hq _
 exact retE hb 5 (injO hq).symm
 exact retE hb 5 (injO hq).symm
def gQ47  (n_:Int):Option (Int×Int) :=
 (gQ45 n_).bind fun y1=>bif (!y1) then some (0,5) else some (n_,0)
theorem gQ48 (hb:Base E E0 G) (he:∀w,E w->EnvV w)   (n_:Int):∀r_:Int×Int,gQ47 n_=some r_ ->
 Pure E E0 Tryz.prog 161 [.cell (vi n_)] (.tup [.cell (vi r_.1),.cell (vi r_.2)]):=by
 refine fnE hb Tryz.func161 rfl fun r_ hq=>?_
 refine q6 hb 9 hq (gQ46 hb he n_) fun y1 _ hq=>?_
 refine ifE hb 2 [6] [] hq ?_ ?_<;>intro hq _
 exact retE hb 6 (injO hq).symm
 exact retE hb 8 (injO hq).symm
def gQ3z  (a_:Int) (b_:Int):Option (Int×Int) :=
 (gQ45 a_).bind fun y1=>bif (!y1) then some (0,1) else (gQ45 b_).bind fun y3=>bif (!y3) then some (0,1) else (gQ47 (IntKind.i64.wrap (a_+b_))).bind fun y5=>some (y5.1,y5.2)
theorem gQ40 (hb:Base E E0 G) (he:∀w,E w->EnvV w)   (a_:Int) (b_:Int):∀r_:Int×Int,gQ3z a_ b_=some r_ ->
 Pure E E0 Tryz.prog 107 [.cell (vi a_),.cell (vi b_)] (.tup [.cell (vi r_.1),.cell (vi r_.2)]):=by
 refine fnE hb Tryz.func107 rfl fun r_ hq=>?_
 refine q6 hb 9 hq (gQ46 hb he a_) fun y1 _ hq=>?_
 refine ifE hb 2 [8,9] [] hq ?_ ?_<;>intro hq _
 exact retE hb 11 (injO hq).symm
 refine q6 hb 1 hq (gQ46 hb he b_) fun y3 _ hq=>?_
 refine ifE hb 3 [12,13] [] hq ?_ ?_<;>intro hq _
 exact retE hb 6 (injO hq).symm
 refine q6 hb 7 hq (gQ48 hb he (IntKind.i64.wrap (a_+b_))) fun y5 _ hq=>?_
 exact retE hb 5 (injO hq).symm
def gQ76 (args_:List Val) (s1:Int×Int):Option ((Int×Int)⊕(Val×Int)) :=
 bif (decide (s1.2<(args_.length:Int))) then (idx args_ s1.2).bind fun x8=>some (.inl ((if x8.num > s1.1 then x8.num else s1.1),(IntKind.i64.wrap (s1.2+1)))) else (gQ73 s1.1).bind fun y9=>some (.inr (y9,0))
def gQ77 (args_:List Val) (s1:Int×Int):Option ((Int×Int)⊕(Val×Int)) :=
 bif (decide (s1.2<(args_.length:Int))) then (idx args_ s1.2).bind fun x12=>some (.inl ((if x12.num<s1.1 then x12.num else s1.1),(IntKind.i64.wrap (s1.2+1)))) else (gQ73 s1.1).bind fun y13=>some (.inr (y13,0))
def gQ78 (args_:List Val) (s1:Int×Int):Option ((Int×Int)⊕(Val×Int)) :=
 (idx args_ 0).bind fun x19=>bif (decide (s1.2<(x19.items.length:Int))) then (idx args_ 0).bind fun x21=>(idx x21.items s1.2).bind fun x22=>(gQ3z s1.1 x22.num).bind fun y23=>bif (!decide (y23.2=0)) then some (.inr ((Val.mk 0 0 eS [] []),y23.2)) else some (.inl (y23.1,(IntKind.i64.wrap (s1.2+1)))) else (gQ73 s1.1).bind fun y25=>some (.inr (y25,0))
def gQ75  (name_:ByteArray) (args_:List Val):Option (Val×Int) :=
 (idx args_ 0).bind fun x1=>bif (decide (name_=⟨#[97,98,115]⟩)) then bif (decide (x1.num<0)) then (gQ73 (IntKind.i64.wrap (0-x1.num))).bind fun y4=>some (y4,0) else (gQ73 x1.num).bind fun y5=>some (y5,0) else bif (decide (name_=⟨#[109,97,120]⟩)) then q7 (gQ76 args_) (x1.num,0) else bif (decide (name_=⟨#[109,105,110]⟩)) then q7 (gQ77 args_) (x1.num,0) else bif (decide (name_=⟨#[114,97,110,103,101]⟩)) then bif (decide ((args_.length:Int)=2)) then (idx args_ 1).bind fun x16=>(gQ64 x1.num x16.num).bind fun y17=>some (y17.1,y17.2) else (gQ64 0 x1.num).bind fun y18=>some (y18.1,y18.2) else q7 (gQ78 args_) (0,0)
theorem gQ79 (hb:Base E E0 G) (he:∀w,E w->EnvV w)   (name_:ByteArray) (args_:List Val):∀r_:Val×Int,gQ75 name_ args_=some r_ ->
 Pure E E0 Tryz.prog 64 [.cell (vS name_),.cell (vL flV args_)] (.tup [.agg (aV r_.1),.cell (vi r_.2)]):=by
 refine fnE hb Tryz.func64 rfl fun r_ hq=>?_
 refine idxE hb flV 8 hq fun x1 hx1 hq=>?_
 refine ifE hb 15 [20,21] [] hq ?_ ?_<;>intro hq _
 refine ifE hb 7 [23] [] hq ?_ ?_<;>intro hq _
 refine q6 hb 9 hq (gQ74 hb he (IntKind.i64.wrap (0-x1.num))) fun y4 _ hq=>?_
 exact retE hb 3 (injO hq).symm
 refine q6 hb 5 hq (gQ74 hb he x1.num) fun y5 _ hq=>?_
 exact retE hb 3 (injO hq).symm
 refine ifE hb 6 [28,29] [] hq ?_ ?_<;>intro hq _
 refine qd hb 7 (gQ76 args_) (fun s1=>sl 107 [(1,c1 (vL flV args_)),(4,pt 0),(6,c1 (vi s1.1)),(7,c1 (vi s1.2))]) (fun s1=>[bx zV]) [1,4,6,7] [] 1 (s0:=(x1.num,0)) ⟨(by kernel_rfl),trivial⟩ hq (fun s1 o1 hq hn1 he1=>?_)
 refine ifE hb 8 [33] [] hq ?_ ?_<;>intro hq _
 refine idxE hb flV 8 hq fun x8 hx8 hq=>?_
 exact q8 hb 11 [1,4,6,7] [] 1 (hn1 _ (injO hq)) ⟨(by kernel_rfl),trivial⟩
 refine q6 hb 5 hq (gQ74 hb he s1.1) fun y9 _ hq=>?_
 exact retE hb 3 (he1 _ (injO hq))
 refine ifE hb 6 [45,46] [] hq ?_ ?_<;>intro hq _
 refine cpE hb 7 [1,4,6,8] (s':=⟨none,[pk Tryz.f64 30194],[(3,[pk Tryz.f64 7549]),(0,[pk Tryz.f64 15])],sl 107 [(1,c1 (vL flV args_)),(4,pt 0),(6,c1 (vi x1.num)),(8,c1 (vi 0))],[bx zV]⟩) ?_
 refine qd hb 0 (gQ77 args_) (fun s1=>sl 107 [(1,c1 (vL flV args_)),(4,pt 0),(6,c1 (vi s1.1)),(8,c1 (vi s1.2))]) (fun s1=>[bx zV]) [1,4,6,8] [] 1 (s0:=(x1.num,0)) ⟨(by kernel_rfl),trivial⟩ hq (fun s1 o1 hq hn1 he1=>?_)
 refine ifE hb 8 [50] [] hq ?_ ?_<;>intro hq _
 refine idxE hb flV 8 hq fun x12 hx12 hq=>?_
 exact q8 hb 11 [1,4,6,8] [] 1 (hn1 _ (injO hq)) ⟨(by kernel_rfl),trivial⟩
 refine q6 hb 5 hq (gQ74 hb he s1.1) fun y13 _ hq=>?_
 exact retE hb 3 (he1 _ (injO hq))
 refine ifE hb 6 [62,63] [] hq ?_ ?_<;>intro hq _
 refine ifE hb 14 [67] [] hq ?_ ?_<;>intro hq _
 refine qh hb mixed 1 6 [] ?_
 refine idxE hb flV 2 hq fun x16 hx16 hq=>?_
 refine q6 hb 10 hq (gQ66 hb he x1.num x16.num) fun y17 _ hq=>?_
 exact retE hb 5 (injO hq).symm
 refine q6 hb 6 hq (gQ66 hb he 0 x1.num) fun y18 _ hq=>?_
 exact retE hb 5 (injO hq).symm
 refine cpE hb 13 [1,4,11,12] (s':=⟨none,[pk Tryz.f64 250],[(5,[pk Tryz.f64 63])],sl 107 [(1,c1 (vL flV args_)),(4,pt 0),(11,c1 (vi 0)),(12,c1 (vi 0))],[bx zV]⟩) ?_
 refine qd hb 0 (gQ78 args_) (fun s1=>sl 107 [(1,c1 (vL flV args_)),(4,pt 0),(11,c1 (vi s1.1)),(12,c1 (vi s1.2))]) (fun s1=>[bx zV]) [1,4,11,12] [] 1 (s0:=(0,0)) ⟨(by kernel_rfl),trivial⟩ hq (fun s1 o1 hq hn1 he1=>?_)
 refine idxE hb flV 5 hq fun x19 hx19 hq=>?_
 refine ifE hb 5 [84] [] hq ?_ ?_<;>intro hq _
 refine idxE hb flV 8 hq fun x21 hx21 hq=>?_
 refine idxE hb flV 3 hq fun x22 hx22 hq=>?_
 refine q6 hb 2 hq (gQ40 hb he s1.1 x22.num) fun y23 _ hq=>?_
 refine ifE hb 12 [101] [] hq ?_ ?_<;>intro hq _
 exact retE hb 8 (he1 _ (injO hq))
 exact q8 hb 12 [1,4,11,12] [] 1 (hn1 _ (injO hq)) ⟨(by kernel_rfl),trivial⟩
 refine q6 hb 5 hq (gQ74 hb he s1.1) fun y25 _ hq=>?_
 exact retE hb 3 (he1 _ (injO hq))
def gQ81  (b_:Bool):Option (Val) :=
 bif b_ then some (Val.mk 1 1 eS [] []) else some (Val.mk 1 0 eS [] [])
theorem gQ82 (hb:Base E E0 G) (he:∀w,E w->EnvV w)   (b_:Bool):∀r_:Val,gQ81 b_=some r_ ->
 Pure E E0 Tryz.prog 108 [.cell (vB b_)] (.one (.agg (aV r_))):=by
 refine fnE hb Tryz.func108 rfl fun r_ hq=>?_
 refine ifE hb 9 [0,3] [] hq ?_ ?_<;>intro hq _
 exact retE hb 6 (injO hq).symm
 exact retE hb 7 (injO hq).symm
def gQ6d  (s_:ByteArray) (t_:ByteArray):Option (Bool) :=
 bif (decide ((s_.size:Int) >= (t_.size:Int))) then (sslc s_ (IntKind.i64.wrap ((s_.size:Int)-(t_.size:Int))) (s_.size:Int)).bind fun x2=>some (decide (x2=t_)) else some (false)
theorem gQ6e (hb:Base E E0 G) (he:∀w,E w->EnvV w)   (s_:ByteArray) (t_:ByteArray):∀r_:Bool,gQ6d s_ t_=some r_ ->
 Pure E E0 Tryz.prog 109 [.cell (vS s_),.cell (vS t_)] (c1 (vB r_)):=by
 refine fnE hb Tryz.func109 rfl fun r_ hq=>?_
 refine ifE hb 12 [9,10] [] hq ?_ ?_<;>intro hq _
 refine q4x hb 6 hq fun x2 hx2 hq=>?_
 exact retE hb 5 (injO hq).symm
 exact retE hb 12 (injO hq).symm
def gQ5m  (s_:ByteArray) (t_:ByteArray):Option (Bool) :=
 bif (decide ((s_.size:Int) >= (t_.size:Int))) then (sslc s_ 0 (t_.size:Int)).bind fun x2=>some (decide (x2=t_)) else some (false)
theorem gQ5n (hb:Base E E0 G) (he:∀w,E w->EnvV w)   (s_:ByteArray) (t_:ByteArray):∀r_:Bool,gQ5m s_ t_=some r_ ->
 Pure E E0 Tryz.prog 110 [.cell (vS s_),.cell (vS t_)] (c1 (vB r_)):=by
 refine fnE hb Tryz.func110 rfl fun r_ hq=>?_
 refine ifE hb 12 [9,10] [] hq ?_ ?_<;>intro hq _
 refine q4x hb 3 hq fun x2 hx2 hq=>?_
 exact retE hb 5 (injO hq).symm
 exact retE hb 9 (injO hq).symm
def gQ7q  (s_:ByteArray):Option (Val) :=
 some (Val.mk 3 0 s_ [] [])
theorem gQ7r (hb:Base E E0 G) (he:∀w,E w->EnvV w)   (s_:ByteArray):∀r_:Val,gQ7q s_=some r_ ->
 Pure E E0 Tryz.prog 111 [.cell (vS s_)] (.one (.agg (aV r_))):=by
 refine fnE hb Tryz.func111 rfl fun r_ hq=>?_
 exact retE hb 10 (injO hq).symm
def gQ5z (s_:ByteArray) (lo_:Int) (hi_:Int) (by_:Int) (s1:Int×List Int):Option ((Int×List Int)⊕(ByteArray)) :=
 bif (decide (s1.1<(s_.size:Int))) then (sidx s_ s1.1).bind fun c2=>bif (decide (c2 >= lo_)) then bif (decide (c2<=hi_)) then (app 1 s1.2 [(IntKind.u8.wrap (IntKind.i64.wrap ((IntKind.i64.wrap c2)+by_)))]).bind fun l5=>some (.inl ((IntKind.i64.wrap (s1.1+1)),l5)) else (app 1 s1.2 [c2]).bind fun l6=>some (.inl ((IntKind.i64.wrap (s1.1+1)),l6)) else (app 1 s1.2 [c2]).bind fun l7=>some (.inl ((IntKind.i64.wrap (s1.1+1)),l7)) else (bstr s1.2).bind fun x8=>some (.inr (x8))
def gQ5y  (s_:ByteArray) (lo_:Int) (hi_:Int) (by_:Int):Option (ByteArray) :=
 q7 (gQ5z s_ lo_ hi_ by_) (0,[])
theorem gQ60 (hb:Base E E0 G) (he:∀w,E w->EnvV w)   (s_:ByteArray) (lo_:Int) (hi_:Int) (by_:Int):∀r_:ByteArray,gQ5y s_ lo_ hi_ by_=some r_ ->
 Pure E E0 Tryz.prog 112 [.cell (vS s_),.cell (vI .u8 lo_),.cell (vI .u8 hi_),.cell (vi by_)] (c1 (vS r_)):=by
 refine fnE hb Tryz.func112 rfl fun r_ hq=>?_
 refine q2f hb 14 9 1 ?_
 refine qd hb 0 (gQ5z s_ lo_ hi_ by_) (fun s1=>sl 40 [(0,c1 (vS s_)),(1,c1 (vI .u8 lo_)),(2,c1 (vI .u8 hi_)),(3,c1 (vi by_)),(9,c1 (vO (flI .u8) 0 s1.2)),(10,c1 (vi s1.1))]) (fun s1=>[some (arO true (flI .u8).sz 0 ((flI .u8).f s1.2))]) [0,1,2,3,9,10] [] 1 (s0:=(0,[])) ⟨(qa _ _ _ _ _),trivial⟩ hq (fun s1 o1 hq hn1 he1=>?_)
 refine ifE hb 8 [15] [] hq ?_ ?_<;>intro hq _
 refine q5w hb 8 hq fun c2 hc2 hq=>?_
 refine ifE hb 9 [23,24] [] hq ?_ ?_<;>intro hq _
 refine ifE hb 5 [27,28] [] hq ?_ ?_<;>intro hq _
 refine qi (flI .u8) hb 13 0 true 0 ((flI .u8).one (IntKind.u8.wrap (IntKind.i64.wrap ((IntKind.i64.wrap c2)+by_)))) hq fun l5 hl5 hq=>?_
 exact q8 hb 8 [0,1,2,3,9,10] [] 1 (hn1 _ (injO hq)) ⟨(qa _ _ _ _ _),trivial⟩
 refine qi (flI .u8) hb 6 0 true 0 ((flI .u8).one c2) hq fun l6 hl6 hq=>?_
 exact q8 hb 8 [0,1,2,3,9,10] [] 1 (hn1 _ (injO hq)) ⟨(qa _ _ _ _ _),trivial⟩
 refine qi (flI .u8) hb 11 0 true 0 ((flI .u8).one c2) hq fun l7 hl7 hq=>?_
 exact q8 hb 8 [0,1,2,3,9,10] [] 1 (hn1 _ (injO hq)) ⟨(qa _ _ _ _ _),trivial⟩
 refine qpv hb 5 0 true 0 (xs:=s1.2) hq fun x8 hx8 hq=>?_
 exact retE hb 2 (he1 _ (injO hq))
def gQ5o  (c_:Int):Option (Bool) :=
 bif (decide (c_=32)) then some (true) else bif (decide (c_=9)) then some (true) else bif (decide (c_=10)) then some (true) else some (decide (c_=13))
theorem gQ5p (hb:Base E E0 G) (he:∀w,E w->EnvV w)   (c_:Int):∀r_:Bool,gQ5o c_=some r_ ->
 Pure E E0 Tryz.prog 162 [.cell (vI .u8 c_)] (c1 (vB r_)):=by
 refine fnE hb Tryz.func162 rfl fun r_ hq=>?_
 refine ifE hb 9 [4,5] [] hq ?_ ?_<;>intro hq _
 exact retE hb 13 (injO hq).symm
 refine ifE hb 4 [7,8,9] [] hq ?_ ?_<;>intro hq _
 exact retE hb 9 (injO hq).symm
 refine ifE hb 4 [11,12,13] [] hq ?_ ?_<;>intro hq _
 exact retE hb 5 (injO hq).symm
 exact retE hb 5 (injO hq).symm
def gQ7y (s_:ByteArray) (s1:Int) (s2:Int):Option ((Int)⊕((Int)⊕(ByteArray))) :=
 bif (decide (s2 > s1)) then (sidx s_ (IntKind.i64.wrap (s2 - 1))).bind fun c6=>(gQ5o c6).bind fun y7=>bif y7 then some (.inl (IntKind.i64.wrap (s2 - 1))) else (sslc s_ s1 s2).bind fun x9=>some (.inr (.inr (x9))) else (sslc s_ s1 s2).bind fun x10=>some (.inr (.inr (x10)))
def gQ7z (s_:ByteArray) (s1:Int) (s2:Int):Option ((Int)⊕((Int)⊕(ByteArray))) :=
 bif (decide (s2 > s1)) then (sidx s_ (IntKind.i64.wrap (s2 - 1))).bind fun c12=>(gQ5o c12).bind fun y13=>bif y13 then some (.inl (IntKind.i64.wrap (s2 - 1))) else (sslc s_ s1 s2).bind fun x15=>some (.inr (.inr (x15))) else (sslc s_ s1 s2).bind fun x16=>some (.inr (.inr (x16)))
def gQ7x (s_:ByteArray) (s1:Int):Option ((Int)⊕(ByteArray)) :=
 bif (decide (s1<(s_.size:Int))) then (sidx s_ s1).bind fun c2=>(gQ5o c2).bind fun y3=>bif y3 then some (.inl (IntKind.i64.wrap (s1+1))) else q7 (gQ7y s_ s1) (s_.size:Int) else q7 (gQ7z s_ s1) (s_.size:Int)
def gQ7w  (s_:ByteArray):Option (ByteArray) :=
 q7 (gQ7x s_) 0
theorem gQ80 (hb:Base E E0 G) (he:∀w,E w->EnvV w)   (s_:ByteArray):∀r_:ByteArray,gQ7w s_=some r_ ->
 Pure E E0 Tryz.prog 113 [.cell (vS s_)] (c1 (vS r_)):=by
 refine fnE hb Tryz.func113 rfl fun r_ hq=>?_
 refine qd hb 13 (gQ7x s_) (fun s1=>sl 34 [(0,c1 (vS s_)),(3,c1 (vi s1)),(4,c1 (vi (s_.size:Int)))]) (fun s1=>[]) [0,3,4] [] 0 (s0:=0) trivial hq (fun s1 o1 hq hn1 he1=>?_)
 refine ifE hb 7 [9,10] [] hq ?_ ?_<;>intro hq _
 refine q5w hb 2 hq fun c2 hc2 hq=>?_
 refine q6 hb 0 hq (gQ5p hb he c2) fun y3 _ hq=>?_
 refine ifE hb 2 [14,15] [] hq ?_ ?_<;>intro hq _
 exact q8 hb 9 [0,3,4] [] 0 (hn1 _ (injO hq)) trivial
 refine cpE hb 4 [0,3,4] (s':=⟨none,[pk Tryz.f113 60],[(2,[pk Tryz.f113 31])],sl 34 [(0,c1 (vS s_)),(3,c1 (vi s1)),(4,c1 (vi (s_.size:Int)))],[]⟩) ?_
 refine qd hb 0 (gQ7y s_ s1) (fun s2=>sl 34 [(0,c1 (vS s_)),(3,c1 (vi s1)),(4,c1 (vi s2))]) (fun s2=>[]) [0,3,4] [] 0 (s0:=(s_.size:Int)) trivial hq (fun s2 o2 hq hn2 he2=>?_)
 refine ifE hb 7 [20,21] [] hq ?_ ?_<;>intro hq _
 refine q5w hb 3 hq fun c6 hc6 hq=>?_
 refine q6 hb 0 hq (gQ5p hb he c6) fun y7 _ hq=>?_
 refine ifE hb 2 [26,27] [] hq ?_ ?_<;>intro hq _
 exact q8 hb 9 [0,3,4] [] 0 (hn2 _ (injO hq)) trivial
 refine q4x hb 7 hq fun x9 hx9 hq=>?_
 exact retE hb 2 (he1 _ ((he2 _ (injO hq)).symm))
 refine q4x hb 14 hq fun x10 hx10 hq=>?_
 exact retE hb 2 (he1 _ ((he2 _ (injO hq)).symm))
 refine qd hb 10 (gQ7z s_ s1) (fun s2=>sl 34 [(0,c1 (vS s_)),(3,c1 (vi s1)),(4,c1 (vi s2))]) (fun s2=>[]) [0,3,4] [] 0 (s0:=(s_.size:Int)) trivial hq (fun s2 o2 hq hn2 he2=>?_)
 refine ifE hb 7 [20,21] [] hq ?_ ?_<;>intro hq _
 refine q5w hb 3 hq fun c12 hc12 hq=>?_
 refine q6 hb 0 hq (gQ5p hb he c12) fun y13 _ hq=>?_
 refine ifE hb 2 [26,27] [] hq ?_ ?_<;>intro hq _
 exact q8 hb 9 [0,3,4] [] 0 (hn2 _ (injO hq)) trivial
 refine q4x hb 7 hq fun x15 hx15 hq=>?_
 exact retE hb 2 (he1 _ ((he2 _ (injO hq)).symm))
 refine q4x hb 14 hq fun x16 hx16 hq=>?_
 exact retE hb 2 (he1 _ ((he2 _ (injO hq)).symm))
def gQ6o (l_:List ByteArray) (by_:ByteArray) (s1:ByteArray×Int):Option ((ByteArray×Int)⊕(ByteArray)) :=
 bif (decide (s1.2<(l_.length:Int))) then bif (decide ((s1.1.size:Int)<=4096)) then bif (decide (s1.2 > 0)) then (cat s1.1 by_).bind fun x4=>(idx l_ s1.2).bind fun x5=>(cat x4 x5).bind fun x6=>some (.inl (x6,(IntKind.i64.wrap (s1.2+1)))) else (idx l_ s1.2).bind fun x7=>(cat s1.1 x7).bind fun x8=>some (.inl (x8,(IntKind.i64.wrap (s1.2+1)))) else some (.inr (s1.1)) else some (.inr (s1.1))
def gQ6n  (l_:List ByteArray) (by_:ByteArray):Option (ByteArray) :=
 q7 (gQ6o l_ by_) (eS,0)
theorem gQ6p (hb:Base E E0 G) (he:∀w,E w->EnvV w)   (l_:List ByteArray) (by_:ByteArray):∀r_:ByteArray,gQ6n l_ by_=some r_ ->
 Pure E E0 Tryz.prog 114 [.cell (vL flS l_),.cell (vS by_)] (c1 (vS r_)):=by
 refine fnE hb Tryz.func114 rfl fun r_ hq=>?_
 refine qd hb 14 (gQ6o l_ by_) (fun s1=>sl 30 [(0,c1 (vL flS l_)),(1,c1 (vS by_)),(5,c1 (vS s1.1)),(6,c1 (vi s1.2))]) (fun s1=>[]) [0,1,5,6] [] 0 (s0:=(eS,0)) trivial hq (fun s1 o1 hq hn1 he1=>?_)
 refine ifE hb 8 [10,11] [] hq ?_ ?_<;>intro hq _
 refine ifE hb 5 [14,15] [] hq ?_ ?_<;>intro hq _
 refine ifE hb 10 [19] [] hq ?_ ?_<;>intro hq _
 refine catE hb 4 hq fun x4 hx4 hq=>?_
 refine idxE hb flS 6 hq fun x5 hx5 hq=>?_
 refine catE hb 1 hq fun x6 hx6 hq=>?_
 exact q8 hb 8 [0,1,5,6] [] 0 (hn1 _ (injO hq)) trivial
 refine idxE hb flS 6 hq fun x7 hx7 hq=>?_
 refine catE hb 1 hq fun x8 hx8 hq=>?_
 exact q8 hb 8 [0,1,5,6] [] 0 (hn1 _ (injO hq)) trivial
 exact retE hb 7 (he1 _ (injO hq))
 exact retE hb 12 (he1 _ (injO hq))
def gQ7d (s_:ByteArray) (t_:ByteArray) (s1:Int×Int×List ByteArray):Option ((Int×Int×List ByteArray)⊕(List ByteArray)) :=
 bif (decide (s1.2.1<(s_.size:Int))) then (sslc s_ s1.2.1 (s_.size:Int)).bind fun x2=>(gQ5m x2 t_).bind fun y3=>bif y3 then (sslc s_ s1.1 s1.2.1).bind fun x5=>(app 16 s1.2.2 [x5]).bind fun l6=>some (.inl ((IntKind.i64.wrap (s1.2.1+(t_.size:Int))),(IntKind.i64.wrap (s1.2.1+(t_.size:Int))),l6)) else some (.inl (s1.1,(IntKind.i64.wrap (s1.2.1+1)),s1.2.2)) else (sslc s_ s1.1 (s_.size:Int)).bind fun x7=>(app 16 s1.2.2 [x7]).bind fun l8=>some (.inr (l8))
def gQ7c  (s_:ByteArray) (t_:ByteArray):Option (List ByteArray) :=
 q7 (gQ7d s_ t_) (0,0,[])
theorem gQ7e (hb:Base E E0 G) (he:∀w,E w->EnvV w)   (s_:ByteArray) (t_:ByteArray):∀r_:List ByteArray,gQ7c s_ t_=some r_ ->
 Pure E E0 Tryz.prog 115 [.cell (vS s_),.cell (vS t_)] (c1 (vL flS r_)):=by
 refine fnE hb Tryz.func115 rfl fun r_ hq=>?_
 refine q2f hb 15 5 1 ?_
 refine qd hb 0 (gQ7d s_ t_) (fun s1=>sl 37 [(0,c1 (vS s_)),(1,c1 (vS t_)),(5,c1 (vO flS 0 s1.2.2)),(6,c1 (vi s1.1)),(7,c1 (vi s1.2.1))]) (fun s1=>[some (arO true flS.sz 0 (flS.f s1.2.2))]) [0,1,5,6,7] [] 1 (s0:=(0,0,[])) ⟨(qa _ _ _ _ _),trivial⟩ hq (fun s1 o1 hq hn1 he1=>?_)
 refine ifE hb 8 [11] [] hq ?_ ?_<;>intro hq _
 refine q4x hb 7 hq fun x2 hx2 hq=>?_
 refine q6 hb 1 hq (gQ5n hb he x2 t_) fun y3 _ hq=>?_
 refine ifE hb 1 [16] [] hq ?_ ?_<;>intro hq _
 refine q4x hb 7 hq fun x5 hx5 hq=>?_
 refine qi flS hb 1 0 true 0 (flS.one x5) hq fun l6 hl6 hq=>?_
 exact q8 hb 15 [0,1,5,6,7] [] 1 (hn1 _ (injO hq)) ⟨(qa _ _ _ _ _),trivial⟩
 exact q8 hb 7 [0,1,5,6,7] [] 1 (hn1 _ (injO hq)) ⟨(qa _ _ _ _ _),trivial⟩
 refine q4x hb 7 hq fun x7 hx7 hq=>?_
 refine qi flS hb 1 0 true 0 (flS.one x7) hq fun l8 hl8 hq=>?_
 refine qw hb 2 0 true (sz:=flS.sz) (fr:=0) (cs:=flS.f l8) (by kernel_rfl) (Nat.zero_le _) ?_
 refine q3c hb 0 4 (c:=vO flS 0 l8) (q1g flS (nb:=true) (id:=0) (xs:=l8) (by kernel_rfl)) ?_
 exact retE hb 0 (he1 _ (injO hq))
def gQ7t (y31:List ByteArray) (s1:Int×List Val):Option ((Int×List Val)⊕(Val×Int)) :=
 bif (decide (s1.1<(y31.length:Int))) then (idx y31 s1.1).bind fun x33=>(gQ7q x33).bind fun y34=>(app 80 s1.2 [y34]).bind fun l35=>some (.inl ((IntKind.i64.wrap (s1.1+1)),l35)) else some (.inr ((Val.mk 4 0 eS s1.2 []),0))
def gQ7u (args_:List Val) (x1:Val) (s1b:Int×List ByteArray):Option ((Int×List ByteArray)⊕(Val×Int)) :=
 (idx args_ 1).bind fun x36=>bif (decide (s1b.1<(x36.items.length:Int))) then (idx args_ 1).bind fun x38=>(idx x38.items s1b.1).bind fun x39=>(app 16 s1b.2 [x39.str]).bind fun l40=>some (.inl ((IntKind.i64.wrap (s1b.1+1)),l40)) else (gQ6n s1b.2 x1.str).bind fun y41=>(gQ7q y41).bind fun y42=>some (.inr (y42,0))
def gQ7s  (name_:ByteArray) (args_:List Val):Option (Val×Int) :=
 (idx args_ 0).bind fun x1=>bif (decide (name_=⟨#[101,110,100,115,119,105,116,104]⟩)) then (idx args_ 1).bind fun x3=>(gQ6d x1.str x3.str).bind fun y4=>(gQ81 y4).bind fun y5=>some (y5,0) else bif (decide (name_=⟨#[115,116,97,114,116,115,119,105,116,104]⟩)) then (idx args_ 1).bind fun x7=>(gQ5m x1.str x7.str).bind fun y8=>(gQ81 y8).bind fun y9=>some (y9,0) else bif (decide (name_=⟨#[108,111,119,101,114]⟩)) then (gQ5y x1.str 65 90 32).bind fun y11=>(gQ7q y11).bind fun y12=>some (y12,0) else bif (decide (name_=⟨#[117,112,112,101,114]⟩)) then (gQ5y x1.str 97 122 (-32)).bind fun y14=>(gQ7q y14).bind fun y15=>some (y15,0) else bif (decide (name_=⟨#[116,114,105,109]⟩)) then (gQ7w x1.str).bind fun y17=>(gQ7q y17).bind fun y18=>some (y18,0) else bif (decide (name_=⟨#[114,101,112,108,97,99,101]⟩)) then (idx args_ 1).bind fun x20=>bif (decide (x20.str=eS)) then some ((Val.mk 0 0 eS [] []),1) else (idx args_ 1).bind fun x22=>(gQ7c x1.str x22.str).bind fun y23=>(idx args_ 2).bind fun x24=>(gQ6n y23 x24.str).bind fun y25=>bif (decide ((y25.size:Int) > 4096)) then some ((Val.mk 0 0 eS [] []),3) else (gQ7q y25).bind fun y27=>some (y27,0) else bif (decide (name_=⟨#[115,112,108,105,116]⟩)) then bif (decide (x1.str=eS)) then some ((Val.mk 0 0 eS [] []),1) else (idx args_ 1).bind fun x30=>(gQ7c x30.str x1.str).bind fun y31=>q7 (gQ7t y31) (0,[]) else q7 (gQ7u args_ x1) (0,[])
theorem gQ7v (hb:Base E E0 G) (he:∀w,E w->EnvV w)   (name_:ByteArray) (args_:List Val):∀r_:Val×Int,gQ7s name_ args_=some r_ ->
 Pure E E0 Tryz.prog 65 [.cell (vS name_),.cell (vL flV args_)] (.tup [.agg (aV r_.1),.cell (vi r_.2)]):=by
 refine fnE hb Tryz.func65 rfl fun r_ hq=>?_
 refine idxE hb flV 8 hq fun x1 hx1 hq=>?_
 refine ifE hb 15 [18,19] [] hq ?_ ?_<;>intro hq _
 refine idxE hb flV 5 hq fun x3 hx3 hq=>?_
 refine q6 hb 2 hq (gQ6e hb he x1.str x3.str) fun y4 _ hq=>?_
 refine q6 hb 0 hq (gQ82 hb he y4) fun y5 _ hq=>?_
 exact retE hb 3 (injO hq).symm
 refine ifE hb 6 [27,28] [] hq ?_ ?_<;>intro hq _
 refine idxE hb flV 5 hq fun x7 hx7 hq=>?_
 refine q6 hb 2 hq (gQ5n hb he x1.str x7.str) fun y8 _ hq=>?_
 refine q6 hb 0 hq (gQ82 hb he y8) fun y9 _ hq=>?_
 exact retE hb 3 (injO hq).symm
 refine ifE hb 6 [36,37] [] hq ?_ ?_<;>intro hq _
 refine q6 hb 4 hq (gQ60 hb he x1.str 65 90 32) fun y11 _ hq=>?_
 refine q6 hb 0 hq (gQ7r hb he y11) fun y12 _ hq=>?_
 exact retE hb 3 (injO hq).symm
 refine ifE hb 6 [41,42] [] hq ?_ ?_<;>intro hq _
 refine q6 hb 4 hq (gQ60 hb he x1.str 97 122 (-32)) fun y14 _ hq=>?_
 refine q6 hb 0 hq (gQ7r hb he y14) fun y15 _ hq=>?_
 exact retE hb 3 (injO hq).symm
 refine ifE hb 6 [46,47] [] hq ?_ ?_<;>intro hq _
 refine q6 hb 4 hq (gQ80 hb he x1.str) fun y17 _ hq=>?_
 refine q6 hb 0 hq (gQ7r hb he y17) fun y18 _ hq=>?_
 exact retE hb 3 (injO hq).symm
 refine ifE hb 6 [51,52] [] hq ?_ ?_<;>intro hq _
 refine idxE hb flV 5 hq fun x20 hx20 hq=>?_
 refine ifE hb 4 [57] [] hq ?_ ?_<;>intro hq _
 exact retE hb 7 (injO hq).symm
 refine qh hb mixed 3 10 [] ?_
 refine idxE hb flV 2 hq fun x22 hx22 hq=>?_
 refine q6 hb 2 hq (gQ7e hb he x1.str x22.str) fun y23 _ hq=>?_
 refine idxE hb flV 1 hq fun x24 hx24 hq=>?_
 refine q6 hb 3 hq (gQ6p hb he y23 x24.str) fun y25 _ hq=>?_
 refine ifE hb 9 [72] [] hq ?_ ?_<;>intro hq _
 exact retE hb 7 (injO hq).symm
 refine q6 hb 5 hq (gQ7r hb he y25) fun y27 _ hq=>?_
 exact retE hb 3 (injO hq).symm
 refine ifE hb 6 [76,77] [] hq ?_ ?_<;>intro hq _
 refine ifE hb 7 [79] [] hq ?_ ?_<;>intro hq _
 exact retE hb 7 (injO hq).symm
 refine idxE hb flV 5 hq fun x30 hx30 hq=>?_
 refine q6 hb 3 hq (gQ7e hb he x30.str x1.str) fun y31 _ hq=>?_
 refine cpE hb 14 [4,8,9,10] (s':=⟨none,[pk Tryz.f65 61865914],[(1,[pk Tryz.f65 15466479]),(0,[pk Tryz.f65 15])],sl 129 [(4,pt 0),(8,c1 (vL flS y31)),(9,pt 1),(10,c1 (vi 0))],[bx zV,bx [vi 4,vi 0,vS eS,vN,vN]]⟩) ?_
 refine q3j hb 0 1 3 5 (cs:=[vi 4,vi 0,vS eS,vN,vN]) (by kernel_rfl) ?_
 refine qd hb 0 (gQ7t y31) (fun s1=>sl 129 [(4,pt 0),(8,c1 (vL flS y31)),(9,pt 1),(10,c1 (vi s1.1))]) (fun s1=>[bx zV,bx [vi 4,vi 0,vS eS,vO flV 2 s1.2,vN],some (arO true flV.sz 0 (flV.f s1.2))]) [4,8,9,10] [] 3 (s0:=(0,[])) ⟨(by kernel_rfl),(by kernel_rfl),(qa _ _ _ _ _),trivial⟩ hq (fun s1 o1 hq hn1 he1=>?_)
 refine ifE hb 8 [91] [] hq ?_ ?_<;>intro hq _
 refine qh hb mixed 4 8 [] ?_
 refine idxE hb flS 4 hq fun x33 hx33 hq=>?_
 refine q6 hb 1 hq (gQ7r hb he x33) fun y34 _ hq=>?_
 refine qi flV hb 2 2 true 0 (flV.one y34) hq fun l35 hl35 hq=>?_
 exact q8 hb 9 [4,8,9,10] [] 3 (hn1 _ (injO hq)) ⟨(by kernel_rfl),(by kernel_rfl),(qa _ _ _ _ _),trivial⟩
 refine qw hb 8 2 true (sz:=flV.sz) (fr:=0) (cs:=flV.f s1.2) (by kernel_rfl) (Nat.zero_le _) ?_
 refine q19 hb 0 0 3 (cs:=[vi 4,vi 0,vS eS,vO flV 2 s1.2,vN]) (c:=vO flV 2 s1.2) (q1g flV (nb:=true) (id:=2) (xs:=s1.2) (by kernel_rfl)) (by kernel_rfl) ?_
 exact retE hb 0 (he1 _ (injO hq))
 refine cpE hb 13 [1,4,6,11,12] (s':=⟨none,[pk Tryz.f65 250],[(3,[pk Tryz.f65 63])],sl 129 [(1,c1 (vL flV args_)),(4,pt 0),(6,c1 (vS x1.str)),(11,c1 (vN)),(12,c1 (vi 0))],[bx zV]⟩) ?_
 refine q2f hb 0 11 1 ?_
 refine qd hb 0 (gQ7u args_ x1) (fun s1b=>sl 129 [(1,c1 (vL flV args_)),(4,pt 0),(6,c1 (vS x1.str)),(11,c1 (vO flS 1 s1b.2)),(12,c1 (vi s1b.1))]) (fun s1b=>[bx zV,some (arO true flS.sz 0 (flS.f s1b.2))]) [1,4,6,11,12] [] 2 (s0:=(0,[])) ⟨(by kernel_rfl),(qa _ _ _ _ _),trivial⟩ hq (fun s1b o1 hq hn1 he1=>?_)
 refine idxE hb flV 5 hq fun x36 hx36 hq=>?_
 refine ifE hb 5 [111] [] hq ?_ ?_<;>intro hq _
 refine idxE hb flV 7 hq fun x38 hx38 hq=>?_
 refine idxE hb flV 3 hq fun x39 hx39 hq=>?_
 refine qi flS hb 3 1 true 0 (flS.one x39.str) hq fun l40 hl40 hq=>?_
 exact q8 hb 8 [1,4,6,11,12] [] 2 (hn1 _ (injO hq)) ⟨(by kernel_rfl),(qa _ _ _ _ _),trivial⟩
 refine q94 hb 6 (vs:=[.cell (vO flS 1 s1b.2),.cell (vS x1.str)]) hq (q1i (q2j (q29 flS (b:=true) (id:=1) (fr:=0) (xs:=s1b.2) (by kernel_rfl))) (q1i (by kernel_rfl) rfl)) (fun _=>rfl) (gQ6p hb he s1b.2 x1.str) fun y41 _ hq=>?_
 refine q6 hb 0 hq (gQ7r hb he y41) fun y42 _ hq=>?_
 exact retE hb 3 (he1 _ (injO hq))
def gQ41  (a_:Int) (b_:Int):Option (Int×Int) :=
 (gQ45 a_).bind fun y1=>bif (!y1) then some (0,1) else (gQ45 b_).bind fun y3=>bif (!y3) then some (0,1) else bif (decide (b_=0)) then some (0,15) else (quo .i64 a_ b_).bind fun x6=>bif (!decide ((IntKind.i64.wrap (x6*b_))=a_)) then bif (!((decide (a_<0))==(decide (b_<0)))) then some ((IntKind.i64.wrap (x6 - 1)),0) else some (x6,0) else some (x6,0)
theorem gQ42 (hb:Base E E0 G) (he:∀w,E w->EnvV w)   (a_:Int) (b_:Int):∀r_:Int×Int,gQ41 a_ b_=some r_ ->
 Pure E E0 Tryz.prog 206 [.cell (vi a_),.cell (vi b_)] (.tup [.cell (vi r_.1),.cell (vi r_.2)]):=by
 refine fnE hb Tryz.func206 rfl fun r_ hq=>?_
 refine q6 hb 9 hq (gQ46 hb he a_) fun y1 _ hq=>?_
 refine ifE hb 2 [9,10] [] hq ?_ ?_<;>intro hq _
 exact retE hb 11 (injO hq).symm
 refine q6 hb 1 hq (gQ46 hb he b_) fun y3 _ hq=>?_
 refine ifE hb 3 [13,14] [] hq ?_ ?_<;>intro hq _
 exact retE hb 6 (injO hq).symm
 refine ifE hb 8 [16] [] hq ?_ ?_<;>intro hq _
 exact retE hb 6 (injO hq).symm
 refine quoE hb 6 hq fun x6 hx6 hq=>?_
 refine ifE hb 11 [24,25] [] hq ?_ ?_<;>intro hq _
 refine ifE hb 7 [30,31] [] hq ?_ ?_<;>intro hq _
 exact retE hb 12 (injO hq).symm
 exact retE hb 8 (injO hq).symm
 exact retE hb 15 (injO hq).symm
def gQ43  (a_:Int) (b_:Int):Option (Int×Int) :=
 (gQ41 a_ b_).bind fun y1=>bif (!decide (y1.2=0)) then some (0,y1.2) else some ((IntKind.i64.wrap (a_-(IntKind.i64.wrap (b_*y1.1)))),0)
theorem gQ44 (hb:Base E E0 G) (he:∀w,E w->EnvV w)   (a_:Int) (b_:Int):∀r_:Int×Int,gQ43 a_ b_=some r_ ->
 Pure E E0 Tryz.prog 163 [.cell (vi a_),.cell (vi b_)] (.tup [.cell (vi r_.1),.cell (vi r_.2)]):=by
 refine fnE hb Tryz.func163 rfl fun r_ hq=>?_
 refine q6 hb 9 hq (gQ42 hb he a_ b_) fun y1 _ hq=>?_
 refine ifE hb 12 [15] [] hq ?_ ?_<;>intro hq _
 exact retE hb 7 (injO hq).symm
 exact retE hb 12 (injO hq).symm
def gQ6b  (l_:Val) (n_:Val):Option (Val×Int) :=
 bif (decide (l_.kind=4)) then bif (decide ((l_.items.length:Int)=0)) then some ((Val.mk 0 0 eS [] []),16) else (gQ7a l_).bind fun y3=>bif y3 then (gQ86).bind fun y5=>some (y5,0) else (gQ7a n_).bind fun y6=>bif y6 then (gQ86).bind fun y8=>some (y8,0) else (gQ43 n_.num (l_.items.length:Int)).bind fun y9=>bif (!decide (y9.2=0)) then some ((Val.mk 0 0 eS [] []),y9.2) else (idx l_.items y9.1).bind fun x11=>some (x11,0) else (gQ7a l_).bind fun y12=>bif y12 then (gQ86).bind fun y14=>some (y14,0) else (gQ7a n_).bind fun y15=>bif y15 then (gQ86).bind fun y17=>some (y17,0) else (gQ43 n_.num (l_.items.length:Int)).bind fun y18=>bif (!decide (y18.2=0)) then some ((Val.mk 0 0 eS [] []),y18.2) else (idx l_.items y18.1).bind fun x20=>some (x20,0)
theorem gQ6c (hb:Base E E0 G) (he:∀w,E w->EnvV w)   (l_:Val) (n_:Val):∀r_:Val×Int,gQ6b l_ n_=some r_ ->
 Pure E E0 Tryz.prog 116 [.agg (aV l_),.agg (aV n_)] (.tup [.agg (aV r_.1),.cell (vi r_.2)]):=by
 refine fnE hb Tryz.func116 rfl fun r_ hq=>?_
 refine ifE hb 14 [10,11] [] hq ?_ ?_<;>intro hq _
 refine ifE hb 6 [15,16] [] hq ?_ ?_<;>intro hq _
 exact retE hb 7 (injO hq).symm
 refine q6 hb 6 hq (gQ7b hb he l_) fun y3 _ hq=>?_
 refine ifE hb 1 [19,20] [] hq ?_ ?_<;>intro hq _
 refine q6 hb 7 hq (gQ87 hb he ) fun y5 _ hq=>?_
 exact retE hb 3 (injO hq).symm
 refine q6 hb 1 hq (gQ7b hb he n_) fun y6 _ hq=>?_
 refine ifE hb 2 [22,23] [] hq ?_ ?_<;>intro hq _
 refine q6 hb 3 hq (gQ87 hb he ) fun y8 _ hq=>?_
 exact retE hb 3 (injO hq).symm
 refine q6 hb 9 hq (gQ44 hb he n_.num (l_.items.length:Int)) fun y9 _ hq=>?_
 refine ifE hb 12 [35] [] hq ?_ ?_<;>intro hq _
 exact retE hb 8 (injO hq).symm
 refine idxE hb flV 7 hq fun x11 hx11 hq=>?_
 exact retE hb 4 (injO hq).symm
 refine q6 hb 12 hq (gQ7b hb he l_) fun y12 _ hq=>?_
 refine ifE hb 1 [19,20] [] hq ?_ ?_<;>intro hq _
 refine q6 hb 7 hq (gQ87 hb he ) fun y14 _ hq=>?_
 exact retE hb 3 (injO hq).symm
 refine q6 hb 1 hq (gQ7b hb he n_) fun y15 _ hq=>?_
 refine ifE hb 2 [22,23] [] hq ?_ ?_<;>intro hq _
 refine q6 hb 3 hq (gQ87 hb he ) fun y17 _ hq=>?_
 exact retE hb 3 (injO hq).symm
 refine q6 hb 9 hq (gQ44 hb he n_.num (l_.items.length:Int)) fun y18 _ hq=>?_
 refine ifE hb 12 [35] [] hq ?_ ?_<;>intro hq _
 exact retE hb 8 (injO hq).symm
 refine idxE hb flV 7 hq fun x20 hx20 hq=>?_
 exact retE hb 4 (injO hq).symm
def gQ6x  (l_:List Val):Option (Val) :=
 some (Val.mk 4 0 eS l_ [])
theorem gQ6y (hb:Base E E0 G) (he:∀w,E w->EnvV w)   (l_:List Val):∀r_:Val,gQ6x l_=some r_ ->
 Pure E E0 Tryz.prog 117 [.cell (vL flV l_)] (.one (.agg (aV r_))):=by
 refine fnE hb Tryz.func117 rfl fun r_ hq=>?_
 exact retE hb 10 (injO hq).symm
def gQ4b (r_r07_Equal:Val->Val->Option (Bool)) (a_:Val) (b_:Val) (s2:Int):Option ((Int)⊕((Int)⊕(Bool))) :=
 bif (decide (s2<(a_.items.length:Int))) then (idx a_.items s2).bind fun x11=>(idx b_.items s2).bind fun x12=>(r_r07_Equal x11 x12).bind fun y13=>bif (!y13) then some (.inr (.inr (false))) else some (.inl (IntKind.i64.wrap (s2+1))) else some (.inr (.inr (true)))
def gQ4a (r_r07_Equal:Val->Val->Option (Bool)) (a_:Val) (b_:Val) (s1:Int):Option ((Int)⊕(Bool)) :=
 bif (decide (s1<(a_.keys.length:Int))) then (idx a_.keys s1).bind fun x7=>(idx b_.keys s1).bind fun x8=>bif (!decide (x7=x8)) then some (.inr (false)) else some (.inl (IntKind.i64.wrap (s1+1))) else q7 (gQ4b r_r07_Equal a_ b_) 0
def gQ49 (r_r07_Equal:Val->Val->Option (Bool)) (a_:Val) (b_:Val):Option (Bool) :=
 bif (!decide (a_.kind=b_.kind)) then some (false) else bif (!decide (a_.num=b_.num)) then some (false) else bif (!decide (a_.str=b_.str)) then some (false) else bif (!decide ((a_.items.length:Int)=(b_.items.length:Int))) then some (false) else bif (!decide ((a_.keys.length:Int)=(b_.keys.length:Int))) then some (false) else q7 (gQ4a r_r07_Equal a_ b_) 0
theorem gQ4c (hb:Base E E0 G) (he:∀w,E w->EnvV w) (r_r07_Equal:Val->Val->Option (Bool)) (hr_r07_Equal:∀(a0:Val) (a1:Val) (r:Bool),r_r07_Equal a0 a1=some r->Pure E E0 Tryz.prog 12 [.agg (aV a0),.agg (aV a1)] (c1 (vB r))) (a_:Val) (b_:Val):∀r_:Bool,gQ49 r_r07_Equal a_ b_=some r_ ->
 Pure E E0 Tryz.prog 12 [.agg (aV a_),.agg (aV b_)] (c1 (vB r_)):=by
 refine fnE hb Tryz.func12 rfl fun r_ hq=>?_
 refine ifE hb 15 [11,12] [] hq ?_ ?_<;>intro hq _
 exact retE hb 37 (injO hq).symm
 refine ifE hb 7 [17,18,19] [] hq ?_ ?_<;>intro hq _
 exact retE hb 30 (injO hq).symm
 refine ifE hb 7 [24,25,26] [] hq ?_ ?_<;>intro hq _
 exact retE hb 23 (injO hq).symm
 refine ifE hb 9 [33,34,35] [] hq ?_ ?_<;>intro hq _
 exact retE hb 14 (injO hq).symm
 refine ifE hb 9 [42,43] [] hq ?_ ?_<;>intro hq _
 exact retE hb 5 (injO hq).symm
 refine cpE hb 8 [2,3,5] (s':=⟨none,[pk Tryz.f12 58],[(0,[pk Tryz.f12 15])],sl 81 [(2,pt 0),(3,pt 1),(5,c1 (vi 0))],[bx (aV a_),bx (aV b_)]⟩) ?_
 refine qd hb 0 (gQ4a r_r07_Equal a_ b_) (fun s1=>sl 81 [(2,pt 0),(3,pt 1),(5,c1 (vi s1))]) (fun s1=>[bx (aV a_),bx (aV b_)]) [2,3,5] [] 2 (s0:=0) ⟨(by kernel_rfl),(by kernel_rfl),trivial⟩ hq (fun s1 o1 hq hn1 he1=>?_)
 refine ifE hb 9 [48] [] hq ?_ ?_<;>intro hq _
 refine qh hb mixed 5 10 [] ?_
 refine idxE hb flS 3 hq fun x7 hx7 hq=>?_
 refine idxE hb flS 4 hq fun x8 hx8 hq=>?_
 refine ifE hb 4 [61] [] hq ?_ ?_<;>intro hq _
 exact retE hb 5 (he1 _ (injO hq))
 exact q8 hb 8 [2,3,5] [] 2 (hn1 _ (injO hq)) ⟨(by kernel_rfl),(by kernel_rfl),trivial⟩
 refine qd hb 8 (gQ4b r_r07_Equal a_ b_) (fun s2=>sl 81 [(2,pt 0),(3,pt 1),(6,c1 (vi s2))]) (fun s2=>[bx (aV a_),bx (aV b_)]) [2,3,6] [] 2 (s0:=0) ⟨(by kernel_rfl),(by kernel_rfl),trivial⟩ hq (fun s2 o2 hq hn2 he2=>?_)
 refine ifE hb 9 [66] [] hq ?_ ?_<;>intro hq _
 refine qh hb mixed 5 10 [] ?_
 refine idxE hb flV 3 hq fun x11 hx11 hq=>?_
 refine idxE hb flV 4 hq fun x12 hx12 hq=>?_
 refine q6 hb 2 hq (hr_r07_Equal x11 x12) fun y13 _ hq=>?_
 refine ifE hb 2 [80] [] hq ?_ ?_<;>intro hq _
 exact retE hb 5 (he1 _ ((he2 _ (injO hq)).symm))
 exact q8 hb 8 [2,3,6] [] 2 (hn2 _ (injO hq)) ⟨(by kernel_rfl),(by kernel_rfl),trivial⟩
 exact retE hb 6 (he1 _ ((he2 _ (injO hq)).symm))
def tQas (rec:Val->Val->Option (Bool)) (a:Val) (b:Val):Option (Bool) :=
 gQ49 (fun a0 a1=>rec a0 a1) a b
def tQaq (a0:Val) (a1:Val):Option (Bool):=tieF relV wfV tQas a0 a1
theorem tQar (hb:Base E E0 G) (he:∀w,E w->EnvV w) (a0:Val) (a1:Val) (r:Bool) (hq:tQaq a0 a1=some r):Pure E E0 Tryz.prog 12 [.agg (aV a0),.agg (aV a1)] (c1 (vB r)) :=
 q4b (C:=fun a b r=>Pure E E0 Tryz.prog 12 [.agg (aV a),.agg (aV b)] (c1 (vB r))) (fun rec hr a b r hq=>gQ4c hb he (fun a0 a1=>rec a0 a1) (fun a0 a1 r e=>hr a0 a1 r e) a b r hq) a0 a1 r hq
def gQ4h (r_r07_Known:Val->Option (Bool)) (v_:Val) (s1:Int):Option ((Int)⊕(Bool)) :=
 bif (decide (s1<(v_.items.length:Int))) then (idx v_.items s1).bind fun x3=>(r_r07_Known x3).bind fun y4=>bif (!y4) then some (.inr (false)) else some (.inl (IntKind.i64.wrap (s1+1))) else some (.inr (true))
def gQ4g (r_r07_Known:Val->Option (Bool)) (v_:Val):Option (Bool) :=
 bif (decide (v_.kind=6)) then some (false) else q7 (gQ4h r_r07_Known v_) 0
theorem gQ4i (hb:Base E E0 G) (he:∀w,E w->EnvV w) (r_r07_Known:Val->Option (Bool)) (hr_r07_Known:∀(a0:Val) (r:Bool),r_r07_Known a0=some r->Pure E E0 Tryz.prog 207 [.agg (aV a0)] (c1 (vB r))) (v_:Val):∀r_:Bool,gQ4g r_r07_Known v_=some r_ ->
 Pure E E0 Tryz.prog 207 [.agg (aV v_)] (c1 (vB r_)):=by
 refine fnE hb Tryz.func207 rfl fun r_ hq=>?_
 refine ifE hb 12 [6] [] hq ?_ ?_<;>intro hq _
 exact retE hb 5 (injO hq).symm
 refine qd hb 8 (gQ4h r_r07_Known v_) (fun s1=>sl 21 [(1,pt 0),(3,c1 (vi s1))]) (fun s1=>[bx (aV v_)]) [1,3] [] 1 (s0:=0) ⟨(by kernel_rfl),trivial⟩ hq (fun s1 o1 hq hn1 he1=>?_)
 refine ifE hb 9 [11] [] hq ?_ ?_<;>intro hq _
 refine idxE hb flV 9 hq fun x3 hx3 hq=>?_
 refine q6 hb 1 hq (hr_r07_Known x3) fun y4 _ hq=>?_
 refine ifE hb 2 [20] [] hq ?_ ?_<;>intro hq _
 exact retE hb 5 (he1 _ (injO hq))
 exact q8 hb 8 [1,3] [] 1 (hn1 _ (injO hq)) ⟨(by kernel_rfl),trivial⟩
 exact retE hb 6 (he1 _ (injO hq))
def tQav (rec:Val->Unit->Option (Bool)) (a:Val) (b:Unit):Option (Bool) :=
 gQ4g (fun a0=>rec a0 ()) a
def tQat (a0:Val):Option (Bool):=tieF relV wfV tQav a0 ()
theorem tQau (hb:Base E E0 G) (he:∀w,E w->EnvV w) (a0:Val) (r:Bool) (hq:tQat a0=some r):Pure E E0 Tryz.prog 207 [.agg (aV a0)] (c1 (vB r)) :=
 q4b (C:=fun a b r=>Pure E E0 Tryz.prog 207 [.agg (aV a)] (c1 (vB r))) (fun rec hr a b r hq=>gQ4i hb he (fun a0=>rec a0 ()) (fun a0 r e=>hr a0 () r e) a r hq) a0 () r hq
def gQ57  (a_:Val) (b_:Val):Option (Bool) :=
 (tQaq a_ b_).bind fun y1=>bif y1 then (tQat a_).bind fun y3=>bif y3 then (tQat b_).bind fun y5=>some (y5) else some (false) else some (false)
theorem gQ58 (hb:Base E E0 G) (he:∀w,E w->EnvV w)   (a_:Val) (b_:Val):∀r_:Bool,gQ57 a_ b_=some r_ ->
 Pure E E0 Tryz.prog 164 [.agg (aV a_),.agg (aV b_)] (c1 (vB r_)):=by
 refine fnE hb Tryz.func164 rfl fun r_ hq=>?_
 refine q6 hb 10 hq (tQar hb he a_ b_) fun y1 _ hq=>?_
 refine ifE hb 1 [7,8] [] hq ?_ ?_<;>intro hq _
 refine q6 hb 1 hq (tQau hb he a_) fun y3 _ hq=>?_
 refine ifE hb 2 [10,11,12] [] hq ?_ ?_<;>intro hq _
 refine q6 hb 1 hq (tQau hb he b_) fun y5 _ hq=>?_
 exact retE hb 3 (injO hq).symm
 exact retE hb 5 (injO hq).symm
 exact retE hb 9 (injO hq).symm
def gQ5f (r_r18_Different:Val->Val->Option (Bool)) (a_:Val) (b_:Val) (s2:Int):Option ((Int)⊕((Int)⊕(Bool))) :=
 bif (decide (s2<(a_.items.length:Int))) then (idx a_.items s2).bind fun x15=>(idx b_.items s2).bind fun x16=>(r_r18_Different x15 x16).bind fun y17=>bif y17 then some (.inr (.inr (true))) else some (.inl (IntKind.i64.wrap (s2+1))) else some (.inr (.inr (false)))
def gQ5e (r_r18_Different:Val->Val->Option (Bool)) (a_:Val) (b_:Val) (s1:Int):Option ((Int)⊕(Bool)) :=
 bif (decide (s1<(a_.keys.length:Int))) then (idx a_.keys s1).bind fun x11=>(idx b_.keys s1).bind fun x12=>bif (!decide (x11=x12)) then some (.inr (true)) else some (.inl (IntKind.i64.wrap (s1+1))) else q7 (gQ5f r_r18_Different a_ b_) 0
def gQ5d (r_r18_Different:Val->Val->Option (Bool)) (a_:Val) (b_:Val):Option (Bool) :=
 (gQ7a a_).bind fun y1=>bif y1 then some (false) else (gQ7a b_).bind fun y3=>bif y3 then some (false) else bif (!decide (a_.kind=b_.kind)) then some (true) else bif (!decide (a_.num=b_.num)) then some (true) else bif (!decide (a_.str=b_.str)) then some (true) else bif (!decide ((a_.items.length:Int)=(b_.items.length:Int))) then some (true) else bif (!decide ((a_.keys.length:Int)=(b_.keys.length:Int))) then some (true) else q7 (gQ5e r_r18_Different a_ b_) 0
theorem gQ5g (hb:Base E E0 G) (he:∀w,E w->EnvV w) (r_r18_Different:Val->Val->Option (Bool)) (hr_r18_Different:∀(a0:Val) (a1:Val) (r:Bool),r_r18_Different a0 a1=some r->Pure E E0 Tryz.prog 165 [.agg (aV a0),.agg (aV a1)] (c1 (vB r))) (a_:Val) (b_:Val):∀r_:Bool,gQ5d r_r18_Different a_ b_=some r_ ->
 Pure E E0 Tryz.prog 165 [.agg (aV a_),.agg (aV b_)] (c1 (vB r_)):=by
 refine fnE hb Tryz.func165 rfl fun r_ hq=>?_
 refine q6 hb 10 hq (gQ7b hb he a_) fun y1 _ hq=>?_
 refine ifE hb 1 [8,9] [] hq ?_ ?_<;>intro hq _
 exact retE hb 9 (injO hq).symm
 refine q6 hb 1 hq (gQ7b hb he b_) fun y3 _ hq=>?_
 refine ifE hb 2 [11,12] [] hq ?_ ?_<;>intro hq _
 exact retE hb 5 (injO hq).symm
 refine ifE hb 11 [17,18] [] hq ?_ ?_<;>intro hq _
 exact retE hb 37 (injO hq).symm
 refine ifE hb 7 [23,24,25] [] hq ?_ ?_<;>intro hq _
 exact retE hb 30 (injO hq).symm
 refine ifE hb 7 [30,31,32] [] hq ?_ ?_<;>intro hq _
 exact retE hb 23 (injO hq).symm
 refine ifE hb 9 [39,40,41] [] hq ?_ ?_<;>intro hq _
 exact retE hb 14 (injO hq).symm
 refine ifE hb 9 [48,49] [] hq ?_ ?_<;>intro hq _
 exact retE hb 5 (injO hq).symm
 refine cpE hb 8 [2,3,5] (s':=⟨none,[pk Tryz.f165 122],[(0,[pk Tryz.f165 31])],sl 86 [(2,pt 0),(3,pt 1),(5,c1 (vi 0))],[bx (aV a_),bx (aV b_)]⟩) ?_
 refine qd hb 0 (gQ5e r_r18_Different a_ b_) (fun s1=>sl 86 [(2,pt 0),(3,pt 1),(5,c1 (vi s1))]) (fun s1=>[bx (aV a_),bx (aV b_)]) [2,3,5] [] 2 (s0:=0) ⟨(by kernel_rfl),(by kernel_rfl),trivial⟩ hq (fun s1 o1 hq hn1 he1=>?_)
 refine ifE hb 9 [54] [] hq ?_ ?_<;>intro hq _
 refine qh hb mixed 5 10 [] ?_
 refine idxE hb flS 3 hq fun x11 hx11 hq=>?_
 refine idxE hb flS 4 hq fun x12 hx12 hq=>?_
 refine ifE hb 4 [67] [] hq ?_ ?_<;>intro hq _
 exact retE hb 5 (he1 _ (injO hq))
 exact q8 hb 8 [2,3,5] [] 2 (hn1 _ (injO hq)) ⟨(by kernel_rfl),(by kernel_rfl),trivial⟩
 refine qd hb 8 (gQ5f r_r18_Different a_ b_) (fun s2=>sl 86 [(2,pt 0),(3,pt 1),(6,c1 (vi s2))]) (fun s2=>[bx (aV a_),bx (aV b_)]) [2,3,6] [] 2 (s0:=0) ⟨(by kernel_rfl),(by kernel_rfl),trivial⟩ hq (fun s2 o2 hq hn2 he2=>?_)
 refine ifE hb 9 [72] [] hq ?_ ?_<;>intro hq _
 refine qh hb mixed 5 10 [] ?_
 refine idxE hb flV 3 hq fun x15 hx15 hq=>?_
 refine idxE hb flV 4 hq fun x16 hx16 hq=>?_
 refine q6 hb 2 hq (hr_r18_Different x15 x16) fun y17 _ hq=>?_
 refine ifE hb 1 [85] [] hq ?_ ?_<;>intro hq _
 exact retE hb 5 (he1 _ ((he2 _ (injO hq)).symm))
 exact q8 hb 8 [2,3,6] [] 2 (hn2 _ (injO hq)) ⟨(by kernel_rfl),(by kernel_rfl),trivial⟩
 exact retE hb 6 (he1 _ ((he2 _ (injO hq)).symm))
def tQb4 (rec:Val->Val->Option (Bool)) (a:Val) (b:Val):Option (Bool) :=
 gQ5d (fun a0 a1=>rec a0 a1) a b
def tQb2 (a0:Val) (a1:Val):Option (Bool):=tieF relV wfV tQb4 a0 a1
theorem tQb3 (hb:Base E E0 G) (he:∀w,E w->EnvV w) (a0:Val) (a1:Val) (r:Bool) (hq:tQb2 a0 a1=some r):Pure E E0 Tryz.prog 165 [.agg (aV a0),.agg (aV a1)] (c1 (vB r)) :=
 q4b (C:=fun a b r=>Pure E E0 Tryz.prog 165 [.agg (aV a),.agg (aV b)] (c1 (vB r))) (fun rec hr a b r hq=>gQ5g hb he (fun a0 a1=>rec a0 a1) (fun a0 a1 r e=>hr a0 a1 r e) a b r hq) a0 a1 r hq
def gQ62 (l_:List Val) (v_:Val) (s1:Bool×Int):Option ((Bool×Int)⊕(Val)) :=
 bif (decide (s1.2<(l_.length:Int))) then (idx l_ s1.2).bind fun x2=>(gQ57 x2 v_).bind fun y3=>bif y3 then (gQ81 true).bind fun y5=>some (.inr (y5)) else bif s1.1 then (idx l_ s1.2).bind fun x7=>(tQb2 x7 v_).bind fun y8=>some (.inl (y8,(IntKind.i64.wrap (s1.2+1)))) else some (.inl (false,(IntKind.i64.wrap (s1.2+1)))) else bif s1.1 then (gQ81 false).bind fun y10=>some (.inr (y10)) else (gQ86).bind fun y11=>some (.inr (y11))
def gQ61  (l_:List Val) (v_:Val):Option (Val) :=
 q7 (gQ62 l_ v_) (true,0)
theorem gQ63 (hb:Base E E0 G) (he:∀w,E w->EnvV w)   (l_:List Val) (v_:Val):∀r_:Val,gQ61 l_ v_=some r_ ->
 Pure E E0 Tryz.prog 118 [.cell (vL flV l_),.agg (aV v_)] (.one (.agg (aV r_))):=by
 refine fnE hb Tryz.func118 rfl fun r_ hq=>?_
 refine qd hb 15 (gQ62 l_ v_) (fun s1=>sl 32 [(0,c1 (vL flV l_)),(3,pt 0),(4,pt 1),(5,c1 (vB s1.1)),(6,c1 (vi s1.2))]) (fun s1=>[bx (aV v_),bx zV]) [0,3,4,5,6] [] 2 (s0:=(true,0)) ⟨(by kernel_rfl),(by kernel_rfl),trivial⟩ hq (fun s1 o1 hq hn1 he1=>?_)
 refine ifE hb 8 [10] [] hq ?_ ?_<;>intro hq _
 refine qh hb mixed 6 5 [] ?_
 refine idxE hb flV 2 hq fun x2 hx2 hq=>?_
 refine q6 hb 3 hq (gQ58 hb he x2 v_) fun y3 _ hq=>?_
 refine ifE hb 1 [18] [] hq ?_ ?_<;>intro hq _
 refine q6 hb 3 hq (gQ82 hb he true) fun y5 _ hq=>?_
 exact retE hb 2 (he1 _ (injO hq))
 refine qh hb mixed 2 7 [] ?_
 refine ifE hb 2 [5,20,21] [] hq ?_ ?_<;>intro hq _
 refine idxE hb flV 2 hq fun x7 hx7 hq=>?_
 refine q6 hb 3 hq (tQb3 hb he x7 v_) fun y8 _ hq=>?_
 exact q8 hb 9 [0,3,4,5,6] [] 2 (hn1 _ (injO hq)) ⟨(by kernel_rfl),(by kernel_rfl),trivial⟩
 exact q8 hb 16 [0,3,4,5,6] [] 2 (hn1 _ (injO hq)) ⟨(by kernel_rfl),(by kernel_rfl),trivial⟩
 refine ifE hb 7 [5,29] [] hq ?_ ?_<;>intro hq _
 refine q6 hb 3 hq (gQ82 hb he false) fun y10 _ hq=>?_
 exact retE hb 2 (he1 _ (injO hq))
 refine q6 hb 4 hq (gQ87 hb he ) fun y11 _ hq=>?_
 exact retE hb 2 (he1 _ (injO hq))
def gQ69 (l_:List Val) (s1:Int×List Val) (s2:Bool×Int):Option ((Bool×Int)⊕((Int×List Val)⊕(Val))) :=
 bif (decide (s2.2<s1.1)) then (idx l_ s2.2).bind fun x3=>(idx l_ s1.1).bind fun x4=>(gQ57 x3 x4).bind fun y5=>bif y5 then some (.inl (false,(IntKind.i64.wrap (s2.2+1)))) else (idx l_ s2.2).bind fun x7=>(idx l_ s1.1).bind fun x8=>(tQb2 x7 x8).bind fun y9=>bif (!y9) then (gQ86).bind fun y11=>some (.inr (.inr (y11))) else some (.inl (s2.1,(IntKind.i64.wrap (s2.2+1)))) else bif s2.1 then (idx l_ s1.1).bind fun x13=>(app 80 s1.2 [x13]).bind fun l14=>some (.inr (.inl ((IntKind.i64.wrap (s1.1+1)),l14))) else some (.inr (.inl ((IntKind.i64.wrap (s1.1+1)),s1.2)))
def gQ68 (l_:List Val) (s1:Int×List Val):Option ((Int×List Val)⊕(Val)) :=
 bif (decide (s1.1<(l_.length:Int))) then q7 (gQ69 l_ s1) (true,0) else some (.inr (Val.mk 4 0 eS s1.2 []))
def gQ67  (l_:List Val):Option (Val) :=
 q7 (gQ68 l_) (0,[])
theorem gQ6a (hb:Base E E0 G) (he:∀w,E w->EnvV w)   (l_:List Val):∀r_:Val,gQ67 l_=some r_ ->
 Pure E E0 Tryz.prog 119 [.cell (vL flV l_)] (.one (.agg (aV r_))):=by
 refine fnE hb Tryz.func119 rfl fun r_ hq=>?_
 refine q3j hb 16 1 3 5 (cs:=[vi 4,vi 0,vS eS,vN,vN]) (by kernel_rfl) ?_
 refine qd hb 0 (gQ68 l_) (fun s1=>sl 50 [(0,c1 (vL flV l_)),(2,pt 0),(3,pt 1),(4,c1 (vi s1.1))]) (fun s1=>[bx zV,bx [vi 4,vi 0,vS eS,vO flV 2 s1.2,vN],some (arO true flV.sz 0 (flV.f s1.2))]) [0,2,3,4] [] 3 (s0:=(0,[])) ⟨(by kernel_rfl),(by kernel_rfl),(qa _ _ _ _ _),trivial⟩ hq (fun s1 o1 hq hn1 he1=>?_)
 refine ifE hb 8 [11] [] hq ?_ ?_<;>intro hq _
 refine qd hb 14 (gQ69 l_ s1) (fun s2=>sl 50 [(0,c1 (vL flV l_)),(2,pt 0),(3,pt 1),(4,c1 (vi s1.1)),(5,c1 (vB s2.1)),(6,c1 (vi s2.2))]) (fun s2=>[bx zV,bx [vi 4,vi 0,vS eS,vO flV 2 s1.2,vN],some (arO true flV.sz 0 (flV.f s1.2))]) [0,2,3,4,5,6] [] 3 (s0:=(true,0)) ⟨(by kernel_rfl),(by kernel_rfl),(qa _ _ _ _ _),trivial⟩ hq (fun s2 o2 hq hn2 he2=>?_)
 refine ifE hb 7 [16] [] hq ?_ ?_<;>intro hq _
 refine qh hb mixed 5 8 [] ?_
 refine idxE hb flV 2 hq fun x3 hx3 hq=>?_
 refine idxE hb flV 3 hq fun x4 hx4 hq=>?_
 refine q6 hb 2 hq (gQ58 hb he x3 x4) fun y5 _ hq=>?_
 refine ifE hb 1 [27] [] hq ?_ ?_<;>intro hq _
 exact q8 hb 10 [0,2,3,4,5,6] [] 3 (hn2 _ (injO hq)) ⟨(by kernel_rfl),(by kernel_rfl),(qa _ _ _ _ _),trivial⟩
 refine qh hb mixed 2 8 [] ?_
 refine idxE hb flV 2 hq fun x7 hx7 hq=>?_
 refine idxE hb flV 3 hq fun x8 hx8 hq=>?_
 refine q6 hb 2 hq (tQb3 hb he x7 x8) fun y9 _ hq=>?_
 refine ifE hb 2 [37] [] hq ?_ ?_<;>intro hq _
 refine q6 hb 3 hq (gQ87 hb he ) fun y11 _ hq=>?_
 exact retE hb 2 (he1 _ ((he2 _ (injO hq)).symm))
 exact q8 hb 8 [0,2,3,4,5,6] [] 3 (hn2 _ (injO hq)) ⟨(by kernel_rfl),(by kernel_rfl),(qa _ _ _ _ _),trivial⟩
 refine ifE hb 6 [5,39] [] hq ?_ ?_<;>intro hq _
 refine qh hb mixed 1 7 [] ?_
 refine idxE hb flV 4 hq fun x13 hx13 hq=>?_
 refine qi flV hb 3 2 true 0 (flV.one x13) hq fun l14 hl14 hq=>?_
 exact q8 hb 9 [0,2,3,4] [] 3 (hn1 _ ((he2 _ (injO hq)).symm)) ⟨(by kernel_rfl),(by kernel_rfl),(qa _ _ _ _ _),trivial⟩
 exact q8 hb 8 [0,2,3,4] [] 3 (hn1 _ ((he2 _ (injO hq)).symm)) ⟨(by kernel_rfl),(by kernel_rfl),(qa _ _ _ _ _),trivial⟩
 refine qw hb 7 2 true (sz:=flV.sz) (fr:=0) (cs:=flV.f s1.2) (by kernel_rfl) (Nat.zero_le _) ?_
 refine q19 hb 0 0 3 (cs:=[vi 4,vi 0,vS eS,vO flV 2 s1.2,vN]) (c:=vO flV 2 s1.2) (q1g flV (nb:=true) (id:=2) (xs:=s1.2) (by kernel_rfl)) (by kernel_rfl) ?_
 exact retE hb 0 (he1 _ (injO hq))
def gQ6l (r_r18_flat:List Val->Option (List Val×Bool)) (l_:List Val) (s1:Int×List Val):Option ((Int×List Val)⊕(List Val×Bool)) :=
 bif (decide (s1.1<(l_.length:Int))) then (idx l_ s1.1).bind fun x2=>(gQ7a x2).bind fun y3=>bif y3 then some (.inr ([],false)) else (idx l_ s1.1).bind fun x5=>bif (decide (x5.kind=4)) then (idx l_ s1.1).bind fun x7=>(r_r18_flat x7.items).bind fun y8=>bif (!y8.2) then some (.inr ([],false)) else (app 80 s1.2 y8.1).bind fun l10=>some (.inl ((IntKind.i64.wrap (s1.1+1)),l10)) else (idx l_ s1.1).bind fun x11=>(app 80 s1.2 [x11]).bind fun l12=>some (.inl ((IntKind.i64.wrap (s1.1+1)),l12)) else some (.inr (s1.2,true))
def gQ6k (r_r18_flat:List Val->Option (List Val×Bool)) (l_:List Val):Option (List Val×Bool) :=
 q7 (gQ6l r_r18_flat l_) (0,[])
theorem gQ6m (hb:Base E E0 G) (he:∀w,E w->EnvV w) (r_r18_flat:List Val->Option (List Val×Bool)) (hr_r18_flat:∀(a0:List Val) (r:List Val×Bool),r_r18_flat a0=some r->Pure E E0 Tryz.prog 120 [.cell (vL flV a0)] (.tup [.cell (vL flV r.1),.cell (vB r.2)])) (l_:List Val):∀r_:List Val×Bool,gQ6k r_r18_flat l_=some r_ ->
 Pure E E0 Tryz.prog 120 [.cell (vL flV l_)] (.tup [.cell (vL flV r_.1),.cell (vB r_.2)]):=by
 refine fnE hb Tryz.func120 rfl fun r_ hq=>?_
 refine q2f hb 15 4 5 ?_
 refine qd hb 0 (gQ6l r_r18_flat l_) (fun s1=>sl 47 [(0,c1 (vL flV l_)),(4,c1 (vO flV 0 s1.2)),(5,c1 (vi s1.1))]) (fun s1=>[some (arO true flV.sz 0 (flV.f s1.2))]) [0,4,5] [] 1 (s0:=(0,[])) ⟨(qa _ _ _ _ _),trivial⟩ hq (fun s1 o1 hq hn1 he1=>?_)
 refine ifE hb 8 [11] [] hq ?_ ?_<;>intro hq _
 refine idxE hb flV 9 hq fun x2 hx2 hq=>?_
 refine q6 hb 1 hq (gQ7b hb he x2) fun y3 _ hq=>?_
 refine ifE hb 1 [18] [] hq ?_ ?_<;>intro hq _
 exact retE hb 6 (he1 _ (injO hq))
 refine idxE hb flV 6 hq fun x5 hx5 hq=>?_
 refine ifE hb 4 [24] [] hq ?_ ?_<;>intro hq _
 refine idxE hb flV 5 hq fun x7 hx7 hq=>?_
 refine q6 hb 2 hq (hr_r18_flat x7.items) fun y8 _ hq=>?_
 refine ifE hb 12 [35] [] hq ?_ ?_<;>intro hq _
 exact retE hb 6 (he1 _ (injO hq))
 refine qi flV hb 5 0 true 0 rfl hq fun l10 hl10 hq=>?_
 exact q8 hb 8 [0,4,5] [] 1 (hn1 _ (injO hq)) ⟨(qa _ _ _ _ _),trivial⟩
 refine idxE hb flV 5 hq fun x11 hx11 hq=>?_
 refine qi flV hb 2 0 true 0 (flV.one x11) hq fun l12 hl12 hq=>?_
 exact q8 hb 8 [0,4,5] [] 1 (hn1 _ (injO hq)) ⟨(qa _ _ _ _ _),trivial⟩
 refine qw hb 8 0 true (sz:=flV.sz) (fr:=0) (cs:=flV.f s1.2) (by kernel_rfl) (Nat.zero_le _) ?_
 refine q3c hb 0 2 (c:=vO flV 0 s1.2) (q1g flV (nb:=true) (id:=0) (xs:=s1.2) (by kernel_rfl)) ?_
 exact retE hb 0 (he1 _ (injO hq))
def tQb7 (rec:List Val->Unit->Option (List Val×Bool)) (a:List Val) (b:Unit):Option (List Val×Bool) :=
 gQ6k (fun a0=>rec a0 ()) a
def tQb5 (a0:List Val):Option (List Val×Bool):=tieF q6i wfVL tQb7 a0 ()
theorem tQb6 (hb:Base E E0 G) (he:∀w,E w->EnvV w) (a0:List Val) (r:List Val×Bool) (hq:tQb5 a0=some r):Pure E E0 Tryz.prog 120 [.cell (vL flV a0)] (.tup [.cell (vL flV r.1),.cell (vB r.2)]) :=
 q4b (C:=fun a b r=>Pure E E0 Tryz.prog 120 [.cell (vL flV a)] (.tup [.cell (vL flV r.1),.cell (vB r.2)])) (fun rec hr a b r hq=>gQ6m hb he (fun a0=>rec a0 ()) (fun a0 r e=>hr a0 () r e) a r hq) a0 () r hq
def gQ6g (l_:List Val) (v_:Val) (s1:Int):Option ((Int)⊕(Val×Int)) :=
 bif (decide (s1<(l_.length:Int))) then (idx l_ s1).bind fun x2=>(gQ57 x2 v_).bind fun y3=>bif y3 then (gQ73 s1).bind fun y5=>some (.inr (y5,0)) else (idx l_ s1).bind fun x6=>(tQb2 x6 v_).bind fun y7=>bif (!y7) then (gQ86).bind fun y9=>some (.inr (y9,0)) else some (.inl (IntKind.i64.wrap (s1+1))) else some (.inr ((Val.mk 0 0 eS [] []),16))
def gQ6f  (l_:List Val) (v_:Val):Option (Val×Int) :=
 q7 (gQ6g l_ v_) 0
theorem gQ6h (hb:Base E E0 G) (he:∀w,E w->EnvV w)   (l_:List Val) (v_:Val):∀r_:Val×Int,gQ6f l_ v_=some r_ ->
 Pure E E0 Tryz.prog 121 [.cell (vL flV l_),.agg (aV v_)] (.tup [.agg (aV r_.1),.cell (vi r_.2)]):=by
 refine fnE hb Tryz.func121 rfl fun r_ hq=>?_
 refine qd hb 12 (gQ6g l_ v_) (fun s1=>sl 30 [(0,c1 (vL flV l_)),(3,pt 0),(4,pt 1),(6,c1 (vi s1))]) (fun s1=>[bx (aV v_),bx zV]) [0,3,4,6] [] 2 (s0:=0) ⟨(by kernel_rfl),(by kernel_rfl),trivial⟩ hq (fun s1 o1 hq hn1 he1=>?_)
 refine ifE hb 8 [10] [] hq ?_ ?_<;>intro hq _
 refine qh hb mixed 6 5 [] ?_
 refine idxE hb flV 2 hq fun x2 hx2 hq=>?_
 refine q6 hb 3 hq (gQ58 hb he x2 v_) fun y3 _ hq=>?_
 refine ifE hb 1 [18] [] hq ?_ ?_<;>intro hq _
 refine q6 hb 4 hq (gQ74 hb he s1) fun y5 _ hq=>?_
 exact retE hb 3 (he1 _ (injO hq))
 refine qh hb mixed 3 5 [] ?_
 refine idxE hb flV 2 hq fun x6 hx6 hq=>?_
 refine q6 hb 3 hq (tQb3 hb he x6 v_) fun y7 _ hq=>?_
 refine ifE hb 2 [27] [] hq ?_ ?_<;>intro hq _
 refine q6 hb 3 hq (gQ87 hb he ) fun y9 _ hq=>?_
 exact retE hb 3 (he1 _ (injO hq))
 exact q8 hb 8 [0,3,4,6] [] 2 (hn1 _ (injO hq)) ⟨(by kernel_rfl),(by kernel_rfl),trivial⟩
 exact retE hb 8 (he1 _ (injO hq))
def gQ7h (l_:List Val) (s1:List Val×Int) (s2:Int):Option ((Int)⊕((List Val×Int)⊕(Val))) :=
 bif (decide (s2<(s1.1.length:Int))) then (idx s1.1 s2).bind fun x3=>(idx l_ s1.2).bind fun x4=>bif (Op.bytesLess x3.str.toList x4.str.toList || decide (x3.str=x4.str)) then some (.inl (IntKind.i64.wrap (s2+1))) else (slc s1.1 0 s2).bind fun x8=>(app 80 [] x8).bind fun l10=>(idx l_ s1.2).bind fun x11=>(app 80 l10 [x11]).bind fun l12=>(slc s1.1 s2 (s1.1.length:Int)).bind fun x13=>(app 80 l12 x13).bind fun l15=>some (.inr (.inl (l15,(IntKind.i64.wrap (s1.2+1))))) else (slc s1.1 0 s2).bind fun x18=>(app 80 [] x18).bind fun l20=>(idx l_ s1.2).bind fun x21=>(app 80 l20 [x21]).bind fun l22=>(slc s1.1 s2 (s1.1.length:Int)).bind fun x23=>(app 80 l22 x23).bind fun l25=>some (.inr (.inl (l25,(IntKind.i64.wrap (s1.2+1)))))
def gQ7g (l_:List Val) (s1:List Val×Int):Option ((List Val×Int)⊕(Val)) :=
 bif (decide (s1.2<(l_.length:Int))) then q7 (gQ7h l_ s1) 0 else (gQ6x s1.1).bind fun y26=>some (.inr (y26))
def gQ7f  (l_:List Val):Option (Val) :=
 q7 (gQ7g l_) ([],0)
theorem gQ7i (hb:Base E E0 G) (he:∀w,E w->EnvV w)   (l_:List Val):∀r_:Val,gQ7f l_=some r_ ->
 Pure E E0 Tryz.prog 122 [.cell (vL flV l_)] (.one (.agg (aV r_))):=by
 refine fnE hb Tryz.func122 rfl fun r_ hq=>?_
 refine q3c hb 14 3 (c:=vN) (q5m flV) ?_
 refine qd hb 0 (gQ7g l_) (fun s1=>sl 52 [(0,c1 (vL flV l_)),(2,pt 0),(3,c1 (vL flV s1.1)),(4,c1 (vi s1.2))]) (fun s1=>[bx zV]) [0,2,3,4] [] 1 (s0:=([],0)) ⟨(by kernel_rfl),trivial⟩ hq (fun s1 o1 hq hn1 he1=>?_)
 refine ifE hb 8 [10] [] hq ?_ ?_<;>intro hq _
 refine qd hb 10 (gQ7h l_ s1) (fun s2=>sl 52 [(0,c1 (vL flV l_)),(2,pt 0),(3,c1 (vL flV s1.1)),(4,c1 (vi s1.2)),(5,c1 (vi s2))]) (fun s2=>[bx zV]) [0,2,3,4,5] [] 1 (s0:=0) ⟨(by kernel_rfl),trivial⟩ hq (fun s2 o2 hq hn2 he2=>?_)
 refine qh hb mixed 2 15 [] ?_
 refine ifE hb 5 [16,17] [] hq ?_ ?_<;>intro hq _
 refine idxE hb flV 2 hq fun x3 hx3 hq=>?_
 refine idxE hb flV 4 hq fun x4 hx4 hq=>?_
 refine ifE hb 6 [28,29] [] hq ?_ ?_<;>intro hq _
 exact q8 hb 9 [0,2,3,4,5] [] 1 (hn2 _ (injO hq)) ⟨(by kernel_rfl),trivial⟩
 refine q2f hb 7 6 5 ?_
 refine slcE hb flV 4 hq fun x8 hx8 hq fb9=>?_
 refine qi flV hb 0 1 true 0 rfl hq fun l10 hl10 hq=>?_
 refine idxE hb flV 7 hq fun x11 hx11 hq=>?_
 refine qi flV hb 2 1 true 0 (flV.one x11) hq fun l12 hl12 hq=>?_
 refine slcE hb flV 7 hq fun x13 hx13 hq fb14=>?_
 refine qi flV hb 0 1 true 0 rfl hq fun l15 hl15 hq=>?_
 refine qw hb 12 1 true (sz:=flV.sz) (fr:=0) (cs:=flV.f l15) (by kernel_rfl) (Nat.zero_le _) ?_
 refine q3c hb 0 3 (c:=vO flV 1 l15) (q1g flV (nb:=true) (id:=1) (xs:=l15) (by kernel_rfl)) ?_
 exact q8 hb 0 [0,2,3,4] [] 1 (hn1 _ ((he2 _ (injO hq)).symm)) ⟨(by kernel_rfl),trivial⟩
 refine q2f hb 21 6 5 ?_
 refine slcE hb flV 4 hq fun x18 hx18 hq fb19=>?_
 refine qi flV hb 0 1 true 0 rfl hq fun l20 hl20 hq=>?_
 refine idxE hb flV 7 hq fun x21 hx21 hq=>?_
 refine qi flV hb 2 1 true 0 (flV.one x21) hq fun l22 hl22 hq=>?_
 refine slcE hb flV 7 hq fun x23 hx23 hq fb24=>?_
 refine qi flV hb 0 1 true 0 rfl hq fun l25 hl25 hq=>?_
 refine qw hb 12 1 true (sz:=flV.sz) (fr:=0) (cs:=flV.f l25) (by kernel_rfl) (Nat.zero_le _) ?_
 refine q3c hb 0 3 (c:=vO flV 1 l25) (q1g flV (nb:=true) (id:=1) (xs:=l25) (by kernel_rfl)) ?_
 exact q8 hb 0 [0,2,3,4] [] 1 (hn1 _ ((he2 _ (injO hq)).symm)) ⟨(by kernel_rfl),trivial⟩
 refine q6 hb 5 hq (gQ6y hb he s1.1) fun y26 _ hq=>?_
 exact retE hb 2 (he1 _ (injO hq))
def gQ70 (args_:List Val) (s1:Int×List Val):Option ((Int×List Val)⊕(Val×Int)) :=
 bif (decide (s1.1<(args_.length:Int))) then (idx args_ s1.1).bind fun x12=>(app 80 s1.2 x12.items).bind fun l13=>some (.inl ((IntKind.i64.wrap (s1.1+1)),l13)) else (gQ6x s1.2).bind fun y14=>some (.inr (y14,0))
def gQ71 (x1:Val) (s1:Int×List Val):Option ((Int×List Val)⊕(Val×Int)) :=
 bif (decide (s1.1 >= 0)) then (idx x1.items s1.1).bind fun x43=>(app 80 s1.2 [x43]).bind fun l44=>some (.inl ((IntKind.i64.wrap (s1.1 - 1)),l44)) else (gQ6x s1.2).bind fun y45=>some (.inr (y45,0))
def gQ6z  (name_:ByteArray) (args_:List Val):Option (Val×Int) :=
 (idx args_ 0).bind fun x1=>bif (decide (name_=⟨#[101,108,101,109,101,110,116]⟩)) then (idx args_ 0).bind fun x3=>(idx args_ 1).bind fun x4=>(gQ6b x3 x4).bind fun y5=>some (y5.1,y5.2) else (idx args_ 0).bind fun x6=>(gQ7a x6).bind fun y7=>bif y7 then (gQ86).bind fun y9=>some (y9,0) else bif (decide (name_=⟨#[99,111,110,99,97,116]⟩)) then q7 (gQ70 args_) (0,[]) else bif (decide (name_=⟨#[99,111,110,116,97,105,110,115]⟩)) then (idx args_ 1).bind fun x16=>(gQ61 x1.items x16).bind fun y17=>some (y17,0) else bif (decide (name_=⟨#[100,105,115,116,105,110,99,116]⟩)) then (gQ67 x1.items).bind fun y19=>some (y19,0) else bif (decide (name_=⟨#[102,108,97,116,116,101,110]⟩)) then (tQb5 x1.items).bind fun y21=>bif (!y21.2) then (gQ86).bind fun y23=>some (y23,0) else (gQ6x y21.1).bind fun y24=>some (y24,0) else bif (decide (name_=⟨#[105,110,100,101,120]⟩)) then (idx args_ 1).bind fun x26=>(gQ6f x1.items x26).bind fun y27=>some (y27.1,y27.2) else bif (decide (name_=⟨#[115,108,105,99,101]⟩)) then (idx args_ 1).bind fun x29=>(idx args_ 2).bind fun x30=>bif (decide (x29.num<0)) then some ((Val.mk 0 0 eS [] []),16) else bif (decide (x30.num<x29.num)) then some ((Val.mk 0 0 eS [] []),16) else bif (decide (x30.num > (x1.items.length:Int))) then some ((Val.mk 0 0 eS [] []),16) else (slc x1.items x29.num x30.num).bind fun x36=>(app 80 [] x36).bind fun l38=>(gQ6x l38).bind fun y39=>some (y39,0) else bif (decide (name_=⟨#[115,111,114,116]⟩)) then (gQ7f x1.items).bind fun y41=>some (y41,0) else q7 (gQ71 x1) ((IntKind.i64.wrap ((x1.items.length:Int) - 1)),[])
theorem gQ72 (hb:Base E E0 G) (he:∀w,E w->EnvV w)   (name_:ByteArray) (args_:List Val):∀r_:Val×Int,gQ6z name_ args_=some r_ ->
 Pure E E0 Tryz.prog 66 [.cell (vS name_),.cell (vL flV args_)] (.tup [.agg (aV r_.1),.cell (vi r_.2)]):=by
 refine fnE hb Tryz.func66 rfl fun r_ hq=>?_
 refine idxE hb flV 8 hq fun x1 hx1 hq=>?_
 refine ifE hb 10 [21] [] hq ?_ ?_<;>intro hq _
 refine qh hb mixed 2 8 [7] ?_
 refine idxE hb flV 1 hq fun x3 hx3 hq=>?_
 refine idxE hb flV 2 hq fun x4 hx4 hq=>?_
 refine q6 hb 1 hq (gQ6c hb he x3 x4) fun y5 _ hq=>?_
 exact retE hb 6 (injO hq).symm
 refine idxE hb flV 6 hq fun x6 hx6 hq=>?_
 refine q6 hb 1 hq (gQ7b hb he x6) fun y7 _ hq=>?_
 refine ifE hb 1 [34] [] hq ?_ ?_<;>intro hq _
 refine q6 hb 3 hq (gQ87 hb he ) fun y9 _ hq=>?_
 exact retE hb 3 (injO hq).symm
 refine ifE hb 13 [37,38] [] hq ?_ ?_<;>intro hq _
 refine cpE hb 11 [1,4,7,8] (s':=⟨none,[pk Tryz.f66 16042],[(1,[pk Tryz.f66 4011]),(0,[pk Tryz.f66 63])],sl 138 [(1,c1 (vL flV args_)),(4,pt 0),(7,c1 (vN)),(8,c1 (vi 0))],[bx zV]⟩) ?_
 refine q2f hb 0 7 5 ?_
 refine qd hb 0 (gQ70 args_) (fun s1=>sl 138 [(1,c1 (vL flV args_)),(4,pt 0),(7,c1 (vO flV 1 s1.2)),(8,c1 (vi s1.1))]) (fun s1=>[bx zV,some (arO true flV.sz 0 (flV.f s1.2))]) [1,4,7,8] [] 2 (s0:=(0,[])) ⟨(by kernel_rfl),(qa _ _ _ _ _),trivial⟩ hq (fun s1 o1 hq hn1 he1=>?_)
 refine ifE hb 8 [42] [] hq ?_ ?_<;>intro hq _
 refine idxE hb flV 8 hq fun x12 hx12 hq=>?_
 refine qi flV hb 2 1 true 0 rfl hq fun l13 hl13 hq=>?_
 exact q8 hb 8 [1,4,7,8] [] 2 (hn1 _ (injO hq)) ⟨(by kernel_rfl),(qa _ _ _ _ _),trivial⟩
 refine qw hb 3 1 true (sz:=flV.sz) (fr:=0) (cs:=flV.f s1.2) (by kernel_rfl) (Nat.zero_le _) ?_
 refine q3b hb 2 (vs:=[.cell (vO flV 1 s1.2)]) hq (q1i (q2j (q29 flV (b:=true) (id:=1) (fr:=(flV.f s1.2).length) (xs:=s1.2) (by kernel_rfl))) rfl) (q2r (q38 (q39 flV (nb:=true) (id:=1) (xs:=s1.2) (by kernel_rfl))) rfl) (gQ6y hb he s1.2) fun y14 _ hq=>?_
 exact retE hb 3 (he1 _ (injO hq))
 refine ifE hb 6 [54,55] [] hq ?_ ?_<;>intro hq _
 refine idxE hb flV 5 hq fun x16 hx16 hq=>?_
 refine q6 hb 1 hq (gQ63 hb he x1.items x16) fun y17 _ hq=>?_
 exact retE hb 3 (injO hq).symm
 refine ifE hb 6 [61,62] [] hq ?_ ?_<;>intro hq _
 refine q6 hb 4 hq (gQ6a hb he x1.items) fun y19 _ hq=>?_
 exact retE hb 3 (injO hq).symm
 refine ifE hb 6 [65,66] [] hq ?_ ?_<;>intro hq _
 refine q6 hb 4 hq (tQb6 hb he x1.items) fun y21 _ hq=>?_
 refine ifE hb 12 [73] [] hq ?_ ?_<;>intro hq _
 refine q6 hb 3 hq (gQ87 hb he ) fun y23 _ hq=>?_
 exact retE hb 3 (injO hq).symm
 refine q6 hb 5 hq (gQ6y hb he y21.1) fun y24 _ hq=>?_
 exact retE hb 3 (injO hq).symm
 refine ifE hb 6 [77,78] [] hq ?_ ?_<;>intro hq _
 refine idxE hb flV 5 hq fun x26 hx26 hq=>?_
 refine q6 hb 1 hq (gQ6h hb he x1.items x26) fun y27 _ hq=>?_
 exact retE hb 5 (injO hq).symm
 refine ifE hb 6 [86,87] [] hq ?_ ?_<;>intro hq _
 refine qh hb mixed 2 9 [] ?_
 refine idxE hb flV 1 hq fun x29 hx29 hq=>?_
 refine idxE hb flV 3 hq fun x30 hx30 hq=>?_
 refine ifE hb 12 [97,98] [] hq ?_ ?_<;>intro hq _
 exact retE hb 18 (injO hq).symm
 refine ifE hb 5 [101,102,103] [] hq ?_ ?_<;>intro hq _
 exact retE hb 13 (injO hq).symm
 refine ifE hb 6 [107,108] [] hq ?_ ?_<;>intro hq _
 exact retE hb 7 (injO hq).symm
 refine q2f hb 7 13 5 ?_
 refine slcE hb flV 5 hq fun x36 hx36 hq fb37=>?_
 refine qi flV hb 0 1 true 0 rfl hq fun l38 hl38 hq=>?_
 refine qw hb 3 1 true (sz:=flV.sz) (fr:=0) (cs:=flV.f l38) (by kernel_rfl) (Nat.zero_le _) ?_
 refine q3b hb 2 (vs:=[.cell (vO flV 1 l38)]) hq (q1i (q2j (q29 flV (b:=true) (id:=1) (fr:=(flV.f l38).length) (xs:=l38) (by kernel_rfl))) rfl) (q2r (q38 (q39 flV (nb:=true) (id:=1) (xs:=l38) (by kernel_rfl))) rfl) (gQ6y hb he l38) fun y39 _ hq=>?_
 exact retE hb 3 (injO hq).symm
 refine ifE hb 6 [118,119] [] hq ?_ ?_<;>intro hq _
 refine q6 hb 4 hq (gQ7i hb he x1.items) fun y41 _ hq=>?_
 exact retE hb 3 (injO hq).symm
 refine cpE hb 16 [4,6,14,15] (s':=⟨none,[pk Tryz.f66 1018],[(3,[pk Tryz.f66 255])],sl 138 [(4,pt 0),(6,c1 (vL flV x1.items)),(14,c1 (vN)),(15,c1 (vi (IntKind.i64.wrap ((x1.items.length:Int) - 1))))],[bx zV]⟩) ?_
 refine q2f hb 0 14 5 ?_
 refine qd hb 0 (gQ71 x1) (fun s1=>sl 138 [(4,pt 0),(6,c1 (vL flV x1.items)),(14,c1 (vO flV 1 s1.2)),(15,c1 (vi s1.1))]) (fun s1=>[bx zV,some (arO true flV.sz 0 (flV.f s1.2))]) [4,6,14,15] [] 2 (s0:=((IntKind.i64.wrap ((x1.items.length:Int) - 1)),[])) ⟨(by kernel_rfl),(qa _ _ _ _ _),trivial⟩ hq (fun s1 o1 hq hn1 he1=>?_)
 refine ifE hb 6 [126] [] hq ?_ ?_<;>intro hq _
 refine idxE hb flV 8 hq fun x43 hx43 hq=>?_
 refine qi flV hb 2 1 true 0 (flV.one x43) hq fun l44 hl44 hq=>?_
 exact q8 hb 8 [4,6,14,15] [] 2 (hn1 _ (injO hq)) ⟨(by kernel_rfl),(qa _ _ _ _ _),trivial⟩
 refine qw hb 3 1 true (sz:=flV.sz) (fr:=0) (cs:=flV.f s1.2) (by kernel_rfl) (Nat.zero_le _) ?_
 refine q3b hb 2 (vs:=[.cell (vO flV 1 s1.2)]) hq (q1i (q2j (q29 flV (b:=true) (id:=1) (fr:=(flV.f s1.2).length) (xs:=s1.2) (by kernel_rfl))) rfl) (q2r (q38 (q39 flV (nb:=true) (id:=1) (xs:=s1.2) (by kernel_rfl))) rfl) (gQ6y hb he s1.2) fun y45 _ hq=>?_
 exact retE hb 3 (he1 _ (injO hq))
def gQ4n (v_:Val) (key_:ByteArray) (x_:Val) (s1:Bool×Int×List Val×List ByteArray):Option ((Bool×Int×List Val×List ByteArray)⊕(Val)) :=
 bif (decide (s1.2.1<(v_.keys.length:Int))) then bif (decide (s1.2.1<(v_.items.length:Int))) then bif (!s1.1) then (idx v_.keys s1.2.1).bind fun x4=>bif (!Op.bytesLess x4.toList key_.toList) then (app 16 s1.2.2.2 [key_]).bind fun l6=>(app 80 s1.2.2.1 [x_]).bind fun l7=>(idx v_.keys s1.2.1).bind fun x8=>bif (!decide (x8=key_)) then (idx v_.keys s1.2.1).bind fun x10=>(app 16 l6 [x10]).bind fun l11=>(idx v_.items s1.2.1).bind fun x12=>(app 80 l7 [x12]).bind fun l13=>some (.inl (true,(IntKind.i64.wrap (s1.2.1+1)),l13,l11)) else some (.inl (true,(IntKind.i64.wrap (s1.2.1+1)),l7,l6)) else (idx v_.keys s1.2.1).bind fun x14=>bif (!decide (x14=key_)) then (idx v_.keys s1.2.1).bind fun x16=>(app 16 s1.2.2.2 [x16]).bind fun l17=>(idx v_.items s1.2.1).bind fun x18=>(app 80 s1.2.2.1 [x18]).bind fun l19=>some (.inl (s1.1,(IntKind.i64.wrap (s1.2.1+1)),l19,l17)) else some (.inl (s1.1,(IntKind.i64.wrap (s1.2.1+1)),s1.2.2.1,s1.2.2.2)) else (idx v_.keys s1.2.1).bind fun x20=>bif (!decide (x20=key_)) then (idx v_.keys s1.2.1).bind fun x22=>(app 16 s1.2.2.2 [x22]).bind fun l23=>(idx v_.items s1.2.1).bind fun x24=>(app 80 s1.2.2.1 [x24]).bind fun l25=>some (.inl (s1.1,(IntKind.i64.wrap (s1.2.1+1)),l25,l23)) else some (.inl (s1.1,(IntKind.i64.wrap (s1.2.1+1)),s1.2.2.1,s1.2.2.2)) else bif (!s1.1) then (app 16 s1.2.2.2 [key_]).bind fun l27=>(app 80 s1.2.2.1 [x_]).bind fun l28=>some (.inr (Val.mk 5 0 eS l28 l27)) else some (.inr (Val.mk 5 0 eS s1.2.2.1 s1.2.2.2)) else bif (!s1.1) then (app 16 s1.2.2.2 [key_]).bind fun l30=>(app 80 s1.2.2.1 [x_]).bind fun l31=>some (.inr (Val.mk 5 0 eS l31 l30)) else some (.inr (Val.mk 5 0 eS s1.2.2.1 s1.2.2.2))
def gQ4m  (v_:Val) (key_:ByteArray) (x_:Val):Option (Val) :=
 q7 (gQ4n v_ key_ x_) (false,0,[],[])
theorem gQ4o (hb:Base E E0 G) (he:∀w,E w->EnvV w)   (v_:Val) (key_:ByteArray) (x_:Val):∀r_:Val,gQ4m v_ key_ x_=some r_ ->
 Pure E E0 Tryz.prog 124 [.agg (aV v_),.cell (vS key_),.agg (aV x_)] (.one (.agg (aV r_))):=by
 refine fnE hb Tryz.func124 rfl fun r_ hq=>?_
 refine q3j hb 22 3 3 5 (cs:=[vi 5,vi 0,vS eS,vN,vN]) (by kernel_rfl) ?_
 refine q3j hb 0 3 4 1 (cs:=[vi 5,vi 0,vS eS,vO flV 4 [],vN]) (by kernel_rfl) ?_
 refine qd hb 0 (gQ4n v_ key_ x_) (fun s1=>sl 90 [(1,c1 (vS key_)),(3,pt 0),(5,pt 1),(6,pt 2),(7,pt 3),(8,c1 (vB s1.1)),(9,c1 (vi s1.2.1))]) (fun s1=>[bx (aV v_),bx (aV x_),bx zV,bx [vi 5,vi 0,vS eS,vO flV 4 s1.2.2.1,vO flS 5 s1.2.2.2],some (arO true flV.sz 0 (flV.f s1.2.2.1)),some (arO true flS.sz 0 (flS.f s1.2.2.2))]) [1,3,5,6,7,8,9] [] 6 (s0:=(false,0,[],[])) ⟨(by kernel_rfl),(by kernel_rfl),(by kernel_rfl),(by kernel_rfl),(qa _ _ _ _ _),(qa _ _ _ _ _),trivial⟩ hq (fun s1 o1 hq hn1 he1=>?_)
 refine ifE hb 9 [15,16] [] hq ?_ ?_<;>intro hq _
 refine ifE hb 7 [21,22] [] hq ?_ ?_<;>intro hq _
 refine ifE hb 10 [26,27] [] hq ?_ ?_<;>intro hq _
 refine idxE hb flS 3 hq fun x4 hx4 hq=>?_
 refine ifE hb 5 [34,35] [] hq ?_ ?_<;>intro hq _
 refine qi flS hb 7 5 true 0 (flS.one key_) hq fun l6 hl6 hq=>?_
 refine qi flV hb 9 4 true 0 (flV.one x_) hq fun l7 hl7 hq=>?_
 refine idxE hb flS 11 hq fun x8 hx8 hq=>?_
 refine ifE hb 4 [54] [] hq ?_ ?_<;>intro hq _
 refine qh hb mixed 2 8 [] ?_
 refine idxE hb flS 5 hq fun x10 hx10 hq=>?_
 refine qi flS hb 3 5 true 0 (flS.one x10) hq fun l11 hl11 hq=>?_
 refine qh hb mixed 3 8 [] ?_
 refine idxE hb flV 5 hq fun x12 hx12 hq=>?_
 refine qi flV hb 3 4 true 0 (flV.one x12) hq fun l13 hl13 hq=>?_
 exact q8 hb 9 [1,3,5,6,7,8,9] [] 6 (hn1 _ (injO hq)) ⟨(by kernel_rfl),(by kernel_rfl),(by kernel_rfl),(by kernel_rfl),(qa _ _ _ _ _),(qa _ _ _ _ _),trivial⟩
 exact q8 hb 8 [1,3,5,6,7,8,9] [] 6 (hn1 _ (injO hq)) ⟨(by kernel_rfl),(by kernel_rfl),(by kernel_rfl),(by kernel_rfl),(qa _ _ _ _ _),(qa _ _ _ _ _),trivial⟩
 refine idxE hb flS 7 hq fun x14 hx14 hq=>?_
 refine ifE hb 4 [54] [] hq ?_ ?_<;>intro hq _
 refine qh hb mixed 2 8 [] ?_
 refine idxE hb flS 5 hq fun x16 hx16 hq=>?_
 refine qi flS hb 3 5 true 0 (flS.one x16) hq fun l17 hl17 hq=>?_
 refine qh hb mixed 3 8 [] ?_
 refine idxE hb flV 5 hq fun x18 hx18 hq=>?_
 refine qi flV hb 3 4 true 0 (flV.one x18) hq fun l19 hl19 hq=>?_
 exact q8 hb 9 [1,3,5,6,7,8,9] [] 6 (hn1 _ (injO hq)) ⟨(by kernel_rfl),(by kernel_rfl),(by kernel_rfl),(by kernel_rfl),(qa _ _ _ _ _),(qa _ _ _ _ _),trivial⟩
 exact q8 hb 8 [1,3,5,6,7,8,9] [] 6 (hn1 _ (injO hq)) ⟨(by kernel_rfl),(by kernel_rfl),(by kernel_rfl),(by kernel_rfl),(qa _ _ _ _ _),(qa _ _ _ _ _),trivial⟩
 refine idxE hb flS 16 hq fun x20 hx20 hq=>?_
 refine ifE hb 4 [54] [] hq ?_ ?_<;>intro hq _
 refine qh hb mixed 2 8 [] ?_
 refine idxE hb flS 5 hq fun x22 hx22 hq=>?_
 refine qi flS hb 3 5 true 0 (flS.one x22) hq fun l23 hl23 hq=>?_
 refine qh hb mixed 3 8 [] ?_
 refine idxE hb flV 5 hq fun x24 hx24 hq=>?_
 refine qi flV hb 3 4 true 0 (flV.one x24) hq fun l25 hl25 hq=>?_
 exact q8 hb 9 [1,3,5,6,7,8,9] [] 6 (hn1 _ (injO hq)) ⟨(by kernel_rfl),(by kernel_rfl),(by kernel_rfl),(by kernel_rfl),(qa _ _ _ _ _),(qa _ _ _ _ _),trivial⟩
 exact q8 hb 8 [1,3,5,6,7,8,9] [] 6 (hn1 _ (injO hq)) ⟨(by kernel_rfl),(by kernel_rfl),(by kernel_rfl),(by kernel_rfl),(qa _ _ _ _ _),(qa _ _ _ _ _),trivial⟩
 refine ifE hb 8 [76] [] hq ?_ ?_<;>intro hq _
 refine qi flS hb 7 5 true 0 (flS.one key_) hq fun l27 hl27 hq=>?_
 refine qi flV hb 8 4 true 0 (flV.one x_) hq fun l28 hl28 hq=>?_
 refine qw hb 8 4 true (sz:=flV.sz) (fr:=0) (cs:=flV.f l28) (by kernel_rfl) (Nat.zero_le _) ?_
 refine q19 hb 0 2 3 (cs:=[vi 5,vi 0,vS eS,vO flV 4 l28,vO flS 5 l27]) (c:=vO flV 4 l28) (q1g flV (nb:=true) (id:=4) (xs:=l28) (by kernel_rfl)) (by kernel_rfl) ?_
 refine qw hb 0 5 true (sz:=flS.sz) (fr:=0) (cs:=flS.f l27) (by kernel_rfl) (Nat.zero_le _) ?_
 refine q19 hb 0 2 4 (cs:=[vi 5,vi 0,vS eS,vL flV l28,vO flS 5 l27]) (c:=vO flS 5 l27) (q1g flS (nb:=true) (id:=5) (xs:=l27) (by kernel_rfl)) (by kernel_rfl) ?_
 exact retE hb 0 (he1 _ (injO hq))
 refine qw hb 7 4 true (sz:=flV.sz) (fr:=0) (cs:=flV.f s1.2.2.1) (by kernel_rfl) (Nat.zero_le _) ?_
 refine q19 hb 0 2 3 (cs:=[vi 5,vi 0,vS eS,vO flV 4 s1.2.2.1,vO flS 5 s1.2.2.2]) (c:=vO flV 4 s1.2.2.1) (q1g flV (nb:=true) (id:=4) (xs:=s1.2.2.1) (by kernel_rfl)) (by kernel_rfl) ?_
 refine qw hb 0 5 true (sz:=flS.sz) (fr:=0) (cs:=flS.f s1.2.2.2) (by kernel_rfl) (Nat.zero_le _) ?_
 refine q19 hb 0 2 4 (cs:=[vi 5,vi 0,vS eS,vL flV s1.2.2.1,vO flS 5 s1.2.2.2]) (c:=vO flS 5 s1.2.2.2) (q1g flS (nb:=true) (id:=5) (xs:=s1.2.2.2) (by kernel_rfl)) (by kernel_rfl) ?_
 exact retE hb 0 (he1 _ (injO hq))
 refine ifE hb 15 [76] [] hq ?_ ?_<;>intro hq _
 refine qi flS hb 7 5 true 0 (flS.one key_) hq fun l30 hl30 hq=>?_
 refine qi flV hb 8 4 true 0 (flV.one x_) hq fun l31 hl31 hq=>?_
 refine qw hb 8 4 true (sz:=flV.sz) (fr:=0) (cs:=flV.f l31) (by kernel_rfl) (Nat.zero_le _) ?_
 refine q19 hb 0 2 3 (cs:=[vi 5,vi 0,vS eS,vO flV 4 l31,vO flS 5 l30]) (c:=vO flV 4 l31) (q1g flV (nb:=true) (id:=4) (xs:=l31) (by kernel_rfl)) (by kernel_rfl) ?_
 refine qw hb 0 5 true (sz:=flS.sz) (fr:=0) (cs:=flS.f l30) (by kernel_rfl) (Nat.zero_le _) ?_
 refine q19 hb 0 2 4 (cs:=[vi 5,vi 0,vS eS,vL flV l31,vO flS 5 l30]) (c:=vO flS 5 l30) (q1g flS (nb:=true) (id:=5) (xs:=l30) (by kernel_rfl)) (by kernel_rfl) ?_
 exact retE hb 0 (he1 _ (injO hq))
 refine qw hb 7 4 true (sz:=flV.sz) (fr:=0) (cs:=flV.f s1.2.2.1) (by kernel_rfl) (Nat.zero_le _) ?_
 refine q19 hb 0 2 3 (cs:=[vi 5,vi 0,vS eS,vO flV 4 s1.2.2.1,vO flS 5 s1.2.2.2]) (c:=vO flV 4 s1.2.2.1) (q1g flV (nb:=true) (id:=4) (xs:=s1.2.2.1) (by kernel_rfl)) (by kernel_rfl) ?_
 refine qw hb 0 5 true (sz:=flS.sz) (fr:=0) (cs:=flS.f s1.2.2.2) (by kernel_rfl) (Nat.zero_le _) ?_
 refine q19 hb 0 2 4 (cs:=[vi 5,vi 0,vS eS,vL flV s1.2.2.1,vO flS 5 s1.2.2.2]) (c:=vO flS 5 s1.2.2.2) (q1g flS (nb:=true) (id:=5) (xs:=s1.2.2.2) (by kernel_rfl)) (by kernel_rfl) ?_
 exact retE hb 0 (he1 _ (injO hq))
def gQ8j (k_:Val) (y10:Bool) (s1:Bool×Int) (s2:Int):Option ((Int)⊕((Bool×Int)⊕(Val×Int))) :=
 bif (decide (s2<s1.2)) then (idx k_.items s1.2).bind fun x12=>(gQ7a x12).bind fun y13=>bif (!y13) then (idx k_.items s2).bind fun x15=>(gQ7a x15).bind fun y16=>bif (!y16) then (idx k_.items s1.2).bind fun x18=>(idx k_.items s2).bind fun x19=>bif (decide (x18.str=x19.str)) then some (.inr (.inr ((Val.mk 0 0 eS [] []),8))) else some (.inl (IntKind.i64.wrap (s2+1))) else some (.inl (IntKind.i64.wrap (s2+1))) else some (.inl (IntKind.i64.wrap (s2+1))) else some (.inr (.inl ((!y10),(IntKind.i64.wrap (s1.2+1)))))
def gQ8k (k_:Val) (s1:Bool×Int) (s2:Int):Option ((Int)⊕((Bool×Int)⊕(Val×Int))) :=
 bif (decide (s2<s1.2)) then (idx k_.items s1.2).bind fun x22=>(gQ7a x22).bind fun y23=>bif (!y23) then (idx k_.items s2).bind fun x25=>(gQ7a x25).bind fun y26=>bif (!y26) then (idx k_.items s1.2).bind fun x28=>(idx k_.items s2).bind fun x29=>bif (decide (x28.str=x29.str)) then some (.inr (.inr ((Val.mk 0 0 eS [] []),8))) else some (.inl (IntKind.i64.wrap (s2+1))) else some (.inl (IntKind.i64.wrap (s2+1))) else some (.inl (IntKind.i64.wrap (s2+1))) else some (.inr (.inl (false,(IntKind.i64.wrap (s1.2+1)))))
def gQ8l (k_:Val) (v_:Val) (s2b:Int×Int×ByteArray×List Val×List ByteArray×Int):Option ((Int×Int×ByteArray×List Val×List ByteArray×Int)⊕((Bool×Int)⊕(Val×Int))) :=
 bif (decide (s2b.2.2.2.2.2<(k_.items.length:Int))) then (idx k_.items s2b.2.2.2.2.2).bind fun x34=>(idx v_.items s2b.2.2.2.2.2).bind fun x35=>(gQ4m (Val.mk s2b.1 s2b.2.1 s2b.2.2.1 s2b.2.2.2.1 s2b.2.2.2.2.1) x34.str x35).bind fun y36=>some (.inl (y36.kind,y36.num,y36.str,y36.items,y36.keys,(IntKind.i64.wrap (s2b.2.2.2.2.2+1)))) else some (.inr (.inr ((Val.mk s2b.1 s2b.2.1 s2b.2.2.1 s2b.2.2.2.1 s2b.2.2.2.2.1),0)))
def gQ89 (k_:Val) (v_:Val) (s1:Bool×Int):Option ((Bool×Int)⊕(Val×Int)) :=
 bif (decide (s1.2<(k_.items.length:Int))) then bif s1.1 then (idx k_.items s1.2).bind fun x9=>(gQ7a x9).bind fun y10=>q7 (gQ8j k_ y10 s1) 0 else q7 (gQ8k k_ s1) 0 else bif (!s1.1) then (gQ86).bind fun y32=>some (.inr (y32,0)) else q7 (gQ8l k_ v_) (5,0,eS,[],[],0)
def gQ8n (k_:Val) (s1b:Int) (s2:Int):Option ((Int)⊕((Int)⊕(Val×Int))) :=
 bif (decide (s2<s1b)) then (idx k_.items s1b).bind fun x39=>(gQ7a x39).bind fun y40=>bif (!y40) then (idx k_.items s2).bind fun x42=>(gQ7a x42).bind fun y43=>bif (!y43) then (idx k_.items s1b).bind fun x45=>(idx k_.items s2).bind fun x46=>bif (decide (x45.str=x46.str)) then some (.inr (.inr ((Val.mk 0 0 eS [] []),8))) else some (.inl (IntKind.i64.wrap (s2+1))) else some (.inl (IntKind.i64.wrap (s2+1))) else some (.inl (IntKind.i64.wrap (s2+1))) else some (.inr (.inl (IntKind.i64.wrap (s1b+1))))
def gQ8m (k_:Val) (s1b:Int):Option ((Int)⊕(Val×Int)) :=
 bif (decide (s1b<(k_.items.length:Int))) then q7 (gQ8n k_ s1b) 0 else (gQ86).bind fun y48=>some (.inr (y48,0))
def gQ8p (k_:Val) (s1:Bool×Int) (y55:Bool) (s2:Int):Option ((Int)⊕((Bool×Int)⊕(Val×Int))) :=
 bif (decide (s2<s1.2)) then (idx k_.items s1.2).bind fun x57=>(gQ7a x57).bind fun y58=>bif (!y58) then (idx k_.items s2).bind fun x60=>(gQ7a x60).bind fun y61=>bif (!y61) then (idx k_.items s1.2).bind fun x63=>(idx k_.items s2).bind fun x64=>bif (decide (x63.str=x64.str)) then some (.inr (.inr ((Val.mk 0 0 eS [] []),8))) else some (.inl (IntKind.i64.wrap (s2+1))) else some (.inl (IntKind.i64.wrap (s2+1))) else some (.inl (IntKind.i64.wrap (s2+1))) else some (.inr (.inl ((!y55),(IntKind.i64.wrap (s1.2+1)))))
def gQ8q (k_:Val) (s1:Bool×Int) (s2:Int):Option ((Int)⊕((Bool×Int)⊕(Val×Int))) :=
 bif (decide (s2<s1.2)) then (idx k_.items s1.2).bind fun x67=>(gQ7a x67).bind fun y68=>bif (!y68) then (idx k_.items s2).bind fun x70=>(gQ7a x70).bind fun y71=>bif (!y71) then (idx k_.items s1.2).bind fun x73=>(idx k_.items s2).bind fun x74=>bif (decide (x73.str=x74.str)) then some (.inr (.inr ((Val.mk 0 0 eS [] []),8))) else some (.inl (IntKind.i64.wrap (s2+1))) else some (.inl (IntKind.i64.wrap (s2+1))) else some (.inl (IntKind.i64.wrap (s2+1))) else some (.inr (.inl (false,(IntKind.i64.wrap (s1.2+1)))))
def gQ8a (k_:Val) (v_:Val) (s2b:Int×Int×ByteArray×List Val×List ByteArray×Int):Option ((Int×Int×ByteArray×List Val×List ByteArray×Int)⊕((Bool×Int)⊕(Val×Int))) :=
 bif (decide (s2b.2.2.2.2.2<(k_.items.length:Int))) then (idx k_.items s2b.2.2.2.2.2).bind fun x79=>(idx v_.items s2b.2.2.2.2.2).bind fun x80=>(gQ4m (Val.mk s2b.1 s2b.2.1 s2b.2.2.1 s2b.2.2.2.1 s2b.2.2.2.2.1) x79.str x80).bind fun y81=>some (.inl (y81.kind,y81.num,y81.str,y81.items,y81.keys,(IntKind.i64.wrap (s2b.2.2.2.2.2+1)))) else some (.inr (.inr ((Val.mk s2b.1 s2b.2.1 s2b.2.2.1 s2b.2.2.2.1 s2b.2.2.2.2.1),0)))
def gQ8o (k_:Val) (v_:Val) (s1:Bool×Int):Option ((Bool×Int)⊕(Val×Int)) :=
 bif (decide (s1.2<(k_.items.length:Int))) then bif s1.1 then (idx k_.items s1.2).bind fun x54=>(gQ7a x54).bind fun y55=>q7 (gQ8p k_ s1 y55) 0 else q7 (gQ8q k_ s1) 0 else bif (!s1.1) then (gQ86).bind fun y77=>some (.inr (y77,0)) else q7 (gQ8a k_ v_) (5,0,eS,[],[],0)
def gQ8c (k_:Val) (s1b:Int) (s2:Int):Option ((Int)⊕((Int)⊕(Val×Int))) :=
 bif (decide (s2<s1b)) then (idx k_.items s1b).bind fun x84=>(gQ7a x84).bind fun y85=>bif (!y85) then (idx k_.items s2).bind fun x87=>(gQ7a x87).bind fun y88=>bif (!y88) then (idx k_.items s1b).bind fun x90=>(idx k_.items s2).bind fun x91=>bif (decide (x90.str=x91.str)) then some (.inr (.inr ((Val.mk 0 0 eS [] []),8))) else some (.inl (IntKind.i64.wrap (s2+1))) else some (.inl (IntKind.i64.wrap (s2+1))) else some (.inl (IntKind.i64.wrap (s2+1))) else some (.inr (.inl (IntKind.i64.wrap (s1b+1))))
def gQ8b (k_:Val) (s1b:Int):Option ((Int)⊕(Val×Int)) :=
 bif (decide (s1b<(k_.items.length:Int))) then q7 (gQ8c k_ s1b) 0 else (gQ86).bind fun y93=>some (.inr (y93,0))
def gQ8e (k_:Val) (s1:Bool×Int) (y100:Bool) (s2:Int):Option ((Int)⊕((Bool×Int)⊕(Val×Int))) :=
 bif (decide (s2<s1.2)) then (idx k_.items s1.2).bind fun x102=>(gQ7a x102).bind fun y103=>bif (!y103) then (idx k_.items s2).bind fun x105=>(gQ7a x105).bind fun y106=>bif (!y106) then (idx k_.items s1.2).bind fun x108=>(idx k_.items s2).bind fun x109=>bif (decide (x108.str=x109.str)) then some (.inr (.inr ((Val.mk 0 0 eS [] []),8))) else some (.inl (IntKind.i64.wrap (s2+1))) else some (.inl (IntKind.i64.wrap (s2+1))) else some (.inl (IntKind.i64.wrap (s2+1))) else some (.inr (.inl ((!y100),(IntKind.i64.wrap (s1.2+1)))))
def gQ8f (k_:Val) (s1:Bool×Int) (s2:Int):Option ((Int)⊕((Bool×Int)⊕(Val×Int))) :=
 bif (decide (s2<s1.2)) then (idx k_.items s1.2).bind fun x112=>(gQ7a x112).bind fun y113=>bif (!y113) then (idx k_.items s2).bind fun x115=>(gQ7a x115).bind fun y116=>bif (!y116) then (idx k_.items s1.2).bind fun x118=>(idx k_.items s2).bind fun x119=>bif (decide (x118.str=x119.str)) then some (.inr (.inr ((Val.mk 0 0 eS [] []),8))) else some (.inl (IntKind.i64.wrap (s2+1))) else some (.inl (IntKind.i64.wrap (s2+1))) else some (.inl (IntKind.i64.wrap (s2+1))) else some (.inr (.inl (false,(IntKind.i64.wrap (s1.2+1)))))
def gQ8g (k_:Val) (v_:Val) (s2b:Int×Int×ByteArray×List Val×List ByteArray×Int):Option ((Int×Int×ByteArray×List Val×List ByteArray×Int)⊕((Bool×Int)⊕(Val×Int))) :=
 bif (decide (s2b.2.2.2.2.2<(k_.items.length:Int))) then (idx k_.items s2b.2.2.2.2.2).bind fun x124=>(idx v_.items s2b.2.2.2.2.2).bind fun x125=>(gQ4m (Val.mk s2b.1 s2b.2.1 s2b.2.2.1 s2b.2.2.2.1 s2b.2.2.2.2.1) x124.str x125).bind fun y126=>some (.inl (y126.kind,y126.num,y126.str,y126.items,y126.keys,(IntKind.i64.wrap (s2b.2.2.2.2.2+1)))) else some (.inr (.inr ((Val.mk s2b.1 s2b.2.1 s2b.2.2.1 s2b.2.2.2.1 s2b.2.2.2.2.1),0)))
def gQ8d (k_:Val) (v_:Val) (s1:Bool×Int):Option ((Bool×Int)⊕(Val×Int)) :=
 bif (decide (s1.2<(k_.items.length:Int))) then bif s1.1 then (idx k_.items s1.2).bind fun x99=>(gQ7a x99).bind fun y100=>q7 (gQ8e k_ s1 y100) 0 else q7 (gQ8f k_ s1) 0 else bif (!s1.1) then (gQ86).bind fun y122=>some (.inr (y122,0)) else q7 (gQ8g k_ v_) (5,0,eS,[],[],0)
def gQ8i (k_:Val) (s1b:Int) (s2:Int):Option ((Int)⊕((Int)⊕(Val×Int))) :=
 bif (decide (s2<s1b)) then (idx k_.items s1b).bind fun x129=>(gQ7a x129).bind fun y130=>bif (!y130) then (idx k_.items s2).bind fun x132=>(gQ7a x132).bind fun y133=>bif (!y133) then (idx k_.items s1b).bind fun x135=>(idx k_.items s2).bind fun x136=>bif (decide (x135.str=x136.str)) then some (.inr (.inr ((Val.mk 0 0 eS [] []),8))) else some (.inl (IntKind.i64.wrap (s2+1))) else some (.inl (IntKind.i64.wrap (s2+1))) else some (.inl (IntKind.i64.wrap (s2+1))) else some (.inr (.inl (IntKind.i64.wrap (s1b+1))))
def gQ8h (k_:Val) (s1b:Int):Option ((Int)⊕(Val×Int)) :=
 bif (decide (s1b<(k_.items.length:Int))) then q7 (gQ8i k_ s1b) 0 else (gQ86).bind fun y138=>some (.inr (y138,0))
def gQ88  (k_:Val) (v_:Val):Option (Val×Int) :=
 bif (decide (k_.kind=4)) then bif (decide (v_.kind=4)) then bif (!decide ((k_.items.length:Int)=(v_.items.length:Int))) then some ((Val.mk 0 0 eS [] []),1) else (gQ7a k_).bind fun y4=>bif (!y4) then (gQ7a v_).bind fun y6=>q7 (gQ89 k_ v_) ((!y6),0) else q7 (gQ8m k_) 0 else (gQ7a k_).bind fun y49=>bif (!y49) then (gQ7a v_).bind fun y51=>q7 (gQ8o k_ v_) ((!y51),0) else q7 (gQ8b k_) 0 else (gQ7a k_).bind fun y94=>bif (!y94) then (gQ7a v_).bind fun y96=>q7 (gQ8d k_ v_) ((!y96),0) else q7 (gQ8h k_) 0
theorem gQ8r (hb:Base E E0 G) (he:∀w,E w->EnvV w)   (k_:Val) (v_:Val):∀r_:Val×Int,gQ88 k_ v_=some r_ ->
 Pure E E0 Tryz.prog 123 [.agg (aV k_),.agg (aV v_)] (.tup [.agg (aV r_.1),.cell (vi r_.2)]):=by
 refine fnE hb Tryz.func123 rfl fun r_ hq=>?_
 refine ifE hb 14 [13,14] [] hq ?_ ?_<;>intro hq _
 refine ifE hb 5 [17,18,19] [] hq ?_ ?_<;>intro hq _
 refine ifE hb 9 [26,27] [] hq ?_ ?_<;>intro hq _
 exact retE hb 7 (injO hq).symm
 refine q6 hb 5 hq (gQ7b hb he k_) fun y4 _ hq=>?_
 refine ifE hb 2 [31,32] [] hq ?_ ?_<;>intro hq _
 refine q6 hb 1 hq (gQ7b hb he v_) fun y6 _ hq=>?_
 refine cpE hb 10 [2,3,4,6,7] (s':=⟨none,[pk Tryz.f123 122],[(0,[pk Tryz.f123 31])],sl 116 [(2,pt 0),(3,pt 1),(4,pt 2),(6,c1 (vB (!y6))),(7,c1 (vi 0))],[bx (aV k_),bx (aV v_),bx zV]⟩) ?_
 refine qd hb 0 (gQ89 k_ v_) (fun s1=>sl 116 [(2,pt 0),(3,pt 1),(4,pt 2),(6,c1 (vB s1.1)),(7,c1 (vi s1.2))]) (fun s1=>[bx (aV k_),bx (aV v_),bx zV]) [2,3,4,6,7] [] 3 (s0:=((!y6),0)) ⟨(by kernel_rfl),(by kernel_rfl),(by kernel_rfl),trivial⟩ hq (fun s1 o1 hq hn1 he1=>?_)
 refine ifE hb 9 [41] [] hq ?_ ?_<;>intro hq _
 refine ifE hb 8 [6,44,45] [] hq ?_ ?_<;>intro hq _
 refine idxE hb flV 3 hq fun x9 hx9 hq=>?_
 refine q6 hb 1 hq (gQ7b hb he x9) fun y10 _ hq=>?_
 refine cpE hb 9 [2,3,4,6,7,8] (s':=⟨none,[pk Tryz.f123 15654],[(2,[]),(1,[pk Tryz.f123 979,pk Tryz.f123 122]),(0,[pk Tryz.f123 31])],sl 116 [(2,pt 0),(3,pt 1),(4,pt 2),(6,c1 (vB (!y10))),(7,c1 (vi s1.2)),(8,c1 (vi 0))],[bx (aV k_),bx (aV v_),bx zV]⟩) ?_
 refine qd hb 0 (gQ8j k_ y10 s1) (fun s2=>sl 116 [(2,pt 0),(3,pt 1),(4,pt 2),(6,c1 (vB (!y10))),(7,c1 (vi s1.2)),(8,c1 (vi s2))]) (fun s2=>[bx (aV k_),bx (aV v_),bx zV]) [2,3,4,6,7,8] [] 3 (s0:=0) ⟨(by kernel_rfl),(by kernel_rfl),(by kernel_rfl),trivial⟩ hq (fun s2 o2 hq hn2 he2=>?_)
 refine ifE hb 7 [56] [] hq ?_ ?_<;>intro hq _
 refine qh hb mixed 5 29 [] ?_
 refine idxE hb flV 3 hq fun x12 hx12 hq=>?_
 refine q6 hb 1 hq (gQ7b hb he x12) fun y13 _ hq=>?_
 refine ifE hb 2 [65,66] [] hq ?_ ?_<;>intro hq _
 refine idxE hb flV 3 hq fun x15 hx15 hq=>?_
 refine q6 hb 1 hq (gQ7b hb he x15) fun y16 _ hq=>?_
 refine ifE hb 3 [73,74,75] [] hq ?_ ?_<;>intro hq _
 refine idxE hb flV 3 hq fun x18 hx18 hq=>?_
 refine idxE hb flV 5 hq fun x19 hx19 hq=>?_
 refine ifE hb 6 [88,89] [] hq ?_ ?_<;>intro hq _
 exact retE hb 7 (he1 _ ((he2 _ (injO hq)).symm))
 exact q8 hb 8 [2,3,4,6,7,8] [] 3 (hn2 _ (injO hq)) ⟨(by kernel_rfl),(by kernel_rfl),(by kernel_rfl),trivial⟩
 exact q8 hb 24 [2,3,4,6,7,8] [] 3 (hn2 _ (injO hq)) ⟨(by kernel_rfl),(by kernel_rfl),(by kernel_rfl),trivial⟩
 exact q8 hb 33 [2,3,4,6,7,8] [] 3 (hn2 _ (injO hq)) ⟨(by kernel_rfl),(by kernel_rfl),(by kernel_rfl),trivial⟩
 exact q8 hb 8 [2,3,4,6,7] [] 3 (hn1 _ ((he2 _ (injO hq)).symm)) ⟨(by kernel_rfl),(by kernel_rfl),(by kernel_rfl),trivial⟩
 refine qd hb 15 (gQ8k k_ s1) (fun s2=>sl 116 [(2,pt 0),(3,pt 1),(4,pt 2),(6,c1 (vB false)),(7,c1 (vi s1.2)),(8,c1 (vi s2))]) (fun s2=>[bx (aV k_),bx (aV v_),bx zV]) [2,3,4,6,7,8] [] 3 (s0:=0) ⟨(by kernel_rfl),(by kernel_rfl),(by kernel_rfl),trivial⟩ hq (fun s2 o2 hq hn2 he2=>?_)
 refine ifE hb 7 [56] [] hq ?_ ?_<;>intro hq _
 refine qh hb mixed 5 29 [] ?_
 refine idxE hb flV 3 hq fun x22 hx22 hq=>?_
 refine q6 hb 1 hq (gQ7b hb he x22) fun y23 _ hq=>?_
 refine ifE hb 2 [65,66] [] hq ?_ ?_<;>intro hq _
 refine idxE hb flV 3 hq fun x25 hx25 hq=>?_
 refine q6 hb 1 hq (gQ7b hb he x25) fun y26 _ hq=>?_
 refine ifE hb 3 [73,74,75] [] hq ?_ ?_<;>intro hq _
 refine idxE hb flV 3 hq fun x28 hx28 hq=>?_
 refine idxE hb flV 5 hq fun x29 hx29 hq=>?_
 refine ifE hb 6 [88,89] [] hq ?_ ?_<;>intro hq _
 exact retE hb 7 (he1 _ ((he2 _ (injO hq)).symm))
 exact q8 hb 8 [2,3,4,6,7,8] [] 3 (hn2 _ (injO hq)) ⟨(by kernel_rfl),(by kernel_rfl),(by kernel_rfl),trivial⟩
 exact q8 hb 24 [2,3,4,6,7,8] [] 3 (hn2 _ (injO hq)) ⟨(by kernel_rfl),(by kernel_rfl),(by kernel_rfl),trivial⟩
 exact q8 hb 33 [2,3,4,6,7,8] [] 3 (hn2 _ (injO hq)) ⟨(by kernel_rfl),(by kernel_rfl),(by kernel_rfl),trivial⟩
 exact q8 hb 8 [2,3,4,6,7] [] 3 (hn1 _ ((he2 _ (injO hq)).symm)) ⟨(by kernel_rfl),(by kernel_rfl),(by kernel_rfl),trivial⟩
 refine ifE hb 8 [92] [] hq ?_ ?_<;>intro hq _
 refine q6 hb 3 hq (gQ87 hb he ) fun y32 _ hq=>?_
 exact retE hb 3 (he1 _ (injO hq))
 refine q19 hb 14 3 3 (cs:=[vi 5,vi 0,vS eS,vN,vN]) (c:=vN) (q5m flV) (by kernel_rfl) ?_
 refine q19 hb 0 3 4 (cs:=[vi 5,vi 0,vS eS,vL flV [],vN]) (c:=vN) (q5m flS) (by kernel_rfl) ?_
 refine qd hb 0 (gQ8l k_ v_) (fun s2b=>sl 116 [(2,pt 0),(3,pt 1),(4,pt 2),(9,pt 3),(10,c1 (vi s2b.2.2.2.2.2))]) (fun s2b=>[bx (aV k_),bx (aV v_),bx zV,bx [vi s2b.1,vi s2b.2.1,vS s2b.2.2.1,vL flV s2b.2.2.2.1,vL flS s2b.2.2.2.2.1]]) [2,3,4,9,10] [] 4 (s0:=(5,0,eS,[],[],0)) ⟨(by kernel_rfl),(by kernel_rfl),(by kernel_rfl),(by kernel_rfl),trivial⟩ hq (fun s2b o2 hq hn2 he2=>?_)
 refine ifE hb 9 [99] [] hq ?_ ?_<;>intro hq _
 refine qh hb mixed 4 12 [] ?_
 refine idxE hb flV 4 hq fun x34 hx34 hq=>?_
 refine idxE hb flV 5 hq fun x35 hx35 hq=>?_
 refine q6 hb 2 hq (gQ4o hb he (Val.mk s2b.1 s2b.2.1 s2b.2.2.1 s2b.2.2.2.1 s2b.2.2.2.2.1) x34.str x35) fun y36 _ hq=>?_
 exact q8 hb 8 [2,3,4,9,10] [] 4 (hn2 _ (injO hq)) ⟨(by kernel_rfl),(by kernel_rfl),(by kernel_rfl),(by kernel_rfl),trivial⟩
 exact retE hb 8 (he1 _ ((he2 _ (injO hq)).symm))
 refine cpE hb 12 [2,3,4,6,7] (s':=⟨none,[pk Tryz.f123 122],[(0,[pk Tryz.f123 31])],sl 116 [(2,pt 0),(3,pt 1),(4,pt 2),(6,c1 (vB false)),(7,c1 (vi 0))],[bx (aV k_),bx (aV v_),bx zV]⟩) ?_
 refine qd hb 0 (gQ8m k_) (fun s1b=>sl 116 [(2,pt 0),(3,pt 1),(4,pt 2),(6,c1 (vB false)),(7,c1 (vi s1b))]) (fun s1b=>[bx (aV k_),bx (aV v_),bx zV]) [2,3,4,6,7] [] 3 (s0:=0) ⟨(by kernel_rfl),(by kernel_rfl),(by kernel_rfl),trivial⟩ hq (fun s1b o1 hq hn1 he1=>?_)
 refine ifE hb 9 [41] [] hq ?_ ?_<;>intro hq _
 refine qd hb 23 (gQ8n k_ s1b) (fun s2=>sl 116 [(2,pt 0),(3,pt 1),(4,pt 2),(6,c1 (vB false)),(7,c1 (vi s1b)),(8,c1 (vi s2))]) (fun s2=>[bx (aV k_),bx (aV v_),bx zV]) [2,3,4,6,7,8] [] 3 (s0:=0) ⟨(by kernel_rfl),(by kernel_rfl),(by kernel_rfl),trivial⟩ hq (fun s2 o2 hq hn2 he2=>?_)
 refine ifE hb 7 [56] [] hq ?_ ?_<;>intro hq _
 refine qh hb mixed 5 29 [] ?_
 refine idxE hb flV 3 hq fun x39 hx39 hq=>?_
 refine q6 hb 1 hq (gQ7b hb he x39) fun y40 _ hq=>?_
 refine ifE hb 2 [65,66] [] hq ?_ ?_<;>intro hq _
 refine idxE hb flV 3 hq fun x42 hx42 hq=>?_
 refine q6 hb 1 hq (gQ7b hb he x42) fun y43 _ hq=>?_
 refine ifE hb 3 [73,74,75] [] hq ?_ ?_<;>intro hq _
 refine idxE hb flV 3 hq fun x45 hx45 hq=>?_
 refine idxE hb flV 5 hq fun x46 hx46 hq=>?_
 refine ifE hb 6 [88,89] [] hq ?_ ?_<;>intro hq _
 exact retE hb 7 (he1 _ ((he2 _ (injO hq)).symm))
 exact q8 hb 8 [2,3,4,6,7,8] [] 3 (hn2 _ (injO hq)) ⟨(by kernel_rfl),(by kernel_rfl),(by kernel_rfl),trivial⟩
 exact q8 hb 24 [2,3,4,6,7,8] [] 3 (hn2 _ (injO hq)) ⟨(by kernel_rfl),(by kernel_rfl),(by kernel_rfl),trivial⟩
 exact q8 hb 33 [2,3,4,6,7,8] [] 3 (hn2 _ (injO hq)) ⟨(by kernel_rfl),(by kernel_rfl),(by kernel_rfl),trivial⟩
 exact q8 hb 8 [2,3,4,6,7] [] 3 (hn1 _ ((he2 _ (injO hq)).symm)) ⟨(by kernel_rfl),(by kernel_rfl),(by kernel_rfl),trivial⟩
 refine q6 hb 11 hq (gQ87 hb he ) fun y48 _ hq=>?_
 exact retE hb 3 (he1 _ (injO hq))
 refine q6 hb 14 hq (gQ7b hb he k_) fun y49 _ hq=>?_
 refine ifE hb 2 [31,32] [] hq ?_ ?_<;>intro hq _
 refine q6 hb 1 hq (gQ7b hb he v_) fun y51 _ hq=>?_
 refine cpE hb 10 [2,3,4,6,7] (s':=⟨none,[pk Tryz.f123 122],[(0,[pk Tryz.f123 31])],sl 116 [(2,pt 0),(3,pt 1),(4,pt 2),(6,c1 (vB (!y51))),(7,c1 (vi 0))],[bx (aV k_),bx (aV v_),bx zV]⟩) ?_
 refine qd hb 0 (gQ8o k_ v_) (fun s1=>sl 116 [(2,pt 0),(3,pt 1),(4,pt 2),(6,c1 (vB s1.1)),(7,c1 (vi s1.2))]) (fun s1=>[bx (aV k_),bx (aV v_),bx zV]) [2,3,4,6,7] [] 3 (s0:=((!y51),0)) ⟨(by kernel_rfl),(by kernel_rfl),(by kernel_rfl),trivial⟩ hq (fun s1 o1 hq hn1 he1=>?_)
 refine ifE hb 9 [41] [] hq ?_ ?_<;>intro hq _
 refine ifE hb 8 [6,44,45] [] hq ?_ ?_<;>intro hq _
 refine idxE hb flV 3 hq fun x54 hx54 hq=>?_
 refine q6 hb 1 hq (gQ7b hb he x54) fun y55 _ hq=>?_
 refine cpE hb 9 [2,3,4,6,7,8] (s':=⟨none,[pk Tryz.f123 15654],[(2,[]),(1,[pk Tryz.f123 979,pk Tryz.f123 122]),(0,[pk Tryz.f123 31])],sl 116 [(2,pt 0),(3,pt 1),(4,pt 2),(6,c1 (vB (!y55))),(7,c1 (vi s1.2)),(8,c1 (vi 0))],[bx (aV k_),bx (aV v_),bx zV]⟩) ?_
 refine qd hb 0 (gQ8p k_ s1 y55) (fun s2=>sl 116 [(2,pt 0),(3,pt 1),(4,pt 2),(6,c1 (vB (!y55))),(7,c1 (vi s1.2)),(8,c1 (vi s2))]) (fun s2=>[bx (aV k_),bx (aV v_),bx zV]) [2,3,4,6,7,8] [] 3 (s0:=0) ⟨(by kernel_rfl),(by kernel_rfl),(by kernel_rfl),trivial⟩ hq (fun s2 o2 hq hn2 he2=>?_)
 refine ifE hb 7 [56] [] hq ?_ ?_<;>intro hq _
 refine qh hb mixed 5 29 [] ?_
 refine idxE hb flV 3 hq fun x57 hx57 hq=>?_
 refine q6 hb 1 hq (gQ7b hb he x57) fun y58 _ hq=>?_
 refine ifE hb 2 [65,66] [] hq ?_ ?_<;>intro hq _
 refine idxE hb flV 3 hq fun x60 hx60 hq=>?_
 refine q6 hb 1 hq (gQ7b hb he x60) fun y61 _ hq=>?_
 refine ifE hb 3 [73,74,75] [] hq ?_ ?_<;>intro hq _
 refine idxE hb flV 3 hq fun x63 hx63 hq=>?_
 refine idxE hb flV 5 hq fun x64 hx64 hq=>?_
 refine ifE hb 6 [88,89] [] hq ?_ ?_<;>intro hq _
 exact retE hb 7 (he1 _ ((he2 _ (injO hq)).symm))
 exact q8 hb 8 [2,3,4,6,7,8] [] 3 (hn2 _ (injO hq)) ⟨(by kernel_rfl),(by kernel_rfl),(by kernel_rfl),trivial⟩
 exact q8 hb 24 [2,3,4,6,7,8] [] 3 (hn2 _ (injO hq)) ⟨(by kernel_rfl),(by kernel_rfl),(by kernel_rfl),trivial⟩
 exact q8 hb 33 [2,3,4,6,7,8] [] 3 (hn2 _ (injO hq)) ⟨(by kernel_rfl),(by kernel_rfl),(by kernel_rfl),trivial⟩
 exact q8 hb 8 [2,3,4,6,7] [] 3 (hn1 _ ((he2 _ (injO hq)).symm)) ⟨(by kernel_rfl),(by kernel_rfl),(by kernel_rfl),trivial⟩
 refine qd hb 15 (gQ8q k_ s1) (fun s2=>sl 116 [(2,pt 0),(3,pt 1),(4,pt 2),(6,c1 (vB false)),(7,c1 (vi s1.2)),(8,c1 (vi s2))]) (fun s2=>[bx (aV k_),bx (aV v_),bx zV]) [2,3,4,6,7,8] [] 3 (s0:=0) ⟨(by kernel_rfl),(by kernel_rfl),(by kernel_rfl),trivial⟩ hq (fun s2 o2 hq hn2 he2=>?_)
 refine ifE hb 7 [56] [] hq ?_ ?_<;>intro hq _
 refine qh hb mixed 5 29 [] ?_
 refine idxE hb flV 3 hq fun x67 hx67 hq=>?_
 refine q6 hb 1 hq (gQ7b hb he x67) fun y68 _ hq=>?_
 refine ifE hb 2 [65,66] [] hq ?_ ?_<;>intro hq _
 refine idxE hb flV 3 hq fun x70 hx70 hq=>?_
 refine q6 hb 1 hq (gQ7b hb he x70) fun y71 _ hq=>?_
 refine ifE hb 3 [73,74,75] [] hq ?_ ?_<;>intro hq _
 refine idxE hb flV 3 hq fun x73 hx73 hq=>?_
 refine idxE hb flV 5 hq fun x74 hx74 hq=>?_
 refine ifE hb 6 [88,89] [] hq ?_ ?_<;>intro hq _
 exact retE hb 7 (he1 _ ((he2 _ (injO hq)).symm))
 exact q8 hb 8 [2,3,4,6,7,8] [] 3 (hn2 _ (injO hq)) ⟨(by kernel_rfl),(by kernel_rfl),(by kernel_rfl),trivial⟩
 exact q8 hb 24 [2,3,4,6,7,8] [] 3 (hn2 _ (injO hq)) ⟨(by kernel_rfl),(by kernel_rfl),(by kernel_rfl),trivial⟩
 exact q8 hb 33 [2,3,4,6,7,8] [] 3 (hn2 _ (injO hq)) ⟨(by kernel_rfl),(by kernel_rfl),(by kernel_rfl),trivial⟩
 exact q8 hb 8 [2,3,4,6,7] [] 3 (hn1 _ ((he2 _ (injO hq)).symm)) ⟨(by kernel_rfl),(by kernel_rfl),(by kernel_rfl),trivial⟩
 refine ifE hb 8 [92] [] hq ?_ ?_<;>intro hq _
 refine q6 hb 3 hq (gQ87 hb he ) fun y77 _ hq=>?_
 exact retE hb 3 (he1 _ (injO hq))
 refine q19 hb 14 3 3 (cs:=[vi 5,vi 0,vS eS,vN,vN]) (c:=vN) (q5m flV) (by kernel_rfl) ?_
 refine q19 hb 0 3 4 (cs:=[vi 5,vi 0,vS eS,vL flV [],vN]) (c:=vN) (q5m flS) (by kernel_rfl) ?_
 refine qd hb 0 (gQ8a k_ v_) (fun s2b=>sl 116 [(2,pt 0),(3,pt 1),(4,pt 2),(9,pt 3),(10,c1 (vi s2b.2.2.2.2.2))]) (fun s2b=>[bx (aV k_),bx (aV v_),bx zV,bx [vi s2b.1,vi s2b.2.1,vS s2b.2.2.1,vL flV s2b.2.2.2.1,vL flS s2b.2.2.2.2.1]]) [2,3,4,9,10] [] 4 (s0:=(5,0,eS,[],[],0)) ⟨(by kernel_rfl),(by kernel_rfl),(by kernel_rfl),(by kernel_rfl),trivial⟩ hq (fun s2b o2 hq hn2 he2=>?_)
 refine ifE hb 9 [99] [] hq ?_ ?_<;>intro hq _
 refine qh hb mixed 4 12 [] ?_
 refine idxE hb flV 4 hq fun x79 hx79 hq=>?_
 refine idxE hb flV 5 hq fun x80 hx80 hq=>?_
 refine q6 hb 2 hq (gQ4o hb he (Val.mk s2b.1 s2b.2.1 s2b.2.2.1 s2b.2.2.2.1 s2b.2.2.2.2.1) x79.str x80) fun y81 _ hq=>?_
 exact q8 hb 8 [2,3,4,9,10] [] 4 (hn2 _ (injO hq)) ⟨(by kernel_rfl),(by kernel_rfl),(by kernel_rfl),(by kernel_rfl),trivial⟩
 exact retE hb 8 (he1 _ ((he2 _ (injO hq)).symm))
 refine cpE hb 12 [2,3,4,6,7] (s':=⟨none,[pk Tryz.f123 122],[(0,[pk Tryz.f123 31])],sl 116 [(2,pt 0),(3,pt 1),(4,pt 2),(6,c1 (vB false)),(7,c1 (vi 0))],[bx (aV k_),bx (aV v_),bx zV]⟩) ?_
 refine qd hb 0 (gQ8b k_) (fun s1b=>sl 116 [(2,pt 0),(3,pt 1),(4,pt 2),(6,c1 (vB false)),(7,c1 (vi s1b))]) (fun s1b=>[bx (aV k_),bx (aV v_),bx zV]) [2,3,4,6,7] [] 3 (s0:=0) ⟨(by kernel_rfl),(by kernel_rfl),(by kernel_rfl),trivial⟩ hq (fun s1b o1 hq hn1 he1=>?_)
 refine ifE hb 9 [41] [] hq ?_ ?_<;>intro hq _
 refine qd hb 23 (gQ8c k_ s1b) (fun s2=>sl 116 [(2,pt 0),(3,pt 1),(4,pt 2),(6,c1 (vB false)),(7,c1 (vi s1b)),(8,c1 (vi s2))]) (fun s2=>[bx (aV k_),bx (aV v_),bx zV]) [2,3,4,6,7,8] [] 3 (s0:=0) ⟨(by kernel_rfl),(by kernel_rfl),(by kernel_rfl),trivial⟩ hq (fun s2 o2 hq hn2 he2=>?_)
 refine ifE hb 7 [56] [] hq ?_ ?_<;>intro hq _
 refine qh hb mixed 5 29 [] ?_
 refine idxE hb flV 3 hq fun x84 hx84 hq=>?_
 refine q6 hb 1 hq (gQ7b hb he x84) fun y85 _ hq=>?_
 refine ifE hb 2 [65,66] [] hq ?_ ?_<;>intro hq _
 refine idxE hb flV 3 hq fun x87 hx87 hq=>?_
 refine q6 hb 1 hq (gQ7b hb he x87) fun y88 _ hq=>?_
 refine ifE hb 3 [73,74,75] [] hq ?_ ?_<;>intro hq _
 refine idxE hb flV 3 hq fun x90 hx90 hq=>?_
 refine idxE hb flV 5 hq fun x91 hx91 hq=>?_
 refine ifE hb 6 [88,89] [] hq ?_ ?_<;>intro hq _
 exact retE hb 7 (he1 _ ((he2 _ (injO hq)).symm))
 exact q8 hb 8 [2,3,4,6,7,8] [] 3 (hn2 _ (injO hq)) ⟨(by kernel_rfl),(by kernel_rfl),(by kernel_rfl),trivial⟩
 exact q8 hb 24 [2,3,4,6,7,8] [] 3 (hn2 _ (injO hq)) ⟨(by kernel_rfl),(by kernel_rfl),(by kernel_rfl),trivial⟩
 exact q8 hb 33 [2,3,4,6,7,8] [] 3 (hn2 _ (injO hq)) ⟨(by kernel_rfl),(by kernel_rfl),(by kernel_rfl),trivial⟩
 exact q8 hb 8 [2,3,4,6,7] [] 3 (hn1 _ ((he2 _ (injO hq)).symm)) ⟨(by kernel_rfl),(by kernel_rfl),(by kernel_rfl),trivial⟩
 refine q6 hb 11 hq (gQ87 hb he ) fun y93 _ hq=>?_
 exact retE hb 3 (he1 _ (injO hq))
 refine q6 hb 19 hq (gQ7b hb he k_) fun y94 _ hq=>?_
 refine ifE hb 2 [31,32] [] hq ?_ ?_<;>intro hq _
 refine q6 hb 1 hq (gQ7b hb he v_) fun y96 _ hq=>?_
 refine cpE hb 10 [2,3,4,6,7] (s':=⟨none,[pk Tryz.f123 122],[(0,[pk Tryz.f123 31])],sl 116 [(2,pt 0),(3,pt 1),(4,pt 2),(6,c1 (vB (!y96))),(7,c1 (vi 0))],[bx (aV k_),bx (aV v_),bx zV]⟩) ?_
 refine qd hb 0 (gQ8d k_ v_) (fun s1=>sl 116 [(2,pt 0),(3,pt 1),(4,pt 2),(6,c1 (vB s1.1)),(7,c1 (vi s1.2))]) (fun s1=>[bx (aV k_),bx (aV v_),bx zV]) [2,3,4,6,7] [] 3 (s0:=((!y96),0)) ⟨(by kernel_rfl),(by kernel_rfl),(by kernel_rfl),trivial⟩ hq (fun s1 o1 hq hn1 he1=>?_)
 refine ifE hb 9 [41] [] hq ?_ ?_<;>intro hq _
 refine ifE hb 8 [6,44,45] [] hq ?_ ?_<;>intro hq _
 refine idxE hb flV 3 hq fun x99 hx99 hq=>?_
 refine q6 hb 1 hq (gQ7b hb he x99) fun y100 _ hq=>?_
 refine cpE hb 9 [2,3,4,6,7,8] (s':=⟨none,[pk Tryz.f123 15654],[(2,[]),(1,[pk Tryz.f123 979,pk Tryz.f123 122]),(0,[pk Tryz.f123 31])],sl 116 [(2,pt 0),(3,pt 1),(4,pt 2),(6,c1 (vB (!y100))),(7,c1 (vi s1.2)),(8,c1 (vi 0))],[bx (aV k_),bx (aV v_),bx zV]⟩) ?_
 refine qd hb 0 (gQ8e k_ s1 y100) (fun s2=>sl 116 [(2,pt 0),(3,pt 1),(4,pt 2),(6,c1 (vB (!y100))),(7,c1 (vi s1.2)),(8,c1 (vi s2))]) (fun s2=>[bx (aV k_),bx (aV v_),bx zV]) [2,3,4,6,7,8] [] 3 (s0:=0) ⟨(by kernel_rfl),(by kernel_rfl),(by kernel_rfl),trivial⟩ hq (fun s2 o2 hq hn2 he2=>?_)
 refine ifE hb 7 [56] [] hq ?_ ?_<;>intro hq _
 refine qh hb mixed 5 29 [] ?_
 refine idxE hb flV 3 hq fun x102 hx102 hq=>?_
 refine q6 hb 1 hq (gQ7b hb he x102) fun y103 _ hq=>?_
 refine ifE hb 2 [65,66] [] hq ?_ ?_<;>intro hq _
 refine idxE hb flV 3 hq fun x105 hx105 hq=>?_
 refine q6 hb 1 hq (gQ7b hb he x105) fun y106 _ hq=>?_
 refine ifE hb 3 [73,74,75] [] hq ?_ ?_<;>intro hq _
 refine idxE hb flV 3 hq fun x108 hx108 hq=>?_
 refine idxE hb flV 5 hq fun x109 hx109 hq=>?_
 refine ifE hb 6 [88,89] [] hq ?_ ?_<;>intro hq _
 exact retE hb 7 (he1 _ ((he2 _ (injO hq)).symm))
 exact q8 hb 8 [2,3,4,6,7,8] [] 3 (hn2 _ (injO hq)) ⟨(by kernel_rfl),(by kernel_rfl),(by kernel_rfl),trivial⟩
 exact q8 hb 24 [2,3,4,6,7,8] [] 3 (hn2 _ (injO hq)) ⟨(by kernel_rfl),(by kernel_rfl),(by kernel_rfl),trivial⟩
 exact q8 hb 33 [2,3,4,6,7,8] [] 3 (hn2 _ (injO hq)) ⟨(by kernel_rfl),(by kernel_rfl),(by kernel_rfl),trivial⟩
 exact q8 hb 8 [2,3,4,6,7] [] 3 (hn1 _ ((he2 _ (injO hq)).symm)) ⟨(by kernel_rfl),(by kernel_rfl),(by kernel_rfl),trivial⟩
 refine qd hb 15 (gQ8f k_ s1) (fun s2=>sl 116 [(2,pt 0),(3,pt 1),(4,pt 2),(6,c1 (vB false)),(7,c1 (vi s1.2)),(8,c1 (vi s2))]) (fun s2=>[bx (aV k_),bx (aV v_),bx zV]) [2,3,4,6,7,8] [] 3 (s0:=0) ⟨(by kernel_rfl),(by kernel_rfl),(by kernel_rfl),trivial⟩ hq (fun s2 o2 hq hn2 he2=>?_)
 refine ifE hb 7 [56] [] hq ?_ ?_<;>intro hq _
 refine qh hb mixed 5 29 [] ?_
 refine idxE hb flV 3 hq fun x112 hx112 hq=>?_
 refine q6 hb 1 hq (gQ7b hb he x112) fun y113 _ hq=>?_
 refine ifE hb 2 [65,66] [] hq ?_ ?_<;>intro hq _
 refine idxE hb flV 3 hq fun x115 hx115 hq=>?_
 refine q6 hb 1 hq (gQ7b hb he x115) fun y116 _ hq=>?_
 refine ifE hb 3 [73,74,75] [] hq ?_ ?_<;>intro hq _
 refine idxE hb flV 3 hq fun x118 hx118 hq=>?_
 refine idxE hb flV 5 hq fun x119 hx119 hq=>?_
 refine ifE hb 6 [88,89] [] hq ?_ ?_<;>intro hq _
 exact retE hb 7 (he1 _ ((he2 _ (injO hq)).symm))
 exact q8 hb 8 [2,3,4,6,7,8] [] 3 (hn2 _ (injO hq)) ⟨(by kernel_rfl),(by kernel_rfl),(by kernel_rfl),trivial⟩
 exact q8 hb 24 [2,3,4,6,7,8] [] 3 (hn2 _ (injO hq)) ⟨(by kernel_rfl),(by kernel_rfl),(by kernel_rfl),trivial⟩
 exact q8 hb 33 [2,3,4,6,7,8] [] 3 (hn2 _ (injO hq)) ⟨(by kernel_rfl),(by kernel_rfl),(by kernel_rfl),trivial⟩
 exact q8 hb 8 [2,3,4,6,7] [] 3 (hn1 _ ((he2 _ (injO hq)).symm)) ⟨(by kernel_rfl),(by kernel_rfl),(by kernel_rfl),trivial⟩
 refine ifE hb 8 [92] [] hq ?_ ?_<;>intro hq _
 refine q6 hb 3 hq (gQ87 hb he ) fun y122 _ hq=>?_
 exact retE hb 3 (he1 _ (injO hq))
 refine q19 hb 14 3 3 (cs:=[vi 5,vi 0,vS eS,vN,vN]) (c:=vN) (q5m flV) (by kernel_rfl) ?_
 refine q19 hb 0 3 4 (cs:=[vi 5,vi 0,vS eS,vL flV [],vN]) (c:=vN) (q5m flS) (by kernel_rfl) ?_
 refine qd hb 0 (gQ8g k_ v_) (fun s2b=>sl 116 [(2,pt 0),(3,pt 1),(4,pt 2),(9,pt 3),(10,c1 (vi s2b.2.2.2.2.2))]) (fun s2b=>[bx (aV k_),bx (aV v_),bx zV,bx [vi s2b.1,vi s2b.2.1,vS s2b.2.2.1,vL flV s2b.2.2.2.1,vL flS s2b.2.2.2.2.1]]) [2,3,4,9,10] [] 4 (s0:=(5,0,eS,[],[],0)) ⟨(by kernel_rfl),(by kernel_rfl),(by kernel_rfl),(by kernel_rfl),trivial⟩ hq (fun s2b o2 hq hn2 he2=>?_)
 refine ifE hb 9 [99] [] hq ?_ ?_<;>intro hq _
 refine qh hb mixed 4 12 [] ?_
 refine idxE hb flV 4 hq fun x124 hx124 hq=>?_
 refine idxE hb flV 5 hq fun x125 hx125 hq=>?_
 refine q6 hb 2 hq (gQ4o hb he (Val.mk s2b.1 s2b.2.1 s2b.2.2.1 s2b.2.2.2.1 s2b.2.2.2.2.1) x124.str x125) fun y126 _ hq=>?_
 exact q8 hb 8 [2,3,4,9,10] [] 4 (hn2 _ (injO hq)) ⟨(by kernel_rfl),(by kernel_rfl),(by kernel_rfl),(by kernel_rfl),trivial⟩
 exact retE hb 8 (he1 _ ((he2 _ (injO hq)).symm))
 refine qd hb 12 (gQ8h k_) (fun s1b=>sl 116 [(2,pt 0),(3,pt 1),(4,pt 2),(6,c1 (vB false)),(7,c1 (vi s1b))]) (fun s1b=>[bx (aV k_),bx (aV v_),bx zV]) [2,3,4,6,7] [] 3 (s0:=0) ⟨(by kernel_rfl),(by kernel_rfl),(by kernel_rfl),trivial⟩ hq (fun s1b o1 hq hn1 he1=>?_)
 refine ifE hb 9 [41] [] hq ?_ ?_<;>intro hq _
 refine cpE hb 23 [2,3,4,6,7,8] (s':=⟨none,[pk Tryz.f123 15654],[(2,[]),(1,[pk Tryz.f123 979,pk Tryz.f123 122]),(0,[pk Tryz.f123 31])],sl 116 [(2,pt 0),(3,pt 1),(4,pt 2),(6,c1 (vB false)),(7,c1 (vi s1b)),(8,c1 (vi 0))],[bx (aV k_),bx (aV v_),bx zV]⟩) ?_
 refine qd hb 0 (gQ8i k_ s1b) (fun s2=>sl 116 [(2,pt 0),(3,pt 1),(4,pt 2),(6,c1 (vB false)),(7,c1 (vi s1b)),(8,c1 (vi s2))]) (fun s2=>[bx (aV k_),bx (aV v_),bx zV]) [2,3,4,6,7,8] [] 3 (s0:=0) ⟨(by kernel_rfl),(by kernel_rfl),(by kernel_rfl),trivial⟩ hq (fun s2 o2 hq hn2 he2=>?_)
 refine ifE hb 7 [56] [] hq ?_ ?_<;>intro hq _
 refine qh hb mixed 5 29 [] ?_
 refine idxE hb flV 3 hq fun x129 hx129 hq=>?_
 refine q6 hb 1 hq (gQ7b hb he x129) fun y130 _ hq=>?_
 refine ifE hb 2 [65,66] [] hq ?_ ?_<;>intro hq _
 refine idxE hb flV 3 hq fun x132 hx132 hq=>?_
 refine q6 hb 1 hq (gQ7b hb he x132) fun y133 _ hq=>?_
 refine ifE hb 3 [73,74,75] [] hq ?_ ?_<;>intro hq _
 refine idxE hb flV 3 hq fun x135 hx135 hq=>?_
 refine idxE hb flV 5 hq fun x136 hx136 hq=>?_
 refine ifE hb 6 [88,89] [] hq ?_ ?_<;>intro hq _
 exact retE hb 7 (he1 _ ((he2 _ (injO hq)).symm))
 exact q8 hb 8 [2,3,4,6,7,8] [] 3 (hn2 _ (injO hq)) ⟨(by kernel_rfl),(by kernel_rfl),(by kernel_rfl),trivial⟩
 exact q8 hb 24 [2,3,4,6,7,8] [] 3 (hn2 _ (injO hq)) ⟨(by kernel_rfl),(by kernel_rfl),(by kernel_rfl),trivial⟩
 exact q8 hb 33 [2,3,4,6,7,8] [] 3 (hn2 _ (injO hq)) ⟨(by kernel_rfl),(by kernel_rfl),(by kernel_rfl),trivial⟩
 exact q8 hb 8 [2,3,4,6,7] [] 3 (hn1 _ ((he2 _ (injO hq)).symm)) ⟨(by kernel_rfl),(by kernel_rfl),(by kernel_rfl),trivial⟩
 refine q6 hb 11 hq (gQ87 hb he ) fun y138 _ hq=>?_
 exact retE hb 3 (he1 _ (injO hq))
def gQ4e (v_:Val) (key_:ByteArray) (s1:Int):Option ((Int)⊕(Val×Bool)) :=
 bif (decide (s1<(v_.keys.length:Int))) then bif (decide (s1<(v_.items.length:Int))) then (idx v_.keys s1).bind fun x4=>bif (decide (x4=key_)) then (idx v_.items s1).bind fun x6=>some (.inr (x6,true)) else some (.inl (IntKind.i64.wrap (s1+1))) else some (.inr ((Val.mk 0 0 eS [] []),false)) else some (.inr ((Val.mk 0 0 eS [] []),false))
def gQ4d  (v_:Val) (key_:ByteArray):Option (Val×Bool) :=
 bif (!decide (v_.kind=5)) then some ((Val.mk 0 0 eS [] []),false) else q7 (gQ4e v_ key_) 0
theorem gQ4f (hb:Base E E0 G) (he:∀w,E w->EnvV w)   (v_:Val) (key_:ByteArray):∀r_:Val×Bool,gQ4d v_ key_=some r_ ->
 Pure E E0 Tryz.prog 125 [.agg (aV v_),.cell (vS key_)] (.tup [.agg (aV r_.1),.cell (vB r_.2)]):=by
 refine fnE hb Tryz.func125 rfl fun r_ hq=>?_
 refine ifE hb 13 [9] [] hq ?_ ?_<;>intro hq _
 exact retE hb 7 (injO hq).symm
 refine qd hb 8 (gQ4e v_ key_) (fun s1=>sl 38 [(1,c1 (vS key_)),(2,pt 0),(4,pt 1),(6,c1 (vi s1))]) (fun s1=>[bx (aV v_),bx zV]) [1,2,4,6] [] 2 (s0:=0) ⟨(by kernel_rfl),(by kernel_rfl),trivial⟩ hq (fun s1 o1 hq hn1 he1=>?_)
 refine ifE hb 9 [15,16] [] hq ?_ ?_<;>intro hq _
 refine ifE hb 7 [21,22] [] hq ?_ ?_<;>intro hq _
 refine idxE hb flS 9 hq fun x4 hx4 hq=>?_
 refine ifE hb 4 [31] [] hq ?_ ?_<;>intro hq _
 refine idxE hb flV 6 hq fun x6 hx6 hq=>?_
 exact retE hb 4 (he1 _ (injO hq))
 exact q8 hb 8 [1,2,4,6] [] 2 (hn1 _ (injO hq)) ⟨(by kernel_rfl),(by kernel_rfl),trivial⟩
 exact retE hb 8 (he1 _ (injO hq))
 exact retE hb 15 (he1 _ (injO hq))
def gQ7m (x1:Val) (s1:Int×List Val):Option ((Int×List Val)⊕(Val×Int)) :=
 bif (decide (s1.1<(x1.keys.length:Int))) then (idx x1.keys s1.1).bind fun x4=>(gQ7q x4).bind fun y5=>(app 80 s1.2 [y5]).bind fun l6=>some (.inl ((IntKind.i64.wrap (s1.1+1)),l6)) else some (.inr ((Val.mk 4 0 eS s1.2 []),0))
def gQ7o (args_:List Val) (s1b:Int×Int×ByteArray×List Val×List ByteArray×Int) (s2:Int×Int×ByteArray×List Val×List ByteArray×Int):Option ((Int×Int×ByteArray×List Val×List ByteArray×Int)⊕((Int×Int×ByteArray×List Val×List ByteArray×Int)⊕(Val×Int))) :=
 (idx args_ s1b.2.2.2.2.2).bind fun x15=>bif (decide (s2.2.2.2.2.2<(x15.keys.length:Int))) then (idx args_ s1b.2.2.2.2.2).bind fun x17=>(idx x17.keys s2.2.2.2.2.2).bind fun x18=>(idx args_ s1b.2.2.2.2.2).bind fun x19=>(idx x19.items s2.2.2.2.2.2).bind fun x20=>(gQ4m (Val.mk s2.1 s2.2.1 s2.2.2.1 s2.2.2.2.1 s2.2.2.2.2.1) x18 x20).bind fun y21=>some (.inl (y21.kind,y21.num,y21.str,y21.items,y21.keys,(IntKind.i64.wrap (s2.2.2.2.2.2+1)))) else some (.inr (.inl (s2.1,s2.2.1,s2.2.2.1,s2.2.2.2.1,s2.2.2.2.2.1,(IntKind.i64.wrap (s1b.2.2.2.2.2+1)))))
def gQ7n (args_:List Val) (s1b:Int×Int×ByteArray×List Val×List ByteArray×Int):Option ((Int×Int×ByteArray×List Val×List ByteArray×Int)⊕(Val×Int)) :=
 bif (decide (s1b.2.2.2.2.2<(args_.length:Int))) then q7 (gQ7o args_ s1b) (s1b.1,s1b.2.1,s1b.2.2.1,s1b.2.2.2.1,s1b.2.2.2.2.1,0) else some (.inr ((Val.mk s1b.1 s1b.2.1 s1b.2.2.1 s1b.2.2.2.1 s1b.2.2.2.2.1),0))
def gQ7l  (name_:ByteArray) (args_:List Val):Option (Val×Int) :=
 (idx args_ 0).bind fun x1=>bif (decide (name_=⟨#[107,101,121,115]⟩)) then q7 (gQ7m x1) (0,[]) else bif (decide (name_=⟨#[118,97,108,117,101,115]⟩)) then (app 80 [] x1.items).bind fun l8=>(gQ6x l8).bind fun y9=>some (y9,0) else bif (decide (name_=⟨#[122,105,112,109,97,112]⟩)) then (idx args_ 1).bind fun x11=>(gQ88 x1 x11).bind fun y12=>some (y12.1,y12.2) else bif (decide (name_=⟨#[109,101,114,103,101]⟩)) then q7 (gQ7n args_) (5,0,eS,[],[],0) else (gQ7a x1).bind fun y22=>bif y22 then (gQ86).bind fun y24=>some (y24,0) else (idx args_ 1).bind fun x25=>(gQ7a x25).bind fun y26=>bif y26 then (gQ86).bind fun y28=>some (y28,0) else (idx args_ 1).bind fun x29=>(gQ4d x1 x29.str).bind fun y30=>bif y30.2 then some (y30.1,0) else bif (decide ((args_.length:Int)=3)) then (idx args_ 2).bind fun x33=>some (x33,0) else some ((Val.mk 0 0 eS [] []),16)
theorem gQ7p (hb:Base E E0 G) (he:∀w,E w->EnvV w)   (name_:ByteArray) (args_:List Val):∀r_:Val×Int,gQ7l name_ args_=some r_ ->
 Pure E E0 Tryz.prog 67 [.cell (vS name_),.cell (vL flV args_)] (.tup [.agg (aV r_.1),.cell (vi r_.2)]):=by
 refine fnE hb Tryz.func67 rfl fun r_ hq=>?_
 refine idxE hb flV 8 hq fun x1 hx1 hq=>?_
 refine ifE hb 15 [19,20] [] hq ?_ ?_<;>intro hq _
 refine q3j hb 13 2 3 5 (cs:=[vi 4,vi 0,vS eS,vN,vN]) (by kernel_rfl) ?_
 refine qd hb 0 (gQ7m x1) (fun s1=>sl 123 [(4,pt 0),(6,pt 1),(7,pt 2),(8,c1 (vi s1.1))]) (fun s1=>[bx zV,bx (aV x1),bx [vi 4,vi 0,vS eS,vO flV 3 s1.2,vN],some (arO true flV.sz 0 (flV.f s1.2))]) [4,6,7,8] [] 4 (s0:=(0,[])) ⟨(by kernel_rfl),(by kernel_rfl),(by kernel_rfl),(qa _ _ _ _ _),trivial⟩ hq (fun s1 o1 hq hn1 he1=>?_)
 refine ifE hb 9 [26] [] hq ?_ ?_<;>intro hq _
 refine qh hb mixed 4 9 [] ?_
 refine idxE hb flS 5 hq fun x4 hx4 hq=>?_
 refine q6 hb 1 hq (gQ7r hb he x4) fun y5 _ hq=>?_
 refine qi flV hb 2 3 true 0 (flV.one y5) hq fun l6 hl6 hq=>?_
 exact q8 hb 9 [4,6,7,8] [] 4 (hn1 _ (injO hq)) ⟨(by kernel_rfl),(by kernel_rfl),(by kernel_rfl),(qa _ _ _ _ _),trivial⟩
 refine qw hb 8 3 true (sz:=flV.sz) (fr:=0) (cs:=flV.f s1.2) (by kernel_rfl) (Nat.zero_le _) ?_
 refine q19 hb 0 0 3 (cs:=[vi 4,vi 0,vS eS,vO flV 3 s1.2,vN]) (c:=vO flV 3 s1.2) (q1g flV (nb:=true) (id:=3) (xs:=s1.2) (by kernel_rfl)) (by kernel_rfl) ?_
 exact retE hb 0 (he1 _ (injO hq))
 refine ifE hb 6 [41,42] [] hq ?_ ?_<;>intro hq _
 refine q2f hb 6 9 5 ?_
 refine qi flV hb 4 2 true 0 rfl hq fun l8 hl8 hq=>?_
 refine qw hb 3 2 true (sz:=flV.sz) (fr:=0) (cs:=flV.f l8) (by kernel_rfl) (Nat.zero_le _) ?_
 refine q3b hb 2 (vs:=[.cell (vO flV 2 l8)]) hq (q1i (q2j (q29 flV (b:=true) (id:=2) (fr:=(flV.f l8).length) (xs:=l8) (by kernel_rfl))) rfl) (q2r (q38 (q39 flV (nb:=true) (id:=2) (xs:=l8) (by kernel_rfl))) rfl) (gQ6y hb he l8) fun y9 _ hq=>?_
 exact retE hb 3 (injO hq).symm
 refine ifE hb 6 [49,50] [] hq ?_ ?_<;>intro hq _
 refine qh hb mixed 2 6 [5] ?_
 refine idxE hb flV 2 hq fun x11 hx11 hq=>?_
 refine q6 hb 1 hq (gQ8r hb he x1 x11) fun y12 _ hq=>?_
 exact retE hb 6 (injO hq).symm
 refine ifE hb 6 [58,59] [] hq ?_ ?_<;>intro hq _
 refine cpE hb 13 [1,4,10,11] (s':=⟨none,[pk Tryz.f67 241642],[(3,[pk Tryz.f67 60411]),(0,[pk Tryz.f67 15])],sl 123 [(1,c1 (vL flV args_)),(4,pt 0),(10,pt 2),(11,c1 (vi 0))],[bx zV,bx (aV x1),bx [vi 5,vi 0,vS eS,vN,vN]]⟩) ?_
 refine q19 hb 0 2 3 (cs:=[vi 5,vi 0,vS eS,vN,vN]) (c:=vN) (q5m flV) (by kernel_rfl) ?_
 refine q19 hb 0 2 4 (cs:=[vi 5,vi 0,vS eS,vL flV [],vN]) (c:=vN) (q5m flS) (by kernel_rfl) ?_
 refine qd hb 0 (gQ7n args_) (fun s1b=>sl 123 [(1,c1 (vL flV args_)),(4,pt 0),(10,pt 2),(11,c1 (vi s1b.2.2.2.2.2))]) (fun s1b=>[bx zV,none,bx [vi s1b.1,vi s1b.2.1,vS s1b.2.2.1,vL flV s1b.2.2.2.1,vL flS s1b.2.2.2.2.1]]) [1,4,10,11] [1] 3 (s0:=(5,0,eS,[],[],0)) ⟨(by kernel_rfl),rfl,(by kernel_rfl),trivial⟩ hq (fun s1b o1 hq hn1 he1=>?_)
 refine ifE hb 8 [64] [] hq ?_ ?_<;>intro hq _
 refine qd hb 9 (gQ7o args_ s1b) (fun s2=>sl 123 [(1,c1 (vL flV args_)),(4,pt 0),(10,pt 2),(11,c1 (vi s1b.2.2.2.2.2)),(12,c1 (vi s2.2.2.2.2.2))]) (fun s2=>[bx zV,none,bx [vi s2.1,vi s2.2.1,vS s2.2.2.1,vL flV s2.2.2.2.1,vL flS s2.2.2.2.2.1]]) [1,4,10,11,12] [] 3 (s0:=(s1b.1,s1b.2.1,s1b.2.2.1,s1b.2.2.2.1,s1b.2.2.2.2.1,0)) ⟨(by kernel_rfl),rfl,(by kernel_rfl),trivial⟩ hq (fun s2 o2 hq hn2 he2=>?_)
 refine idxE hb flV 6 hq fun x15 hx15 hq=>?_
 refine ifE hb 5 [74] [] hq ?_ ?_<;>intro hq _
 refine qh hb mixed 4 17 [] ?_
 refine idxE hb flV 3 hq fun x17 hx17 hq=>?_
 refine idxE hb flS 3 hq fun x18 hx18 hq=>?_
 refine idxE hb flV 3 hq fun x19 hx19 hq=>?_
 refine idxE hb flV 3 hq fun x20 hx20 hq=>?_
 refine q6 hb 2 hq (gQ4o hb he (Val.mk s2.1 s2.2.1 s2.2.2.1 s2.2.2.2.1 s2.2.2.2.2.1) x18 x20) fun y21 _ hq=>?_
 exact q8 hb 8 [1,4,10,11,12] [] 3 (hn2 _ (injO hq)) ⟨(by kernel_rfl),rfl,(by kernel_rfl),trivial⟩
 exact q8 hb 8 [1,4,10,11] [] 3 (hn1 _ ((he2 _ (injO hq)).symm)) ⟨(by kernel_rfl),rfl,(by kernel_rfl),trivial⟩
 exact retE hb 8 (he1 _ (injO hq))
 refine q6 hb 7 hq (gQ7b hb he x1) fun y22 _ hq=>?_
 refine ifE hb 1 [97,98] [] hq ?_ ?_<;>intro hq _
 refine q6 hb 9 hq (gQ87 hb he ) fun y24 _ hq=>?_
 exact retE hb 3 (injO hq).symm
 refine idxE hb flV 1 hq fun x25 hx25 hq=>?_
 refine q6 hb 1 hq (gQ7b hb he x25) fun y26 _ hq=>?_
 refine ifE hb 2 [102,103] [] hq ?_ ?_<;>intro hq _
 refine q6 hb 3 hq (gQ87 hb he ) fun y28 _ hq=>?_
 exact retE hb 3 (injO hq).symm
 refine qh hb mixed 3 10 [8] ?_
 refine idxE hb flV 2 hq fun x29 hx29 hq=>?_
 refine q6 hb 2 hq (gQ4f hb he x1 x29.str) fun y30 _ hq=>?_
 refine ifE hb 13 [14,113,114] [] hq ?_ ?_<;>intro hq _
 exact retE hb 7 (injO hq).symm
 refine ifE hb 9 [118] [] hq ?_ ?_<;>intro hq _
 refine idxE hb flV 4 hq fun x33 hx33 hq=>?_
 exact retE hb 4 (injO hq).symm
 exact retE hb 8 (injO hq).symm
def gQ6v  (v_:Val):Option (Val) :=
 bif (decide (v_.kind=3)) then (qeq v_.str).bind fun y2=>(gQ73 y2).bind fun y3=>some (y3) else (gQ73 (v_.items.length:Int)).bind fun y4=>some (y4)
theorem gQ6w (hb:Base E E0 G) (he:∀w,E w->EnvV w)   (v_:Val):∀r_:Val,gQ6v v_=some r_ ->
 Pure E E0 Tryz.prog 68 [.agg (aV v_)] (.one (.agg (aV r_))):=by
 refine fnE hb Tryz.func68 rfl fun r_ hq=>?_
 refine ifE hb 12 [5] [] hq ?_ ?_<;>intro hq _
 refine q6 hb 5 hq (qxb hb he v_.str) fun y2 _ hq=>?_
 refine q6 hb 0 hq (gQ74 hb he y2) fun y3 _ hq=>?_
 exact retE hb 2 (injO hq).symm
 refine q6 hb 7 hq (gQ74 hb he (v_.items.length:Int)) fun y4 _ hq=>?_
 exact retE hb 2 (injO hq).symm
def gQ4s (l_:List ByteArray) (s_:ByteArray) (s1:Int):Option ((Int)⊕(Bool)) :=
 bif (decide (s1<(l_.length:Int))) then (idx l_ s1).bind fun x2=>bif (decide (x2=s_)) then some (.inr (true)) else some (.inl (IntKind.i64.wrap (s1+1))) else some (.inr (false))
def gQ4r  (l_:List ByteArray) (s_:ByteArray):Option (Bool) :=
 q7 (gQ4s l_ s_) 0
theorem gQ4t (hb:Base E E0 G) (he:∀w,E w->EnvV w)   (l_:List ByteArray) (s_:ByteArray):∀r_:Bool,gQ4r l_ s_=some r_ ->
 Pure E E0 Tryz.prog 209 [.cell (vL flS l_),.cell (vS s_)] (c1 (vB r_)):=by
 refine fnE hb Tryz.func209 rfl fun r_ hq=>?_
 refine qd hb 10 (gQ4s l_ s_) (fun s1=>sl 18 [(0,c1 (vL flS l_)),(1,c1 (vS s_)),(5,c1 (vi s1))]) (fun s1=>[]) [0,1,5] [] 0 (s0:=0) trivial hq (fun s1 o1 hq hn1 he1=>?_)
 refine ifE hb 8 [9] [] hq ?_ ?_<;>intro hq _
 refine idxE hb flS 8 hq fun x2 hx2 hq=>?_
 refine ifE hb 4 [17] [] hq ?_ ?_<;>intro hq _
 exact retE hb 5 (he1 _ (injO hq))
 exact q8 hb 8 [0,1,5] [] 0 (hn1 _ (injO hq)) trivial
 exact retE hb 6 (he1 _ (injO hq))
def gQ55  (v_:Val):Option (ByteArray) :=
 bif (decide (v_.kind=2)) then (q71 v_.num).bind fun y2=>some (y2) else bif (decide (v_.num=1)) then some ⟨#[116,114,117,101]⟩ else some ⟨#[102,97,108,115,101]⟩
theorem gQ56 (hb:Base E E0 G) (he:∀w,E w->EnvV w)   (v_:Val):∀r_:ByteArray,gQ55 v_=some r_ ->
 Pure E E0 Tryz.prog 211 [.agg (aV v_)] (c1 (vS r_)):=by
 refine fnE hb Tryz.func211 rfl fun r_ hq=>?_
 refine ifE hb 12 [5] [] hq ?_ ?_<;>intro hq _
 refine q6 hb 5 hq (qw9 hb he v_.num) fun y2 _ hq=>?_
 exact retE hb 2 (injO hq).symm
 refine ifE hb 9 [11] [] hq ?_ ?_<;>intro hq _
 exact retE hb 5 (injO hq).symm
 exact retE hb 6 (injO hq).symm
def gQ4y  (v_:Val) (k_:Int):Option (Val×Int) :=
 bif (decide (k_=1)) then bif (decide (v_.kind=1)) then some (v_,0) else bif (decide (v_.kind=3)) then bif (decide (v_.str=⟨#[116,114,117,101]⟩)) then some ((Val.mk 1 1 eS [] []),0) else bif (decide (v_.str=⟨#[102,97,108,115,101]⟩)) then some ((Val.mk 1 0 eS [] []),0) else some ((Val.mk 0 0 eS [] []),6) else some ((Val.mk 0 0 eS [] []),6) else bif (decide (k_=2)) then bif (decide (v_.kind=2)) then some (v_,0) else (q72 v_.str).bind fun y8=>bif (decide (v_.kind=3)) then bif (decide (y8.2=0)) then some ((Val.mk 2 y8.1 eS [] []),0) else some ((Val.mk 0 0 eS [] []),6) else some ((Val.mk 0 0 eS [] []),6) else bif (decide (v_.kind=3)) then some (v_,0) else bif (decide (v_.kind=2)) then (gQ55 v_).bind fun y13=>some ((Val.mk 3 0 y13 [] []),0) else bif (decide (v_.kind=1)) then (gQ55 v_).bind fun y15=>some ((Val.mk 3 0 y15 [] []),0) else some ((Val.mk 0 0 eS [] []),6)
theorem gQ4z (hb:Base E E0 G) (he:∀w,E w->EnvV w)   (v_:Val) (k_:Int):∀r_:Val×Int,gQ4y v_ k_=some r_ ->
 Pure E E0 Tryz.prog 168 [.agg (aV v_),.cell (vi k_)] (.tup [.agg (aV r_.1),.cell (vi r_.2)]):=by
 refine fnE hb Tryz.func168 rfl fun r_ hq=>?_
 refine ifE hb 17 [25,26] [] hq ?_ ?_<;>intro hq _
 refine ifE hb 8 [29] [] hq ?_ ?_<;>intro hq _
 exact retE hb 7 (injO hq).symm
 refine ifE hb 8 [33,34] [] hq ?_ ?_<;>intro hq _
 refine ifE hb 4 [37,38] [] hq (fun hq hc4=>?_) (fun hq hc4=>?_)
 refine knE hb 20 [47] [] (b:=(decide (v_.str=⟨#[116,114,117,101]⟩))) (v:=true) hc4 ?_
 exact retE hb 11 (injO hq).symm
 refine ifE hb 6 [41,42,43] [] hq ?_ ?_<;>intro hq _
 refine knE hb 14 [47] [] (b:=(decide (v_.str=⟨#[116,114,117,101]⟩))) (v:=false) hc4 ?_
 exact retE hb 8 (injO hq).symm
 exact retE hb 9 (injO hq).symm
 exact retE hb 19 (injO hq).symm
 refine ifE hb 6 [50,51] [] hq ?_ ?_<;>intro hq _
 refine ifE hb 8 [54] [] hq ?_ ?_<;>intro hq _
 exact retE hb 7 (injO hq).symm
 refine q6 hb 6 hq (qwa hb he v_.str) fun y8 _ hq=>?_
 refine ifE hb 12 [64,65] [] hq ?_ ?_<;>intro hq _
 refine ifE hb 4 [67,68] [] hq ?_ ?_<;>intro hq _
 exact retE hb 8 (injO hq).symm
 exact retE hb 9 (injO hq).symm
 exact retE hb 13 (injO hq).symm
 refine ifE hb 8 [12] [] hq ?_ ?_<;>intro hq _
 exact retE hb 7 (injO hq).symm
 refine ifE hb 8 [16,17] [] hq ?_ ?_<;>intro hq _
 refine q6 hb 9 hq (gQ56 hb he v_) fun y13 _ hq=>?_
 exact retE hb 4 (injO hq).symm
 refine ifE hb 5 [20,21] [] hq ?_ ?_<;>intro hq _
 refine q6 hb 4 hq (gQ56 hb he v_) fun y15 _ hq=>?_
 exact retE hb 4 (injO hq).symm
 exact retE hb 9 (injO hq).symm
def gQ4w (r_r11_to:Val->Ty->Option (Val×Int)) (v_:Val) (t_:Ty) (s2:Int×List Val×List ByteArray):Option ((Int×List Val×List ByteArray)⊕((Int)⊕(Val×Int))) :=
 bif (decide (s2.1<(t_.names.length:Int))) then bif (decide (s2.1<(t_.elems.length:Int))) then (idx t_.names s2.1).bind fun x7=>(gQ4d v_ x7).bind fun y8=>(idx t_.elems s2.1).bind fun x9=>(r_r11_to y8.1 x9).bind fun y10=>bif (!decide (y10.2=0)) then some (.inr (.inr ((Val.mk 0 0 eS [] []),y10.2))) else (idx t_.names s2.1).bind fun x12=>(app 16 s2.2.2 [x12]).bind fun l13=>(app 80 s2.2.1 [y10.1]).bind fun l14=>some (.inl ((IntKind.i64.wrap (s2.1+1)),l14,l13)) else some (.inr (.inr ((Val.mk 5 0 eS s2.2.1 s2.2.2),0))) else some (.inr (.inr ((Val.mk 5 0 eS s2.2.1 s2.2.2),0)))
def gQ4v (r_r11_to:Val->Ty->Option (Val×Int)) (v_:Val) (t_:Ty) (s1:Int):Option ((Int)⊕(Val×Int)) :=
 bif (decide (s1<(v_.keys.length:Int))) then (idx v_.keys s1).bind fun x2=>(gQ4r t_.names x2).bind fun y3=>bif (!y3) then some (.inr ((Val.mk 0 0 eS [] []),13)) else some (.inl (IntKind.i64.wrap (s1+1))) else q7 (gQ4w r_r11_to v_ t_) (0,[],[])
def gQ4u (r_r11_to:Val->Ty->Option (Val×Int)) (v_:Val) (t_:Ty):Option (Val×Int) :=
 q7 (gQ4v r_r11_to v_ t_) 0
theorem gQ4x (hb:Base E E0 G) (he:∀w,E w->EnvV w) (r_r11_to:Val->Ty->Option (Val×Int)) (hr_r11_to:∀(a0:Val) (a1:Ty) (r:Val×Int),r_r11_to a0 a1=some r->Pure E E0 Tryz.prog 127 [.agg (aV a0),.agg (aT a1)] (.tup [.agg (aV r.1),.cell (vi r.2)])) (v_:Val) (t_:Ty):∀r_:Val×Int,gQ4u r_r11_to v_ t_=some r_ ->
 Pure E E0 Tryz.prog 167 [.agg (aV v_),.agg (aT t_)] (.tup [.agg (aV r_.1),.cell (vi r_.2)]):=by
 refine fnE hb Tryz.func167 rfl fun r_ hq=>?_
 refine qd hb 13 (gQ4v r_r11_to v_ t_) (fun s1=>sl 86 [(2,pt 0),(3,pt 1),(4,pt 2),(6,c1 (vi s1))]) (fun s1=>[bx (aV v_),bx (aT t_),bx zV]) [2,3,4,6] [] 3 (s0:=0) ⟨(by kernel_rfl),(by kernel_rfl),(by kernel_rfl),trivial⟩ hq (fun s1 o1 hq hn1 he1=>?_)
 refine ifE hb 9 [17] [] hq ?_ ?_<;>intro hq _
 refine qh hb mixed 5 7 [] ?_
 refine idxE hb flS 5 hq fun x2 hx2 hq=>?_
 refine q6 hb 2 hq (gQ4t hb he t_.names x2) fun y3 _ hq=>?_
 refine ifE hb 2 [28] [] hq ?_ ?_<;>intro hq _
 exact retE hb 7 (he1 _ (injO hq))
 exact q8 hb 8 [2,3,4,6] [] 3 (hn1 _ (injO hq)) ⟨(by kernel_rfl),(by kernel_rfl),(by kernel_rfl),trivial⟩
 refine q3j hb 14 3 3 5 (cs:=[vi 5,vi 0,vS eS,vN,vN]) (by kernel_rfl) ?_
 refine q3j hb 0 3 4 1 (cs:=[vi 5,vi 0,vS eS,vO flV 4 [],vN]) (by kernel_rfl) ?_
 refine qd hb 0 (gQ4w r_r11_to v_ t_) (fun s2=>sl 86 [(2,pt 0),(3,pt 1),(4,pt 2),(7,pt 3),(8,c1 (vi s2.1))]) (fun s2=>[bx (aV v_),bx (aT t_),bx zV,bx [vi 5,vi 0,vS eS,vO flV 4 s2.2.1,vO flS 5 s2.2.2],some (arO true flV.sz 0 (flV.f s2.2.1)),some (arO true flS.sz 0 (flS.f s2.2.2))]) [2,3,4,7,8] [] 6 (s0:=(0,[],[])) ⟨(by kernel_rfl),(by kernel_rfl),(by kernel_rfl),(by kernel_rfl),(qa _ _ _ _ _),(qa _ _ _ _ _),trivial⟩ hq (fun s2 o2 hq hn2 he2=>?_)
 refine ifE hb 9 [35,36] [] hq ?_ ?_<;>intro hq _
 refine ifE hb 7 [41,42] [] hq ?_ ?_<;>intro hq _
 refine qh hb mixed 5 11 [9] ?_
 refine idxE hb flS 4 hq fun x7 hx7 hq=>?_
 refine q6 hb 1 hq (gQ4f hb he v_ x7) fun y8 _ hq=>?_
 refine qh hb mixed 9 11 [9] ?_
 refine idxE hb flT 4 hq fun x9 hx9 hq=>?_
 refine q6 hb 1 hq (hr_r11_to y8.1 x9) fun y10 _ hq=>?_
 refine ifE hb 14 [66] [] hq ?_ ?_<;>intro hq _
 exact retE hb 8 (he1 _ ((he2 _ (injO hq)).symm))
 refine qh hb mixed 3 8 [] ?_
 refine idxE hb flS 5 hq fun x12 hx12 hq=>?_
 refine qi flS hb 3 5 true 0 (flS.one x12) hq fun l13 hl13 hq=>?_
 refine qi flV hb 8 4 true 0 (flV.one y10.1) hq fun l14 hl14 hq=>?_
 exact q8 hb 9 [2,3,4,7,8] [] 6 (hn2 _ (injO hq)) ⟨(by kernel_rfl),(by kernel_rfl),(by kernel_rfl),(by kernel_rfl),(qa _ _ _ _ _),(qa _ _ _ _ _),trivial⟩
 refine qw hb 8 4 true (sz:=flV.sz) (fr:=0) (cs:=flV.f s2.2.1) (by kernel_rfl) (Nat.zero_le _) ?_
 refine q19 hb 0 2 3 (cs:=[vi 5,vi 0,vS eS,vO flV 4 s2.2.1,vO flS 5 s2.2.2]) (c:=vO flV 4 s2.2.1) (q1g flV (nb:=true) (id:=4) (xs:=s2.2.1) (by kernel_rfl)) (by kernel_rfl) ?_
 refine qw hb 0 5 true (sz:=flS.sz) (fr:=0) (cs:=flS.f s2.2.2) (by kernel_rfl) (Nat.zero_le _) ?_
 refine q19 hb 0 2 4 (cs:=[vi 5,vi 0,vS eS,vL flV s2.2.1,vO flS 5 s2.2.2]) (c:=vO flS 5 s2.2.2) (q1g flS (nb:=true) (id:=5) (xs:=s2.2.2) (by kernel_rfl)) (by kernel_rfl) ?_
 exact retE hb 0 (he1 _ ((he2 _ (injO hq)).symm))
 refine qw hb 15 4 true (sz:=flV.sz) (fr:=0) (cs:=flV.f s2.2.1) (by kernel_rfl) (Nat.zero_le _) ?_
 refine q19 hb 0 2 3 (cs:=[vi 5,vi 0,vS eS,vO flV 4 s2.2.1,vO flS 5 s2.2.2]) (c:=vO flV 4 s2.2.1) (q1g flV (nb:=true) (id:=4) (xs:=s2.2.1) (by kernel_rfl)) (by kernel_rfl) ?_
 refine qw hb 0 5 true (sz:=flS.sz) (fr:=0) (cs:=flS.f s2.2.2) (by kernel_rfl) (Nat.zero_le _) ?_
 refine q19 hb 0 2 4 (cs:=[vi 5,vi 0,vS eS,vL flV s2.2.1,vO flS 5 s2.2.2]) (c:=vO flS 5 s2.2.2) (q1g flS (nb:=true) (id:=5) (xs:=s2.2.2) (by kernel_rfl)) (by kernel_rfl) ?_
 exact retE hb 0 (he1 _ ((he2 _ (injO hq)).symm))
end Abs
end Go.Proofs.YtagadjpmkggjdaaGreatDoor
end
