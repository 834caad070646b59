import Derived.Test.YtagadjpmkggjdaaGreatDoorFnB
import Derived.Test.YtagadjpmkggjdaaGreatDoorAbsN
noncomputable section
namespace Go.Proofs.YtagadjpmkggjdaaGreatDoor
namespace Abs
open Go.RowKit
variable {E:World->Prop} {E0:Nat} {G:Nat->Option (List PV)}
set_option maxRecDepth 100000
set_option linter.unusedVariables false
set_option linter.unusedSimpArgs false
attribute [local irreducible] adv J KE KO mPut mSto q6d mFrm qbo hedS unl Pure Ok sl q7 awpL awp asq asqD asqX asqF
def gQ51 (r_r11_to:Val->Ty->Option (Val×Int)) (v_:Val) (t_:Ty) (s1:Int×List Val):Option ((Int×List Val)⊕(Val×Int)) :=
 bif (decide (s1.1<(v_.items.length:Int))) then (idx v_.items s1.1).bind fun x13=>(idx t_.elems 0).bind fun x14=>(r_r11_to x13 x14).bind fun y15=>bif (!decide (y15.2=0)) then some (.inr ((Val.mk 0 0 eS [] []),y15.2)) else (app 80 s1.2 [y15.1]).bind fun l17=>some (.inl ((IntKind.i64.wrap (s1.1+1)),l17)) else some (.inr ((Val.mk v_.kind 0 eS s1.2 v_.keys),0))
def gQ52 (r_r11_to:Val->Ty->Option (Val×Int)) (v_:Val) (t_:Ty) (s1:Int×List Val):Option ((Int×List Val)⊕(Val×Int)) :=
 bif (decide (s1.1<(v_.items.length:Int))) then (idx v_.items s1.1).bind fun x23=>(idx t_.elems 0).bind fun x24=>(r_r11_to x23 x24).bind fun y25=>bif (!decide (y25.2=0)) then some (.inr ((Val.mk 0 0 eS [] []),y25.2)) else (app 80 s1.2 [y25.1]).bind fun l27=>some (.inl ((IntKind.i64.wrap (s1.1+1)),l27)) else some (.inr ((Val.mk v_.kind 0 eS s1.2 v_.keys),0))
def gQ53 (r_r11_to:Val->Ty->Option (Val×Int)) (v_:Val) (t_:Ty) (s1:Int×List Val):Option ((Int×List Val)⊕(Val×Int)) :=
 bif (decide (s1.1<(v_.items.length:Int))) then (idx v_.items s1.1).bind fun x30=>(idx t_.elems 0).bind fun x31=>(r_r11_to x30 x31).bind fun y32=>bif (!decide (y32.2=0)) then some (.inr ((Val.mk 0 0 eS [] []),y32.2)) else (app 80 s1.2 [y32.1]).bind fun l34=>some (.inl ((IntKind.i64.wrap (s1.1+1)),l34)) else some (.inr ((Val.mk v_.kind 0 eS s1.2 v_.keys),0))
def gQ50 (r_r11_object:Val->Ty->Option (Val×Int)) (r_r11_to:Val->Ty->Option (Val×Int)) (v_:Val) (t_:Ty):Option (Val×Int) :=
 bif (decide (t_.kind=0)) then some (v_,0) else bif (decide (v_.kind=0)) then some (v_,0) else bif (decide (v_.kind=6)) then some (v_,0) else bif (decide (t_.kind=6)) then bif (!decide (v_.kind=5)) then some ((Val.mk 0 0 eS [] []),6) else (r_r11_object v_ t_).bind fun y6=>some (y6.1,y6.2) else bif (!decide (t_.kind=4)) then bif (!decide (t_.kind=5)) then (gQ4y v_ t_.kind).bind fun y9=>some (y9.1,y9.2) else bif (!decide (v_.kind=5)) then some ((Val.mk 0 0 eS [] []),6) else bif (!decide ((t_.elems.length:Int)=1)) then some ((Val.mk 0 0 eS [] []),6) else q7 (gQ51 r_r11_to v_ t_) (0,[]) else bif (!decide (v_.kind=4)) then some ((Val.mk 0 0 eS [] []),6) else bif (decide (t_.kind=5)) then bif (!decide (v_.kind=5)) then some ((Val.mk 0 0 eS [] []),6) else bif (!decide ((t_.elems.length:Int)=1)) then some ((Val.mk 0 0 eS [] []),6) else q7 (gQ52 r_r11_to v_ t_) (0,[]) else bif (!decide ((t_.elems.length:Int)=1)) then some ((Val.mk 0 0 eS [] []),6) else q7 (gQ53 r_r11_to v_ t_) (0,[])
theorem gQ54 (hb:Base E E0 G) (he:∀w,E w->EnvV w) (r_r11_object:Val->Ty->Option (Val×Int)) (r_r11_to:Val->Ty->Option (Val×Int)) (hr_r11_object:∀(a0:Val) (a1:Ty) (r:Val×Int),r_r11_object a0 a1=some r->Pure E E0 Tryz.prog 167 [.agg (aV a0),.agg (aT a1)] (.tup [.agg (aV r.1),.cell (vi r.2)])) (hr_r11_to:∀(a0:Val) (a1:Ty) (r:Val×Int),r_r11_to a0 a1=some r->Pure E E0 Tryz.prog 127 [.agg (aV a0),.agg (aT a1)] (.tup [.agg (aV r.1),.cell (vi r.2)])) (v_:Val) (t_:Ty):∀r_:Val×Int,gQ50 r_r11_object r_r11_to v_ t_=some r_ ->
 Pure E E0 Tryz.prog 127 [.agg (aV v_),.agg (aT t_)] (.tup [.agg (aV r_.1),.cell (vi r_.2)]):=by
 refine fnE hb Tryz.func127 rfl fun r_ hq=>?_
 refine ifE hb 14 [12,13] [] hq ?_ ?_<;>intro hq _
 exact retE hb 17 (injO hq).symm
 refine ifE hb 5 [16,17,18] [] hq ?_ ?_<;>intro hq _
 exact retE hb 12 (injO hq).symm
 refine ifE hb 5 [21,22] [] hq ?_ ?_<;>intro hq _
 exact retE hb 7 (injO hq).symm
 refine ifE hb 9 [26] [] hq ?_ ?_<;>intro hq _
 refine ifE hb 8 [29] [] hq ?_ ?_<;>intro hq _
 exact retE hb 7 (injO hq).symm
 refine q6 hb 6 hq (hr_r11_object v_ t_) fun y6 _ hq=>?_
 exact retE hb 5 (injO hq).symm
 refine ifE hb 9 [38,39] [] hq (fun hq hc7=>?_) (fun hq hc7=>?_)
 refine ifE hb 5 [42,43] [] hq (fun hq _=>?_) (fun hq hc8=>?_)
 refine q6 hb 6 hq (gQ4z hb he v_ t_.kind) fun y9 _ hq=>?_
 exact retE hb 5 (injO hq).symm
 refine knE hb 9 [52,53] [] (b:=(decide (t_.kind=4))) (v:=false) (not_t hc7) ?_
 refine knE hb 9 [61,62] [] (b:=(decide (t_.kind=5))) (v:=true) (not_f hc8) ?_
 refine ifE hb 6 [65,66,67,68] [] hq ?_ ?_<;>intro hq _
 exact retE hb 13 (injO hq).symm
 refine ifE hb 6 [72,73] [] hq ?_ ?_<;>intro hq _
 exact retE hb 7 (injO hq).symm
 refine cpE hb 18 [2,3,4,6,7] (s':=⟨none,[pk Tryz.f127 1018],[(0,[pk Tryz.f127 255])],sl 111 [(2,pt 0),(3,pt 1),(4,pt 2),(6,pt 3),(7,c1 (vi 0))],[bx (aV v_),bx (aT t_),bx zV,bx [vi v_.kind,vi 0,vS eS,vN,vL flS v_.keys]]⟩) ?_
 refine q3j hb 0 3 3 5 (cs:=[vi v_.kind,vi 0,vS eS,vN,vL flS v_.keys]) (by kernel_rfl) ?_
 refine qd hb 0 (gQ51 r_r11_to v_ t_) (fun s1=>sl 111 [(2,pt 0),(3,pt 1),(4,pt 2),(6,pt 3),(7,c1 (vi s1.1))]) (fun s1=>[bx (aV v_),bx (aT t_),bx zV,bx [vi v_.kind,vi 0,vS eS,vO flV 4 s1.2,vL flS v_.keys],some (arO true flV.sz 0 (flV.f s1.2))]) [2,3,4,6,7] [] 5 (s0:=(0,[])) ⟨(by kernel_rfl),(by kernel_rfl),(by kernel_rfl),(by kernel_rfl),(qa _ _ _ _ _),trivial⟩ hq (fun s1 o1 hq hn1 he1=>?_)
 refine ifE hb 9 [84] [] hq ?_ ?_<;>intro hq _
 refine qh hb mixed 5 14 [12] ?_
 refine idxE hb flV 3 hq fun x13 hx13 hq=>?_
 refine idxE hb flT 3 hq fun x14 hx14 hq=>?_
 refine q6 hb 1 hq (hr_r11_to x13 x14) fun y15 _ hq=>?_
 refine ifE hb 14 [101] [] hq ?_ ?_<;>intro hq _
 exact retE hb 8 (he1 _ (injO hq))
 refine qi flV hb 7 4 true 0 (flV.one y15.1) hq fun l17 hl17 hq=>?_
 exact q8 hb 9 [2,3,4,6,7] [] 5 (hn1 _ (injO hq)) ⟨(by kernel_rfl),(by kernel_rfl),(by kernel_rfl),(by kernel_rfl),(qa _ _ _ _ _),trivial⟩
 refine qw hb 8 4 true (sz:=flV.sz) (fr:=0) (cs:=flV.f s1.2) (by kernel_rfl) (Nat.zero_le _) ?_
 refine q19 hb 0 2 3 (cs:=[vi v_.kind,vi 0,vS eS,vO flV 4 s1.2,vL flS v_.keys]) (c:=vO flV 4 s1.2) (q1g flV (nb:=true) (id:=4) (xs:=s1.2) (by kernel_rfl)) (by kernel_rfl) ?_
 exact retE hb 0 (he1 _ (injO hq))
 refine knE hb 14 [52,53] [] (b:=(decide (t_.kind=4))) (v:=true) (not_f hc7) ?_
 refine ifE hb 5 [56,57,58] [] hq ?_ ?_<;>intro hq _
 exact retE hb 23 (injO hq).symm
 refine ifE hb 4 [61,62] [] hq ?_ ?_<;>intro hq _
 refine ifE hb 6 [65,66,67,68] [] hq ?_ ?_<;>intro hq _
 exact retE hb 13 (injO hq).symm
 refine ifE hb 6 [72,73] [] hq ?_ ?_<;>intro hq _
 exact retE hb 7 (injO hq).symm
 refine cpE hb 18 [2,3,4,6,7] (s':=⟨none,[pk Tryz.f127 1018],[(0,[pk Tryz.f127 255])],sl 111 [(2,pt 0),(3,pt 1),(4,pt 2),(6,pt 3),(7,c1 (vi 0))],[bx (aV v_),bx (aT t_),bx zV,bx [vi v_.kind,vi 0,vS eS,vN,vL flS v_.keys]]⟩) ?_
 refine q3j hb 0 3 3 5 (cs:=[vi v_.kind,vi 0,vS eS,vN,vL flS v_.keys]) (by kernel_rfl) ?_
 refine qd hb 0 (gQ52 r_r11_to v_ t_) (fun s1=>sl 111 [(2,pt 0),(3,pt 1),(4,pt 2),(6,pt 3),(7,c1 (vi s1.1))]) (fun s1=>[bx (aV v_),bx (aT t_),bx zV,bx [vi v_.kind,vi 0,vS eS,vO flV 4 s1.2,vL flS v_.keys],some (arO true flV.sz 0 (flV.f s1.2))]) [2,3,4,6,7] [] 5 (s0:=(0,[])) ⟨(by kernel_rfl),(by kernel_rfl),(by kernel_rfl),(by kernel_rfl),(qa _ _ _ _ _),trivial⟩ hq (fun s1 o1 hq hn1 he1=>?_)
 refine ifE hb 9 [84] [] hq ?_ ?_<;>intro hq _
 refine qh hb mixed 5 14 [12] ?_
 refine idxE hb flV 3 hq fun x23 hx23 hq=>?_
 refine idxE hb flT 3 hq fun x24 hx24 hq=>?_
 refine q6 hb 1 hq (hr_r11_to x23 x24) fun y25 _ hq=>?_
 refine ifE hb 14 [101] [] hq ?_ ?_<;>intro hq _
 exact retE hb 8 (he1 _ (injO hq))
 refine qi flV hb 7 4 true 0 (flV.one y25.1) hq fun l27 hl27 hq=>?_
 exact q8 hb 9 [2,3,4,6,7] [] 5 (hn1 _ (injO hq)) ⟨(by kernel_rfl),(by kernel_rfl),(by kernel_rfl),(by kernel_rfl),(qa _ _ _ _ _),trivial⟩
 refine qw hb 8 4 true (sz:=flV.sz) (fr:=0) (cs:=flV.f s1.2) (by kernel_rfl) (Nat.zero_le _) ?_
 refine q19 hb 0 2 3 (cs:=[vi v_.kind,vi 0,vS eS,vO flV 4 s1.2,vL flS v_.keys]) (c:=vO flV 4 s1.2) (q1g flV (nb:=true) (id:=4) (xs:=s1.2) (by kernel_rfl)) (by kernel_rfl) ?_
 exact retE hb 0 (he1 _ (injO hq))
 refine ifE hb 12 [72,73] [] hq ?_ ?_<;>intro hq _
 exact retE hb 7 (injO hq).symm
 refine cpE hb 18 [2,3,4,6,7] (s':=⟨none,[pk Tryz.f127 1018],[(0,[pk Tryz.f127 255])],sl 111 [(2,pt 0),(3,pt 1),(4,pt 2),(6,pt 3),(7,c1 (vi 0))],[bx (aV v_),bx (aT t_),bx zV,bx [vi v_.kind,vi 0,vS eS,vN,vL flS v_.keys]]⟩) ?_
 refine q3j hb 0 3 3 5 (cs:=[vi v_.kind,vi 0,vS eS,vN,vL flS v_.keys]) (by kernel_rfl) ?_
 refine qd hb 0 (gQ53 r_r11_to v_ t_) (fun s1=>sl 111 [(2,pt 0),(3,pt 1),(4,pt 2),(6,pt 3),(7,c1 (vi s1.1))]) (fun s1=>[bx (aV v_),bx (aT t_),bx zV,bx [vi v_.kind,vi 0,vS eS,vO flV 4 s1.2,vL flS v_.keys],some (arO true flV.sz 0 (flV.f s1.2))]) [2,3,4,6,7] [] 5 (s0:=(0,[])) ⟨(by kernel_rfl),(by kernel_rfl),(by kernel_rfl),(by kernel_rfl),(qa _ _ _ _ _),trivial⟩ hq (fun s1 o1 hq hn1 he1=>?_)
 refine ifE hb 9 [84] [] hq ?_ ?_<;>intro hq _
 refine qh hb mixed 5 14 [12] ?_
 refine idxE hb flV 3 hq fun x30 hx30 hq=>?_
 refine idxE hb flT 3 hq fun x31 hx31 hq=>?_
 refine q6 hb 1 hq (hr_r11_to x30 x31) fun y32 _ hq=>?_
 refine ifE hb 14 [101] [] hq ?_ ?_<;>intro hq _
 exact retE hb 8 (he1 _ (injO hq))
 refine qi flV hb 7 4 true 0 (flV.one y32.1) hq fun l34 hl34 hq=>?_
 exact q8 hb 9 [2,3,4,6,7] [] 5 (hn1 _ (injO hq)) ⟨(by kernel_rfl),(by kernel_rfl),(by kernel_rfl),(by kernel_rfl),(qa _ _ _ _ _),trivial⟩
 refine qw hb 8 4 true (sz:=flV.sz) (fr:=0) (cs:=flV.f s1.2) (by kernel_rfl) (Nat.zero_le _) ?_
 refine q19 hb 0 2 3 (cs:=[vi v_.kind,vi 0,vS eS,vO flV 4 s1.2,vL flS v_.keys]) (c:=vO flV 4 s1.2) (q1g flV (nb:=true) (id:=4) (xs:=s1.2) (by kernel_rfl)) (by kernel_rfl) ?_
 exact retE hb 0 (he1 _ (injO hq))
def tQb1 (rec:Ty->Val->Option (Val×Int)) (a:Ty) (b:Val):Option (Val×Int) :=
 gQ50 (gQ4u (fun a0 a1=>rec a1 a0)) (fun a0 a1=>rec a1 a0) b a
def tQaz (a0:Val) (a1:Ty):Option (Val×Int):=tieF relT wfT tQb1 a1 a0
theorem tQb0 (hb:Base E E0 G) (he:∀w,E w->EnvV w) (a0:Val) (a1:Ty) (r:Val×Int) (hq:tQaz a0 a1=some r):Pure E E0 Tryz.prog 127 [.agg (aV a0),.agg (aT a1)] (.tup [.agg (aV r.1),.cell (vi r.2)]) :=
 q4b (C:=fun a b r=>Pure E E0 Tryz.prog 127 [.agg (aV b),.agg (aT a)] (.tup [.agg (aV r.1),.cell (vi r.2)])) (fun rec hr a b r hq=>gQ54 hb he (gQ4u (fun a0 a1=>rec a1 a0)) (fun a0 a1=>rec a1 a0) (gQ4x hb he (fun a0 a1=>rec a1 a0) (fun a0 a1 r e=>hr a1 a0 r e)) (fun a0 a1 r e=>hr a1 a0 r e) b a r hq) a1 a0 r hq
def gQ4p  (v_:Val) (t_:Ty):Option (Val×Int) :=
 (tQaz v_ t_).bind fun y1=>bif (!decide (y1.2=0)) then some ((Val.mk 0 0 eS [] []),y1.2) else (q2e y1.1).bind fun y3=>bif (!decide (y3=0)) then some ((Val.mk 0 0 eS [] []),y3) else some (y1.1,0)
theorem gQ4q (hb:Base E E0 G) (he:∀w,E w->EnvV w)   (v_:Val) (t_:Ty):∀r_:Val×Int,gQ4p v_ t_=some r_ ->
 Pure E E0 Tryz.prog 69 [.agg (aV v_),.agg (aT t_)] (.tup [.agg (aV r_.1),.cell (vi r_.2)]):=by
 refine fnE hb Tryz.func69 rfl fun r_ hq=>?_
 refine q6 hb 11 hq (tQb0 hb he v_ t_) fun y1 _ hq=>?_
 refine ifE hb 13 [15] [] hq ?_ ?_<;>intro hq _
 exact retE hb 8 (injO hq).symm
 refine q6 hb 5 hq (qbz hb he y1.1) fun y3 _ hq=>?_
 refine ifE hb 8 [21] [] hq ?_ ?_<;>intro hq _
 exact retE hb 8 (injO hq).symm
 exact retE hb 8 (injO hq).symm
def gQ5w (args_:List Val) (s1:Int):Option ((Int)⊕(Val×Int)) :=
 bif (decide (s1<(args_.length:Int))) then (idx args_ s1).bind fun x68=>bif (!decide (x68.kind=0)) then (idx args_ s1).bind fun x70=>some (.inr (x70,0)) else some (.inl (IntKind.i64.wrap (s1+1))) else some (.inr ((Val.mk 0 0 eS [] []),0))
def gQ5v  (name_:ByteArray) (args_:List Val):Option (Val×Int) :=
 bif (decide (name_=⟨#[97,98,115]⟩)) then (gQ75 name_ args_).bind fun y2=>some (y2.1,y2.2) else bif (decide (name_=⟨#[109,97,120]⟩)) then (gQ75 name_ args_).bind fun y4=>some (y4.1,y4.2) else bif (decide (name_=⟨#[109,105,110]⟩)) then (gQ75 name_ args_).bind fun y6=>some (y6.1,y6.2) else bif (decide (name_=⟨#[114,97,110,103,101]⟩)) then (gQ75 name_ args_).bind fun y8=>some (y8.1,y8.2) else bif (decide (name_=⟨#[115,117,109]⟩)) then (gQ75 name_ args_).bind fun y10=>some (y10.1,y10.2) else bif (decide (name_=⟨#[101,110,100,115,119,105,116,104]⟩)) then (gQ7s name_ args_).bind fun y12=>some (y12.1,y12.2) else bif (decide (name_=⟨#[115,116,97,114,116,115,119,105,116,104]⟩)) then (gQ7s name_ args_).bind fun y14=>some (y14.1,y14.2) else bif (decide (name_=⟨#[108,111,119,101,114]⟩)) then (gQ7s name_ args_).bind fun y16=>some (y16.1,y16.2) else bif (decide (name_=⟨#[117,112,112,101,114]⟩)) then (gQ7s name_ args_).bind fun y18=>some (y18.1,y18.2) else bif (decide (name_=⟨#[116,114,105,109]⟩)) then (gQ7s name_ args_).bind fun y20=>some (y20.1,y20.2) else bif (decide (name_=⟨#[114,101,112,108,97,99,101]⟩)) then (gQ7s name_ args_).bind fun y22=>some (y22.1,y22.2) else bif (decide (name_=⟨#[115,112,108,105,116]⟩)) then (gQ7s name_ args_).bind fun y24=>some (y24.1,y24.2) else bif (decide (name_=⟨#[106,111,105,110]⟩)) then (gQ7s name_ args_).bind fun y26=>some (y26.1,y26.2) else bif (decide (name_=⟨#[99,111,110,99,97,116]⟩)) then (gQ6z name_ args_).bind fun y28=>some (y28.1,y28.2) else bif (decide (name_=⟨#[99,111,110,116,97,105,110,115]⟩)) then (gQ6z name_ args_).bind fun y30=>some (y30.1,y30.2) else bif (decide (name_=⟨#[100,105,115,116,105,110,99,116]⟩)) then (gQ6z name_ args_).bind fun y32=>some (y32.1,y32.2) else bif (decide (name_=⟨#[101,108,101,109,101,110,116]⟩)) then (gQ6z name_ args_).bind fun y34=>some (y34.1,y34.2) else bif (decide (name_=⟨#[102,108,97,116,116,101,110]⟩)) then (gQ6z name_ args_).bind fun y36=>some (y36.1,y36.2) else bif (decide (name_=⟨#[105,110,100,101,120]⟩)) then (gQ6z name_ args_).bind fun y38=>some (y38.1,y38.2) else bif (decide (name_=⟨#[114,101,118,101,114,115,101]⟩)) then (gQ6z name_ args_).bind fun y40=>some (y40.1,y40.2) else bif (decide (name_=⟨#[115,108,105,99,101]⟩)) then (gQ6z name_ args_).bind fun y42=>some (y42.1,y42.2) else bif (decide (name_=⟨#[115,111,114,116]⟩)) then (gQ6z name_ args_).bind fun y44=>some (y44.1,y44.2) else bif (decide (name_=⟨#[107,101,121,115]⟩)) then (gQ7l name_ args_).bind fun y46=>some (y46.1,y46.2) else bif (decide (name_=⟨#[108,111,111,107,117,112]⟩)) then (gQ7l name_ args_).bind fun y48=>some (y48.1,y48.2) else bif (decide (name_=⟨#[109,101,114,103,101]⟩)) then (gQ7l name_ args_).bind fun y50=>some (y50.1,y50.2) else bif (decide (name_=⟨#[118,97,108,117,101,115]⟩)) then (gQ7l name_ args_).bind fun y52=>some (y52.1,y52.2) else bif (decide (name_=⟨#[122,105,112,109,97,112]⟩)) then (gQ7l name_ args_).bind fun y54=>some (y54.1,y54.2) else bif (decide (name_=⟨#[108,101,110,103,116,104]⟩)) then (idx args_ 0).bind fun x56=>(gQ6v x56).bind fun y57=>some (y57,0) else bif (decide (name_=⟨#[116,111,98,111,111,108]⟩)) then (idx args_ 0).bind fun x59=>(gQ4p x59 (Ty.mk 1 [] [])).bind fun y60=>some (y60.1,y60.2) else bif (decide (name_=⟨#[116,111,110,117,109,98,101,114]⟩)) then (idx args_ 0).bind fun x62=>(gQ4p x62 (Ty.mk 2 [] [])).bind fun y63=>some (y63.1,y63.2) else bif (decide (name_=⟨#[116,111,115,116,114,105,110,103]⟩)) then (idx args_ 0).bind fun x65=>(gQ4p x65 (Ty.mk 3 [] [])).bind fun y66=>some (y66.1,y66.2) else q7 (gQ5w args_) 0
theorem gQ5x (hb:Base E E0 G) (he:∀w,E w->EnvV w)   (name_:ByteArray) (args_:List Val):∀r_:Val×Int,gQ5v name_ args_=some r_ ->
 Pure E E0 Tryz.prog 38 [.cell (vS name_),.cell (vL flV args_)] (.tup [.agg (aV r_.1),.cell (vi r_.2)]):=by
 refine fnE hb Tryz.func38 rfl fun r_ hq=>?_
 refine ifE hb 17 [8,9] [] hq ?_ ?_<;>intro hq _
 refine q6 hb 7 hq (gQ79 hb he name_ args_) fun y2 _ hq=>?_
 exact retE hb 5 (injO hq).symm
 refine ifE hb 6 [8,10] [] hq ?_ ?_<;>intro hq _
 refine q6 hb 7 hq (gQ79 hb he name_ args_) fun y4 _ hq=>?_
 exact retE hb 5 (injO hq).symm
 refine ifE hb 6 [8,11] [] hq ?_ ?_<;>intro hq _
 refine q6 hb 7 hq (gQ79 hb he name_ args_) fun y6 _ hq=>?_
 exact retE hb 5 (injO hq).symm
 refine ifE hb 6 [8,12] [] hq ?_ ?_<;>intro hq _
 refine q6 hb 7 hq (gQ79 hb he name_ args_) fun y8 _ hq=>?_
 exact retE hb 5 (injO hq).symm
 refine ifE hb 5 [8,13] [] hq ?_ ?_<;>intro hq _
 refine q6 hb 5 hq (gQ79 hb he name_ args_) fun y10 _ hq=>?_
 exact retE hb 5 (injO hq).symm
 refine ifE hb 7 [19,20] [] hq ?_ ?_<;>intro hq _
 refine q6 hb 7 hq (gQ7v hb he name_ args_) fun y12 _ hq=>?_
 exact retE hb 5 (injO hq).symm
 refine ifE hb 6 [19,21] [] hq ?_ ?_<;>intro hq _
 refine q6 hb 7 hq (gQ7v hb he name_ args_) fun y14 _ hq=>?_
 exact retE hb 5 (injO hq).symm
 refine ifE hb 6 [19,22] [] hq ?_ ?_<;>intro hq _
 refine q6 hb 7 hq (gQ7v hb he name_ args_) fun y16 _ hq=>?_
 exact retE hb 5 (injO hq).symm
 refine ifE hb 6 [19,23] [] hq ?_ ?_<;>intro hq _
 refine q6 hb 7 hq (gQ7v hb he name_ args_) fun y18 _ hq=>?_
 exact retE hb 5 (injO hq).symm
 refine ifE hb 6 [19,24] [] hq ?_ ?_<;>intro hq _
 refine q6 hb 7 hq (gQ7v hb he name_ args_) fun y20 _ hq=>?_
 exact retE hb 5 (injO hq).symm
 refine ifE hb 6 [19,25] [] hq ?_ ?_<;>intro hq _
 refine q6 hb 7 hq (gQ7v hb he name_ args_) fun y22 _ hq=>?_
 exact retE hb 5 (injO hq).symm
 refine ifE hb 6 [19,26] [] hq ?_ ?_<;>intro hq _
 refine q6 hb 7 hq (gQ7v hb he name_ args_) fun y24 _ hq=>?_
 exact retE hb 5 (injO hq).symm
 refine ifE hb 5 [19,27] [] hq ?_ ?_<;>intro hq _
 refine q6 hb 5 hq (gQ7v hb he name_ args_) fun y26 _ hq=>?_
 exact retE hb 5 (injO hq).symm
 refine ifE hb 7 [33,34] [] hq ?_ ?_<;>intro hq _
 refine q6 hb 7 hq (gQ72 hb he name_ args_) fun y28 _ hq=>?_
 exact retE hb 5 (injO hq).symm
 refine ifE hb 6 [33,35] [] hq ?_ ?_<;>intro hq _
 refine q6 hb 7 hq (gQ72 hb he name_ args_) fun y30 _ hq=>?_
 exact retE hb 5 (injO hq).symm
 refine ifE hb 6 [33,36] [] hq ?_ ?_<;>intro hq _
 refine q6 hb 7 hq (gQ72 hb he name_ args_) fun y32 _ hq=>?_
 exact retE hb 5 (injO hq).symm
 refine ifE hb 6 [33,37] [] hq ?_ ?_<;>intro hq _
 refine q6 hb 7 hq (gQ72 hb he name_ args_) fun y34 _ hq=>?_
 exact retE hb 5 (injO hq).symm
 refine ifE hb 6 [33,38] [] hq ?_ ?_<;>intro hq _
 refine q6 hb 7 hq (gQ72 hb he name_ args_) fun y36 _ hq=>?_
 exact retE hb 5 (injO hq).symm
 refine ifE hb 6 [33,39] [] hq ?_ ?_<;>intro hq _
 refine q6 hb 7 hq (gQ72 hb he name_ args_) fun y38 _ hq=>?_
 exact retE hb 5 (injO hq).symm
 refine ifE hb 6 [33,40] [] hq ?_ ?_<;>intro hq _
 refine q6 hb 7 hq (gQ72 hb he name_ args_) fun y40 _ hq=>?_
 exact retE hb 5 (injO hq).symm
 refine ifE hb 6 [33,41] [] hq ?_ ?_<;>intro hq _
 refine q6 hb 7 hq (gQ72 hb he name_ args_) fun y42 _ hq=>?_
 exact retE hb 5 (injO hq).symm
 refine ifE hb 5 [33,42] [] hq ?_ ?_<;>intro hq _
 refine q6 hb 5 hq (gQ72 hb he name_ args_) fun y44 _ hq=>?_
 exact retE hb 5 (injO hq).symm
 refine ifE hb 7 [48,49] [] hq ?_ ?_<;>intro hq _
 refine q6 hb 7 hq (gQ7p hb he name_ args_) fun y46 _ hq=>?_
 exact retE hb 5 (injO hq).symm
 refine ifE hb 6 [48,50] [] hq ?_ ?_<;>intro hq _
 refine q6 hb 7 hq (gQ7p hb he name_ args_) fun y48 _ hq=>?_
 exact retE hb 5 (injO hq).symm
 refine ifE hb 6 [48,51] [] hq ?_ ?_<;>intro hq _
 refine cpE hb 2 [0,1,4,7,48] (s':=⟨none,[pk Tryz.f38 3455],[(0,[pk Tryz.f38 7])],sl 109 [(0,c1 (vS name_)),(1,c1 (vL flV args_)),(4,pt 0),(7,c1 (vS name_)),(48,c1 (vB true))],[bx zV]⟩) ?_
 refine q6 hb 5 hq (gQ7p hb he name_ args_) fun y50 _ hq=>?_
 exact retE hb 5 (injO hq).symm
 refine cpE hb 2 [0,1,4,7] (s':=⟨none,[pk Tryz.f38 442238,pk Tryz.f38 442239,pk Tryz.f38 3455],[(0,[pk Tryz.f38 7])],sl 109 [(0,c1 (vS name_)),(1,c1 (vL flV args_)),(4,pt 0),(7,c1 (vS name_))],[bx zV]⟩) ?_
 refine ifE hb 4 [48,52] [] hq ?_ ?_<;>intro hq _
 refine q6 hb 7 hq (gQ7p hb he name_ args_) fun y52 _ hq=>?_
 exact retE hb 5 (injO hq).symm
 refine ifE hb 5 [48,53] [] hq ?_ ?_<;>intro hq _
 refine q6 hb 5 hq (gQ7p hb he name_ args_) fun y54 _ hq=>?_
 exact retE hb 5 (injO hq).symm
 refine ifE hb 6 [59,60] [] hq ?_ ?_<;>intro hq _
 refine idxE hb flV 4 hq fun x56 hx56 hq=>?_
 refine q6 hb 1 hq (gQ6w hb he x56) fun y57 _ hq=>?_
 exact retE hb 3 (injO hq).symm
 refine ifE hb 6 [65,66] [] hq ?_ ?_<;>intro hq _
 refine idxE hb flV 4 hq fun x59 hx59 hq=>?_
 refine q6 hb 2 hq (gQ4q hb he x59 (Ty.mk 1 [] [])) fun y60 _ hq=>?_
 exact retE hb 5 (injO hq).symm
 refine ifE hb 6 [74,75] [] hq ?_ ?_<;>intro hq _
 refine idxE hb flV 4 hq fun x62 hx62 hq=>?_
 refine q6 hb 2 hq (gQ4q hb he x62 (Ty.mk 2 [] [])) fun y63 _ hq=>?_
 exact retE hb 5 (injO hq).symm
 refine ifE hb 6 [83,84] [] hq ?_ ?_<;>intro hq _
 refine idxE hb flV 4 hq fun x65 hx65 hq=>?_
 refine q6 hb 2 hq (gQ4q hb he x65 (Ty.mk 3 [] [])) fun y66 _ hq=>?_
 exact retE hb 5 (injO hq).symm
 refine cpE hb 9 [1,4,6] (s':=⟨none,[pk Tryz.f38 58],[(1,[pk Tryz.f38 15])],sl 109 [(1,c1 (vL flV args_)),(4,pt 0),(6,c1 (vi 0))],[bx zV]⟩) ?_
 refine qd hb 0 (gQ5w args_) (fun s1=>sl 109 [(1,c1 (vL flV args_)),(4,pt 0),(6,c1 (vi s1))]) (fun s1=>[bx zV]) [1,4,6] [] 1 (s0:=0) ⟨(by kernel_rfl),trivial⟩ hq (fun s1 o1 hq hn1 he1=>?_)
 refine ifE hb 8 [95] [] hq ?_ ?_<;>intro hq _
 refine idxE hb flV 8 hq fun x68 hx68 hq=>?_
 refine ifE hb 4 [103] [] hq ?_ ?_<;>intro hq _
 refine idxE hb flV 5 hq fun x70 hx70 hq=>?_
 exact retE hb 4 (he1 _ (injO hq))
 exact q8 hb 8 [1,4,6] [] 1 (hn1 _ (injO hq)) ⟨(by kernel_rfl),trivial⟩
 exact retE hb 8 (he1 _ (injO hq))
def gQ5b  (name_:ByteArray) (args_:List Val):Option (Val×Int) :=
 (gQ59 name_).bind fun y1=>bif (!y1.2.2) then some ((Val.mk 0 0 eS [] []),17) else bif (decide ((args_.length:Int)<y1.1)) then some ((Val.mk 0 0 eS [] []),18) else bif (decide ((args_.length:Int) > y1.2.1)) then some ((Val.mk 0 0 eS [] []),18) else (gQ83 name_ args_).bind fun y5=>bif (!y5) then some ((Val.mk 0 0 eS [] []),6) else (gQ7j name_).bind fun y7=>bif y7 then (gQ5q name_ args_).bind fun y9=>bif y9 then (gQ86).bind fun y11=>some (y11,0) else (gQ5v name_ args_).bind fun y12=>bif (decide (y12.2=0)) then (q2e y12.1).bind fun y14=>bif (!decide (y14=0)) then some ((Val.mk 0 0 eS [] []),y14) else some (y12.1,0) else some ((Val.mk 0 0 eS [] []),y12.2) else (gQ5v name_ args_).bind fun y16=>bif (decide (y16.2=0)) then (q2e y16.1).bind fun y18=>bif (!decide (y18=0)) then some ((Val.mk 0 0 eS [] []),y18) else some (y16.1,0) else some ((Val.mk 0 0 eS [] []),y16.2)
theorem gQ5c (hb:Base E E0 G) (he:∀w,E w->EnvV w)   (name_:ByteArray) (args_:List Val):∀r_:Val×Int,gQ5b name_ args_=some r_ ->
 Pure E E0 Tryz.prog 11 [.cell (vS name_),.cell (vL flV args_)] (.tup [.agg (aV r_.1),.cell (vi r_.2)]):=by
 refine fnE hb Tryz.func11 rfl fun r_ hq=>?_
 refine q6 hb 8 hq (gQ5a hb he name_) fun y1 _ hq=>?_
 refine ifE hb 14 [18] [] hq ?_ ?_<;>intro hq _
 exact retE hb 7 (injO hq).symm
 refine ifE hb 10 [23,24] [] hq ?_ ?_<;>intro hq _
 exact retE hb 13 (injO hq).symm
 refine ifE hb 6 [28,29] [] hq ?_ ?_<;>intro hq _
 exact retE hb 7 (injO hq).symm
 refine q6 hb 7 hq (gQ85 hb he name_ args_) fun y5 _ hq=>?_
 refine ifE hb 2 [34] [] hq ?_ ?_<;>intro hq _
 exact retE hb 7 (injO hq).symm
 refine q6 hb 6 hq (gQ7k hb he name_) fun y7 _ hq=>?_
 refine ifE hb 1 [37,38] [] hq ?_ ?_<;>intro hq _
 refine q6 hb 2 hq (gQ5u hb he name_ args_) fun y9 _ hq=>?_
 refine ifE hb 2 [41,42] [] hq ?_ ?_<;>intro hq _
 refine q6 hb 3 hq (gQ87 hb he ) fun y11 _ hq=>?_
 exact retE hb 3 (injO hq).symm
 refine q6 hb 6 hq (gQ5x hb he name_ args_) fun y12 _ hq=>?_
 refine ifE hb 13 [51] [] hq (fun hq _=>?_) (fun hq hc13=>?_)
 refine q6 hb 3 hq (qbz hb he y12.1) fun y14 _ hq=>?_
 refine ifE hb 8 [55] [] hq ?_ ?_<;>intro hq _
 exact retE hb 8 (injO hq).symm
 exact retE hb 8 (injO hq).symm
 refine knE hb 8 [55] [] (b:=(!decide (y12.2=0))) (v:=true) (congrArg (fun z=>!z) hc13) ?_
 exact retE hb 8 (injO hq).symm
 refine q6 hb 11 hq (gQ5x hb he name_ args_) fun y16 _ hq=>?_
 refine ifE hb 13 [51] [] hq (fun hq _=>?_) (fun hq hc17=>?_)
 refine q6 hb 3 hq (qbz hb he y16.1) fun y18 _ hq=>?_
 refine ifE hb 8 [55] [] hq ?_ ?_<;>intro hq _
 exact retE hb 8 (injO hq).symm
 exact retE hb 8 (injO hq).symm
 refine knE hb 8 [55] [] (b:=(!decide (y16.2=0))) (v:=true) (congrArg (fun z=>!z) hc17) ?_
 exact retE hb 8 (injO hq).symm
def gQ38  (name_:ByteArray) (args_:List Val):Option (Bool) :=
 (gQ3c args_).bind fun y1=>bif (!y1) then (gQ3a).bind fun y3=>some (y3) else (gQ0n name_ args_).bind fun y4=>(gQ5b name_ args_).bind fun y5=>bif (decide (y4.2=y5.2)) then (tQaq y4.1 y5.1).bind fun y7=>bif y7 then (gQ3a).bind fun y9=>some (y9) else some (false) else some (false)
theorem gQ39 (hb:Base E E0 G) (he:∀w,E w->EnvV w)   (name_:ByteArray) (args_:List Val):∀r_:Bool,gQ38 name_ args_=some r_ ->
 Pure E E0 Tryz.prog 3 [.cell (vS name_),.cell (vL flV args_)] (c1 (vB r_)):=by
 refine fnE hb Tryz.func3 rfl fun r_ hq=>?_
 refine q6 hb 8 hq (gQ3e hb he args_) fun y1 _ hq=>?_
 refine ifE hb 2 [11] [] hq ?_ ?_<;>intro hq _
 refine q6 hb 3 hq (gQ3b hb he ) fun y3 _ hq=>?_
 exact retE hb 2 (injO hq).symm
 refine q6 hb 6 hq (gQ0p hb he name_ args_) fun y4 _ hq=>?_
 refine q6 hb 11 hq (gQ5c hb he name_ args_) fun y5 _ hq=>?_
 refine ifE hb 13 [27,28] [] hq ?_ ?_<;>intro hq _
 refine q6 hb 2 hq (tQar hb he y4.1 y5.1) fun y7 _ hq=>?_
 refine ifE hb 2 [31,32,33] [] hq ?_ ?_<;>intro hq _
 refine q6 hb 0 hq (gQ3b hb he ) fun y9 _ hq=>?_
 exact retE hb 3 (injO hq).symm
 exact retE hb 4 (injO hq).symm
 exact retE hb 9 (injO hq).symm
end Abs
end Go.Proofs.YtagadjpmkggjdaaGreatDoor
end
