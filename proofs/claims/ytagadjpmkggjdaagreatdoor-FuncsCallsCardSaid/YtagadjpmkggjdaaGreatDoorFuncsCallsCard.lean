/-
  For every input the law FuncsCalls answers true: Call returns the result of a function, or the first error.
  Conditions: the package-level variables that the row lists (tables of math/bits, strconv and utf8, and strconv's two errors) hold what the program's own text lays in them, which the card ties; there is no other condition.
-/
import Derived.Test.YtagadjpmkggjdaaGreatDoorFrame
import Derived.Test.YtagadjpmkggjdaaGreatDoorOpX
import Derived.Test.YtagadjpmkggjdaaGreatDoorPrI
namespace Go.Proofs.YtagadjpmkggjdaaGreatDoor
set_option linter.unusedSimpArgs false
set_option linter.unusedVariables false
open Go.ChangeShapes Go.WideShapes Go.ChangeAt Go.RowKit
open Abs
theorem funcsCalls_row0:Tryz.prog.readableRec 9=true:=by kernel_rfl
theorem funcsCalls_lt0:9 < Tryz.prog.types.size:=of_decide_eq_true (by kernel_rfl)
theorem funcsCalls_row1:Tryz.prog.readableRec 22=true:=by kernel_rfl
theorem funcsCalls_lt1:22 < Tryz.prog.types.size:=of_decide_eq_true (by kernel_rfl)
theorem funcsCalls_ok (os:Os):Input.okWideB Tryz.checked.prog ((q88 os).forCall (fun _ _=>0) ⟨#[],#[.string ⟨#[]⟩,.slice none 0 0],[]⟩) 3 ⟨#[],#[.string ⟨#[]⟩,.slice none 0 0],[]⟩=true:=by kernel_rfl
theorem funcsCalls_pre {H:Type} (enc:TypeId×Value->H) (os:Os):Rows.funcsCallsSpec.preB enc Tryz.checked.prog Tryz.f3 [] false ((q88 os).forCall (fun _ _=>0) ⟨#[],#[.string ⟨#[]⟩,.slice none 0 0],[]⟩).memory #[.string ⟨#[]⟩,.slice none 0 0] 8=true:=by kernel_rfl
theorem funcsCalls_sz {H:Type} (enc:TypeId×Value->H) (os:Os):Rows.funcsCallsSpec.sizedB enc Tryz.checked.prog Tryz.f3 false ((q88 os).forCall (fun _ _=>0) ⟨#[],#[.string ⟨#[]⟩,.slice none 0 0],[]⟩).memory #[.string ⟨#[]⟩,.slice none 0 0] 8=true:=by kernel_rfl
set_option maxRecDepth 100000 in
theorem funcsCalls_lifted (os:Os) (started:os.Started) (H:Type) (enc:TypeId×Value->H) :
  ReturnsInHanded {} Tryz.checked os 3 .any (fun w args=>(Rows.funcsCallsSpec.pre enc Tryz.prog Tryz.f3 [] false w args/\laidMetH Tryz.prog laid7 w)/\sizedMet enc Tryz.prog Tryz.f3 (OpenSpec.ofChange Rows.funcsCallsSpec) false w args)
   (Rows.funcsCallsSpec.post enc Tryz.prog Tryz.f3 false true false false):=by
 refine qsl (C:=Tryz.checked) (X:=fun w _=>laidMetH Tryz.prog laid7 w) (fun _ _ _ hh h=>h.of_heap hh) own started (by kernel_rfl) Tryz.func3
  (ChangeSpec.witness_shaped (enc:=enc) (C:=Tryz.checked) (os:=os) (X:=fun w _=>laidMetH Tryz.prog laid7 w) false (q88 os) #[.string ⟨#[]⟩,.slice none 0 0] 8 rfl (qqy os _) (funcsCalls_ok os) (funcsCalls_pre enc os) (funcsCalls_sz enc os) (qqx os _)) ?_
 intro W base args ds gs before hval0 hW hsz0 hL hS
 have hsz:(DataW.weightsEach Tryz.prog (Tryz.f3.params.toList++Rows.funcsCallsSpec.plain.varTypes Tryz.prog) (ds++gs)).all (·<=reachBytes)=true:=hsz0
 clear hsz0
 have hval:∀ (j:Nat) t v,Tryz.f3.params[j]?=some t->args[j]?=some v->Value.okWide Tryz.prog W .any base t v:=hval0
 have hW':=hW
 obtain ⟨p,q,hA0,hV,rfl,hfz,hnd⟩:=hW
 have hA:DataW.TrodAll enc Tryz.prog W 0 (fun _=>true) true Tryz.f3.params.toList args.toList ds p:=hA0
 rw[Tryz.params3]at hA hval hsz
 obtain ⟨v0,v1,d0,d1,p0,p1,rfl,rfl,rfl,h0,h1⟩:=trodAll_two hA
 obtain ⟨rfl,rfl⟩:=trodVars_none hV
 obtain ⟨x0,f0,r0⟩:=qvd Tryz.underlying9 (hval 0 9 v0 rfl rfl) h0 (qnq hsz (j:=0) (t:=9) rfl rfl)
 obtain ⟨x1,f1,r1⟩:=qvc flV Tryz.underlying22 (by kernel_rfl) (b:=80) (by kernel_rfl) qvh (hval 1 22 v1 rfl rfl) h1 (qnq hsz (j:=1) (t:=22) rfl rfl)
 have hE:=qrb hL hS
 clear hA0 hval0 hsz
 simp only[List.append_nil]at hW'
 refine (run_of (args:=[.cell (vS x0),.cell (vL flV x1)]) (vs:=#[v0,v1]) hE (fun E E0 G hb he=>gQ39 hb he x0 x1 true (qtb x0 x1 f1.2)) ⟨r0,r1,trivial⟩).mono fun e W' ⟨he,hb⟩=>?_
 subst he
 exact ⟨_,rfl,qw2 (pa:=p0++p1) (pv:=[]) hW' (fun _ _ _=>trodAll_mk1 (shut_bool Tryz.underlying4 _)) (fun sp hsp=>trodAll_mk2 (qnj funcsCalls_row0 funcsCalls_lt0 h0 hb (fun q hq=>hW'.lt q (by simp[hq])) sp (fun q hq=>hsp q (by simp[hq]))) (qnj funcsCalls_row1 funcsCalls_lt1 h1 hb (fun q hq=>hW'.lt q (by simp[hq])) sp (fun q hq=>hsp q (by simp[hq])))) (fun _ _=>rfl) (by simp) hb (ok_one (by kernel_rfl) rfl (okWide_bool_mk Tryz.underlying4 _))⟩
theorem funcsCalls_said:Rows.FuncsCallsSaid :=
 OpenClaim.holds_of_wide 3 Tryz.f3 rfl rfl rfl rfl rfl rfl rfl ⟨rfl,rfl,rfl,rfl,rfl⟩ rfl rfl rfl rfl rfl (by kernel_rfl) Tryz.func3 (by kernel_rfl)
  (of_decide_eq_true (by kernel_rfl)) (by unfold Func.isWrapper; first | (rw[if_pos (by decide +kernel)]; kernel_rfl) | (rw[if_neg (by decide +kernel)]; exact ⟨rfl,rfl⟩))
  (fun os started H enc _=>funcsCalls_lifted os started H enc)
theorem funcsCalls_plain (f : FuncId) (fn : Func) (hf : Tryz.pinned.checked.prog.funcNamed "provision/provisionlaw18.FuncsCalls" = some f) (hfn : Tryz.pinned.checked.prog.funcs[f]? = some fn) :
  true=Tryz.pinned.checked.prog.looks []/\∀ (j:Nat) t,fn.params[j]?=some t->Tryz.pinned.checked.prog.wantsStandIn t=false:=by
 obtain rfl : f = 3 := Option.some.inj ((show Tryz.prog.funcNamed "provision/provisionlaw18.FuncsCalls" = some 3 by kernel_rfl).symm.trans hf) |>.symm
 obtain rfl:fn=Tryz.f3:=(Option.some.inj (Tryz.func3.symm.trans hfn)).symm
 refine ⟨by kernel_rfl,fun j t ht=>?_⟩
 rw[Tryz.params3]at ht
 have hm:t ∈ [9,22]:=by
  have:=Array.mem_of_getElem? ht
  simpa using this
 have hall:([9,22].all fun u=>!Tryz.prog.wantsStandIn u)=true:=by kernel_rfl
 exact (show Tryz.prog.wantsStandIn t=false by simpa using List.all_eq_true.1 hall t hm)
theorem funcsCalls_card:Rows.FuncsCallsCardSaid :=
 Claim7.holds_tied_plain_at .later [] _ _ _ _ funcsCalls_said (fun _ h=>by cases h) (by kernel_rfl) (fun _ h=>by cases h) funcsCalls_row_tie rfl ⟨rfl,rfl⟩ (by kernel_rfl) rfl funcsCalls_plain (by kernel_rfl)
end Go.Proofs.YtagadjpmkggjdaaGreatDoor
