/-
  For every input the law ValuetextLines answers true: Lines returns the lines of the reference, which joined by line feeds are a text of the value.
  Conditions: the package-level variables that the row lists (tables of math/bits, strconv and utf8, and strconv's two errors) hold what the program's own text lays in them, which the card ties; there is no other condition.
-/
import Derived.Test.YtpidpioifnnllaaGreatDoorFrame
import Derived.Test.YtpidpioifnnllaaGreatDoorOpX
import Derived.Test.YtpidpioifnnllaaGreatDoorVqV
namespace Go.Proofs.YtpidpioifnnllaaGreatDoor
set_option linter.unusedSimpArgs false
set_option linter.unusedVariables false
open Go.ChangeShapes Go.WideShapes Go.ChangeAt Go.RowKit
open Abs
theorem valuetextLines_row0:Tryz.prog.readableRec 26=true:=by kernel_rfl
theorem valuetextLines_lt0:26 < Tryz.prog.types.size:=of_decide_eq_true (by kernel_rfl)
theorem valuetextLines_row1:Tryz.prog.readableRec 3=true:=by kernel_rfl
theorem valuetextLines_lt1:3 < Tryz.prog.types.size:=of_decide_eq_true (by kernel_rfl)
theorem valuetextLines_ok (os:Os):Input.okWideB Tryz.checked.prog ((q1z os).forCall (fun _ _=>0) ⟨#[],#[.agg #[.int .i64 0,.int .i64 0,.string ⟨#[]⟩,.slice none 0 0,.slice none 0 0],.int .i64 0],[]⟩) 6 ⟨#[],#[.agg #[.int .i64 0,.int .i64 0,.string ⟨#[]⟩,.slice none 0 0,.slice none 0 0],.int .i64 0],[]⟩=true:=by kernel_rfl
theorem valuetextLines_pre {H:Type} (enc:TypeId×Value→H) (os:Os):Rows.valuetextLinesSpec.preB enc Tryz.checked.prog Tryz.f6 [] false ((q1z os).forCall (fun _ _=>0) ⟨#[],#[.agg #[.int .i64 0,.int .i64 0,.string ⟨#[]⟩,.slice none 0 0,.slice none 0 0],.int .i64 0],[]⟩).memory #[.agg #[.int .i64 0,.int .i64 0,.string ⟨#[]⟩,.slice none 0 0,.slice none 0 0],.int .i64 0] 8=true:=by kernel_rfl
theorem valuetextLines_sz {H:Type} (enc:TypeId×Value→H) (os:Os):Rows.valuetextLinesSpec.sizedB enc Tryz.checked.prog Tryz.f6 false ((q1z os).forCall (fun _ _=>0) ⟨#[],#[.agg #[.int .i64 0,.int .i64 0,.string ⟨#[]⟩,.slice none 0 0,.slice none 0 0],.int .i64 0],[]⟩).memory #[.agg #[.int .i64 0,.int .i64 0,.string ⟨#[]⟩,.slice none 0 0,.slice none 0 0],.int .i64 0] 8=true:=by kernel_rfl
set_option maxRecDepth 100000 in
theorem valuetextLines_lifted (os:Os) (started:os.Started) (H:Type) (enc:TypeId×Value→H) :
  ReturnsInHanded {} Tryz.checked os 6 .any (fun w args=>(Rows.valuetextLinesSpec.pre enc Tryz.prog Tryz.f6 [] false w args∧laidMetH Tryz.prog laid7 w)∧sizedMet enc Tryz.prog Tryz.f6 (OpenSpec.ofChange Rows.valuetextLinesSpec) false w args)
   (Rows.valuetextLinesSpec.post enc Tryz.prog Tryz.f6 false true false false):=by
 refine q8w (C:=Tryz.checked) (X:=fun w _=>laidMetH Tryz.prog laid7 w) (fun _ _ _ hh h=>h.of_heap hh) own started (by kernel_rfl) Tryz.func6
  (ChangeSpec.witness_shaped (enc:=enc) (C:=Tryz.checked) (os:=os) (X:=fun w _=>laidMetH Tryz.prog laid7 w) false (q1z os) #[.agg #[.int .i64 0,.int .i64 0,.string ⟨#[]⟩,.slice none 0 0,.slice none 0 0],.int .i64 0] 8 rfl (q8o os _) (valuetextLines_ok os) (valuetextLines_pre enc os) (valuetextLines_sz enc os) (q8n os _)) ?_
 intro W base args ds gs before hval0 hW hsz0 hL hS
 have hsz:(DataW.weightsEach Tryz.prog (Tryz.f6.params.toList++Rows.valuetextLinesSpec.plain.varTypes Tryz.prog) (ds++gs)).all (·≤reachBytes)=true:=hsz0
 clear hsz0
 have hval:∀ (j:Nat) t v,Tryz.f6.params[j]?=some t→args[j]?=some v→Value.okWide Tryz.prog W .any base t v:=hval0
 have hW':=hW
 obtain ⟨p,q,hA0,hV,rfl,hfz,hnd⟩:=hW
 have hA:DataW.TrodAll enc Tryz.prog W 0 (fun _=>true) true Tryz.f6.params.toList args.toList ds p:=hA0
 rw[Tryz.params6]at hA hval hsz
 obtain ⟨v0,v1,d0,d1,p0,p1,rfl,rfl,rfl,h0,h1⟩:=trodAll_two hA
 obtain ⟨rfl,rfl⟩:=trodVars_none hV
 obtain ⟨x0,f0,r0⟩:=qfd Tryz.underlying26 qfg (hval 0 26 v0 rfl rfl) h0 (q5w hsz (j:=0) (t:=26) rfl rfl)
 obtain ⟨x1,f1,r1⟩:=quc Tryz.underlying3 (hval 1 3 v1 rfl rfl) h1 (q5w hsz (j:=1) (t:=3) rfl rfl)
 have hE:=q8q hL hS
 clear hA0 hval0 hsz
 simp only[List.append_nil]at hW'
 refine (q9k (args:=[.agg (aV x0),.cell (vi x1)]) (vs:=#[v0,v1]) hE (fun E E0 G hb he=>gQ08 hb he x0 x1 true (qsd x0 x1 f0)) ⟨r0,r1,trivial⟩).mono fun e W' ⟨he,hb⟩=>?_
 subst he
 exact ⟨_,rfl,q9d (pa:=p0++p1) (pv:=[]) hW' (fun _ _ _=>trodAll_mk1 (shut_bool Tryz.underlying4 _)) (fun sp hsp=>trodAll_mk2 (q5v valuetextLines_row0 valuetextLines_lt0 h0 hb (fun q hq=>hW'.lt q (by simp[hq])) sp (fun q hq=>hsp q (by simp[hq]))) (q5v valuetextLines_row1 valuetextLines_lt1 h1 hb (fun q hq=>hW'.lt q (by simp[hq])) sp (fun q hq=>hsp q (by simp[hq])))) (fun _ _=>rfl) (by simp) hb (ok_one (by kernel_rfl) rfl (okWide_bool_mk Tryz.underlying4 _))⟩
theorem valuetextLines_said:Rows.ValuetextLinesSaid :=
 OpenClaim.holds_of_wide 6 Tryz.f6 rfl rfl rfl rfl rfl rfl rfl ⟨rfl,rfl,rfl,rfl,rfl⟩ rfl rfl rfl rfl rfl (by kernel_rfl) Tryz.func6 (by kernel_rfl)
  (of_decide_eq_true (by kernel_rfl)) (by unfold Func.isWrapper; first | (rw[if_pos (by decide +kernel)]; kernel_rfl) | (rw[if_neg (by decide +kernel)]; exact ⟨rfl,rfl⟩))
  (fun os started H enc _=>valuetextLines_lifted os started H enc)
theorem valuetextLines_plain (f : FuncId) (fn : Func) (hf : Tryz.pinned.checked.prog.funcNamed "provision/provisionlaw09.ValuetextLines" = some f) (hfn : Tryz.pinned.checked.prog.funcs[f]? = some fn) :
  true=Tryz.pinned.checked.prog.looks []∧∀ (j:Nat) t,fn.params[j]?=some t→Tryz.pinned.checked.prog.wantsStandIn t=false:=by
 obtain rfl : f = 6 := Option.some.inj ((show Tryz.prog.funcNamed "provision/provisionlaw09.ValuetextLines" = some 6 by kernel_rfl).symm.trans hf) |>.symm
 obtain rfl:fn=Tryz.f6:=(Option.some.inj (Tryz.func6.symm.trans hfn)).symm
 refine ⟨by kernel_rfl,fun j t ht=>?_⟩
 rw[Tryz.params6]at ht
 have hm:t ∈ [26,3]:=by
  have:=Array.mem_of_getElem? ht
  simpa using this
 have hall:([26,3].all fun u=>!Tryz.prog.wantsStandIn u)=true:=by kernel_rfl
 exact (show Tryz.prog.wantsStandIn t=false by simpa using List.all_eq_true.1 hall t hm)
theorem valuetextLines_card:Rows.ValuetextLinesCardSaid :=
 Claim7.holds_tied_plain_at .later [] _ _ _ _ valuetextLines_said (fun _ h=>by cases h) (by kernel_rfl) (fun _ h=>by cases h) valuetextLines_row_tie rfl ⟨rfl,rfl⟩ (by kernel_rfl) rfl valuetextLines_plain (by kernel_rfl)
end Go.Proofs.YtpidpioifnnllaaGreatDoor
