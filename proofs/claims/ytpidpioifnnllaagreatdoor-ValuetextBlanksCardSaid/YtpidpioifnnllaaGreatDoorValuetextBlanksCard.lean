/-
  For every input the law ValuetextBlanks answers true: blanks before a text move its errors, and blanks around a text change nothing else.
  Conditions: the package-level variables that the row lists (tables of math/bits, strconv and utf8, and strconv's two errors) hold what the program's own text lays in them, which the card ties; there is no other condition.
-/
import Derived.Test.YtpidpioifnnllaaGreatDoorFrame
import Derived.Test.YtpidpioifnnllaaGreatDoorOpX
import Derived.Test.YtpidpioifnnllaaGreatDoorVqT
namespace Go.Proofs.YtpidpioifnnllaaGreatDoor
set_option linter.unusedSimpArgs false
set_option linter.unusedVariables false
open Go.ChangeShapes Go.WideShapes Go.ChangeAt Go.RowKit
open Abs
theorem valuetextBlanks_row0:Tryz.prog.readableRec 9=true:=by kernel_rfl
theorem valuetextBlanks_lt0:9 < Tryz.prog.types.size:=of_decide_eq_true (by kernel_rfl)
theorem valuetextBlanks_row1:Tryz.prog.readableRec 5=true:=by kernel_rfl
theorem valuetextBlanks_lt1:5 < Tryz.prog.types.size:=of_decide_eq_true (by kernel_rfl)
theorem valuetextBlanks_row2:Tryz.prog.readableRec 5=true:=by kernel_rfl
theorem valuetextBlanks_lt2:5 < Tryz.prog.types.size:=of_decide_eq_true (by kernel_rfl)
theorem valuetextBlanks_ok (os:Os):Input.okWideB Tryz.checked.prog ((q1z os).forCall (fun _ _=>0) ⟨#[],#[.string ⟨#[]⟩,.int .u8 0,.int .u8 0],[]⟩) 7 ⟨#[],#[.string ⟨#[]⟩,.int .u8 0,.int .u8 0],[]⟩=true:=by kernel_rfl
theorem valuetextBlanks_pre {H:Type} (enc:TypeId×Value→H) (os:Os):Rows.valuetextBlanksSpec.preB enc Tryz.checked.prog Tryz.f7 [] false ((q1z os).forCall (fun _ _=>0) ⟨#[],#[.string ⟨#[]⟩,.int .u8 0,.int .u8 0],[]⟩).memory #[.string ⟨#[]⟩,.int .u8 0,.int .u8 0] 8=true:=by kernel_rfl
theorem valuetextBlanks_sz {H:Type} (enc:TypeId×Value→H) (os:Os):Rows.valuetextBlanksSpec.sizedB enc Tryz.checked.prog Tryz.f7 false ((q1z os).forCall (fun _ _=>0) ⟨#[],#[.string ⟨#[]⟩,.int .u8 0,.int .u8 0],[]⟩).memory #[.string ⟨#[]⟩,.int .u8 0,.int .u8 0] 8=true:=by kernel_rfl
set_option maxRecDepth 100000 in
theorem valuetextBlanks_lifted (os:Os) (started:os.Started) (H:Type) (enc:TypeId×Value→H) :
  ReturnsInHanded {} Tryz.checked os 7 .any (fun w args=>(Rows.valuetextBlanksSpec.pre enc Tryz.prog Tryz.f7 [] false w args∧laidMetH Tryz.prog laid7 w)∧sizedMet enc Tryz.prog Tryz.f7 (OpenSpec.ofChange Rows.valuetextBlanksSpec) false w args)
   (Rows.valuetextBlanksSpec.post enc Tryz.prog Tryz.f7 false true false false):=by
 refine q8w (C:=Tryz.checked) (X:=fun w _=>laidMetH Tryz.prog laid7 w) (fun _ _ _ hh h=>h.of_heap hh) own started (by kernel_rfl) Tryz.func7
  (ChangeSpec.witness_shaped (enc:=enc) (C:=Tryz.checked) (os:=os) (X:=fun w _=>laidMetH Tryz.prog laid7 w) false (q1z os) #[.string ⟨#[]⟩,.int .u8 0,.int .u8 0] 8 rfl (q8o os _) (valuetextBlanks_ok os) (valuetextBlanks_pre enc os) (valuetextBlanks_sz enc os) (q8n os _)) ?_
 intro W base args ds gs before hval0 hW hsz0 hL hS
 have hsz:(DataW.weightsEach Tryz.prog (Tryz.f7.params.toList++Rows.valuetextBlanksSpec.plain.varTypes Tryz.prog) (ds++gs)).all (·≤reachBytes)=true:=hsz0
 clear hsz0
 have hval:∀ (j:Nat) t v,Tryz.f7.params[j]?=some t→args[j]?=some v→Value.okWide Tryz.prog W .any base t v:=hval0
 have hW':=hW
 obtain ⟨p,q,hA0,hV,rfl,hfz,hnd⟩:=hW
 have hA:DataW.TrodAll enc Tryz.prog W 0 (fun _=>true) true Tryz.f7.params.toList args.toList ds p:=hA0
 rw[Tryz.params7]at hA hval hsz
 obtain ⟨v0,v1,v2,d0,d1,d2,p0,p1,p2,rfl,rfl,rfl,h0,h1,h2⟩:=trodAll_three hA
 obtain ⟨rfl,rfl⟩:=trodVars_none hV
 obtain ⟨x0,f0,r0⟩:=qlx Tryz.underlying9 (hval 0 9 v0 rfl rfl) h0 (q5w hsz (j:=0) (t:=9) rfl rfl)
 obtain ⟨x1,f1,r1⟩:=qly Tryz.underlying5 (hval 1 5 v1 rfl rfl) h1 (q5w hsz (j:=1) (t:=5) rfl rfl)
 obtain ⟨x2,f2,r2⟩:=qly Tryz.underlying5 (hval 2 5 v2 rfl rfl) h2 (q5w hsz (j:=2) (t:=5) rfl rfl)
 have hE:=q8q hL hS
 clear hA0 hval0 hsz
 simp only[List.append_nil]at hW'
 refine (q9k (args:=[.cell (vS x0),.cell (vI .u8 x1),.cell (vI .u8 x2)]) (vs:=#[v0,v1,v2]) hE (fun E E0 G hb he=>gQ03 hb he x0 x1 x2 true (qsb x0 x1 x2 f1.1 f1.2 f2.1 f2.2)) ⟨r0,r1,r2,trivial⟩).mono fun e W' ⟨he,hb⟩=>?_
 subst he
 exact ⟨_,rfl,q9d (pa:=p0++(p1++p2)) (pv:=[]) hW' (fun _ _ _=>trodAll_mk1 (shut_bool Tryz.underlying4 _)) (fun sp hsp=>trodAll_mk3 (q5v valuetextBlanks_row0 valuetextBlanks_lt0 h0 hb (fun q hq=>hW'.lt q (by simp[hq])) sp (fun q hq=>hsp q (by simp[hq]))) (q5v valuetextBlanks_row1 valuetextBlanks_lt1 h1 hb (fun q hq=>hW'.lt q (by simp[hq])) sp (fun q hq=>hsp q (by simp[hq]))) (q5v valuetextBlanks_row2 valuetextBlanks_lt2 h2 hb (fun q hq=>hW'.lt q (by simp[hq])) sp (fun q hq=>hsp q (by simp[hq])))) (fun _ _=>rfl) (by simp) hb (ok_one (by kernel_rfl) rfl (okWide_bool_mk Tryz.underlying4 _))⟩
theorem valuetextBlanks_said:Rows.ValuetextBlanksSaid :=
 OpenClaim.holds_of_wide 7 Tryz.f7 rfl rfl rfl rfl rfl rfl rfl ⟨rfl,rfl,rfl,rfl,rfl⟩ rfl rfl rfl rfl rfl (by kernel_rfl) Tryz.func7 (by kernel_rfl)
  (of_decide_eq_true (by kernel_rfl)) (by unfold Func.isWrapper; first | (rw[if_pos (by decide +kernel)]; kernel_rfl) | (rw[if_neg (by decide +kernel)]; exact ⟨rfl,rfl⟩))
  (fun os started H enc _=>valuetextBlanks_lifted os started H enc)
theorem valuetextBlanks_plain (f : FuncId) (fn : Func) (hf : Tryz.pinned.checked.prog.funcNamed "provision/provisionlaw09.ValuetextBlanks" = some f) (hfn : Tryz.pinned.checked.prog.funcs[f]? = some fn) :
  true=Tryz.pinned.checked.prog.looks []∧∀ (j:Nat) t,fn.params[j]?=some t→Tryz.pinned.checked.prog.wantsStandIn t=false:=by
 obtain rfl : f = 7 := Option.some.inj ((show Tryz.prog.funcNamed "provision/provisionlaw09.ValuetextBlanks" = some 7 by kernel_rfl).symm.trans hf) |>.symm
 obtain rfl:fn=Tryz.f7:=(Option.some.inj (Tryz.func7.symm.trans hfn)).symm
 refine ⟨by kernel_rfl,fun j t ht=>?_⟩
 rw[Tryz.params7]at ht
 have hm:t ∈ [9,5,5]:=by
  have:=Array.mem_of_getElem? ht
  simpa using this
 have hall:([9,5,5].all fun u=>!Tryz.prog.wantsStandIn u)=true:=by kernel_rfl
 exact (show Tryz.prog.wantsStandIn t=false by simpa using List.all_eq_true.1 hall t hm)
theorem valuetextBlanks_card:Rows.ValuetextBlanksCardSaid :=
 Claim7.holds_tied_plain_at .later [] _ _ _ _ valuetextBlanks_said (fun _ h=>by cases h) (by kernel_rfl) (fun _ h=>by cases h) valuetextBlanks_row_tie rfl ⟨rfl,rfl⟩ (by kernel_rfl) rfl valuetextBlanks_plain (by kernel_rfl)
end Go.Proofs.YtpidpioifnnllaaGreatDoor
