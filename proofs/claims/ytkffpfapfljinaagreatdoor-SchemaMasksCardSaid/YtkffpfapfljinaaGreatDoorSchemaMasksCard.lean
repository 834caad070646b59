/-
  For every input the law SchemaMasks answers true: a value's sensitive attributes that are not null are hidden, those of nested kinds too, and nothing else changes.
  Conditions: the package-level variables that the row lists (tables of math/bits, strconv and utf8, and strconv's two errors) hold what the program's own text lays in them, which the card ties; there is no other condition.
-/
import Derived.Test.YtkffpfapfljinaaGreatDoorFrame
import Derived.Test.YtkffpfapfljinaaGreatDoorOpX
import Derived.Test.YtkffpfapfljinaaGreatDoorPlV
namespace Go.Proofs.YtkffpfapfljinaaGreatDoor
set_option linter.unusedSimpArgs false
set_option linter.unusedVariables false
open Go.ChangeShapes Go.WideShapes Go.ChangeAt Go.RowKit
open Abs
theorem schemaMasks_row0 : Tryz.prog.readableRec 25 = true := by kernel_rfl
theorem schemaMasks_lt0 : 25 < Tryz.prog.types.size := of_decide_eq_true (by kernel_rfl)
theorem schemaMasks_row1 : Tryz.prog.readableRec 34 = true := by kernel_rfl
theorem schemaMasks_lt1 : 34 < Tryz.prog.types.size := of_decide_eq_true (by kernel_rfl)
theorem schemaMasks_ok (os : Os) : Input.okWideB Tryz.checked.prog ((q1z os).forCall (fun _ _ => 0) ⟨#[], #[.agg #[.slice none 0 0, .slice none 0 0], .agg #[.int .i64 0, .int .i64 0, .string ⟨#[]⟩, .slice none 0 0, .slice none 0 0]], []⟩) 10 ⟨#[], #[.agg #[.slice none 0 0, .slice none 0 0], .agg #[.int .i64 0, .int .i64 0, .string ⟨#[]⟩, .slice none 0 0, .slice none 0 0]], []⟩ = true := by kernel_rfl
theorem schemaMasks_pre {H : Type} (enc : TypeId × Value → H) (os : Os) : Rows.schemaMasksSpec.preB enc Tryz.checked.prog Tryz.f10 [] false ((q1z os).forCall (fun _ _ => 0) ⟨#[], #[.agg #[.slice none 0 0, .slice none 0 0], .agg #[.int .i64 0, .int .i64 0, .string ⟨#[]⟩, .slice none 0 0, .slice none 0 0]], []⟩).memory #[.agg #[.slice none 0 0, .slice none 0 0], .agg #[.int .i64 0, .int .i64 0, .string ⟨#[]⟩, .slice none 0 0, .slice none 0 0]] 8 = true := by kernel_rfl
theorem schemaMasks_sz {H : Type} (enc : TypeId × Value → H) (os : Os) : Rows.schemaMasksSpec.sizedB enc Tryz.checked.prog Tryz.f10 false ((q1z os).forCall (fun _ _ => 0) ⟨#[], #[.agg #[.slice none 0 0, .slice none 0 0], .agg #[.int .i64 0, .int .i64 0, .string ⟨#[]⟩, .slice none 0 0, .slice none 0 0]], []⟩).memory #[.agg #[.slice none 0 0, .slice none 0 0], .agg #[.int .i64 0, .int .i64 0, .string ⟨#[]⟩, .slice none 0 0, .slice none 0 0]] 8 = true := by kernel_rfl
set_option maxRecDepth 100000 in
theorem schemaMasks_lifted (os : Os) (started : os.Started) (H : Type) (enc : TypeId × Value → H) :
  ReturnsInHanded {} Tryz.checked os 10 .any (fun w args => (Rows.schemaMasksSpec.pre enc Tryz.prog Tryz.f10 [] false w args ∧ laidMetH Tryz.prog laid7 w) ∧ sizedMet enc Tryz.prog Tryz.f10 (OpenSpec.ofChange Rows.schemaMasksSpec) false w args)
   (Rows.schemaMasksSpec.post enc Tryz.prog Tryz.f10 false true false false) := by
 refine returnsInHanded_of_change_and (C := Tryz.checked) (X := fun w _ => laidMetH Tryz.prog laid7 w) (fun _ _ _ hh h => h.of_heap hh) own started (by kernel_rfl) Tryz.func10
  (ChangeSpec.witness_shaped (enc := enc) (C := Tryz.checked) (os := os) (X := fun w _ => laidMetH Tryz.prog laid7 w) false (q1z os) #[.agg #[.slice none 0 0, .slice none 0 0], .agg #[.int .i64 0, .int .i64 0, .string ⟨#[]⟩, .slice none 0 0, .slice none 0 0]] 8 rfl (q8a os _) (schemaMasks_ok os) (schemaMasks_pre enc os) (schemaMasks_sz enc os) (q89 os _)) ?_
 intro W base args ds gs before hval0 hW _ hsz0 hL _
 have hsz : (DataW.weightsEach Tryz.prog (Tryz.f10.params.toList ++ Rows.schemaMasksSpec.plain.varTypes Tryz.prog) (ds ++ gs)).all (· ≤ reachBytes) = true := hsz0
 clear hsz0
 have hval : ∀ (j : Nat) t v, Tryz.f10.params[j]? = some t → args[j]? = some v → Value.okWide Tryz.prog W .any base t v := hval0
 have hW' := hW
 obtain ⟨p, q, hA0, hV, rfl, hfz, hnd⟩ := hW
 have hA : DataW.TrodAll enc Tryz.prog W 0 (fun _ => true) true Tryz.f10.params.toList args.toList ds p := hA0
 rw [Tryz.params10] at hA hval hsz
 obtain ⟨v0, v1, d0, d1, p0, p1, rfl, rfl, rfl, h0, h1⟩ := trodAll_two hA
 obtain ⟨rfl, rfl⟩ := trodVars_none hV
 obtain ⟨x0, f0, r0⟩ := q2z Tryz.underlying25 q8r (hval 0 25 v0 rfl rfl) h0 (q33 hsz (j := 0) (t := 25) rfl rfl)
 obtain ⟨x1, f1, r1⟩ := q2z Tryz.underlying34 q4r (hval 1 34 v1 rfl rfl) h1 (q33 hsz (j := 1) (t := 34) rfl rfl)
 have hE := q8c hL
 clear hA0 hval0 hsz
 simp only [List.append_nil] at hW'
 refine (q92 (args := [.agg [vL q7 x0.attrs, vL qd x0.nested], .agg (aV x1)]) (vs := #[v0, v1]) hE (fun E E0 G hb he => gQ0v hb he x0 x1 true (qqg x0 x1 f0 f1)) ⟨r0, r1, trivial⟩).mono fun e W' ⟨he, hb⟩ => ?_
 subst he
 exact ⟨_, rfl, q8y (pa := p0 ++ p1) (pv := []) hW' (fun _ _ _ => trodAll_mk1 (shut_bool Tryz.underlying4 _)) (fun sp hsp => trodAll_mk2 (q31 schemaMasks_row0 schemaMasks_lt0 h0 hb (fun q hq => hW'.lt q (by simp [hq])) sp (fun q hq => hsp q (by simp [hq]))) (q31 schemaMasks_row1 schemaMasks_lt1 h1 hb (fun q hq => hW'.lt q (by simp [hq])) sp (fun q hq => hsp q (by simp [hq])))) (fun _ _ => rfl) (by simp) hb (ok_one (by kernel_rfl) rfl (okWide_bool_mk Tryz.underlying4 _))⟩
theorem schemaMasks_said : Rows.SchemaMasksSaid :=
 OpenClaim.holds_of_wide 10 Tryz.f10 rfl rfl rfl rfl rfl rfl rfl ⟨rfl, rfl, rfl, rfl, rfl⟩ rfl rfl rfl rfl rfl (by kernel_rfl) Tryz.func10 (by kernel_rfl)
  (of_decide_eq_true (by kernel_rfl)) (by unfold Func.isWrapper; first | (rw [if_pos (by decide +kernel)]; kernel_rfl) | (rw [if_neg (by decide +kernel)]; exact ⟨rfl, rfl⟩))
  (fun os started H enc _ => schemaMasks_lifted os started H enc)
theorem schemaMasks_plain (f : FuncId) (fn : Func) (hf : Tryz.pinned.checked.prog.funcNamed "provision/provisionlaw12.SchemaMasks" = some f) (hfn : Tryz.pinned.checked.prog.funcs[f]? = some fn) :
  true = Tryz.pinned.checked.prog.looks [] ∧ ∀ (j : Nat) t, fn.params[j]? = some t → Tryz.pinned.checked.prog.wantsStandIn t = false := by
 obtain rfl : f = 10 := Option.some.inj ((show Tryz.prog.funcNamed "provision/provisionlaw12.SchemaMasks" = some 10 by kernel_rfl).symm.trans hf) |>.symm
 obtain rfl : fn = Tryz.f10 := (Option.some.inj (Tryz.func10.symm.trans hfn)).symm
 refine ⟨by kernel_rfl, fun j t ht => ?_⟩
 rw [Tryz.params10] at ht
 have hm : t ∈ [25, 34] := by
  have := Array.mem_of_getElem? ht
  simpa using this
 have hall : ([25, 34].all fun u => !Tryz.prog.wantsStandIn u) = true := by kernel_rfl
 exact (show Tryz.prog.wantsStandIn t = false by simpa using List.all_eq_true.1 hall t hm)
theorem schemaMasks_card : Rows.SchemaMasksCardSaid :=
 Claim7.holds_tied_plain_at .later [] _ _ _ _ schemaMasks_said (fun _ h => by cases h) (by kernel_rfl) (fun _ h => by cases h) schemaMasks_row_tie rfl ⟨rfl, rfl⟩ (by kernel_rfl) rfl schemaMasks_plain (by kernel_rfl)
end Go.Proofs.YtkffpfapfljinaaGreatDoor
