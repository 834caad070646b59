/-
  For every input the law SchemaPlans answers true: a final value is accepted exactly if the chapter says so, and plans keep the prior values of computed attributes.
  Conditions: the package-level variables that the row lists (tables of math/bits, strconv and utf8, and strconv's two errors) hold what the program's own text lays in them, which the card ties; there is no other condition.
-/
import Derived.Test.YtkffpfapfljinaaGreatDoorFrame
import Derived.Test.YtkffpfapfljinaaGreatDoorOpX
import Derived.Test.YtkffpfapfljinaaGreatDoorPlQ
namespace Go.Proofs.YtkffpfapfljinaaGreatDoor
set_option linter.unusedSimpArgs false
set_option linter.unusedVariables false
open Go.ChangeShapes Go.WideShapes Go.ChangeAt Go.RowKit
open Abs
theorem schemaPlans_row0 : Tryz.prog.readableRec 25 = true := by kernel_rfl
theorem schemaPlans_lt0 : 25 < Tryz.prog.types.size := of_decide_eq_true (by kernel_rfl)
theorem schemaPlans_row1 : Tryz.prog.readableRec 34 = true := by kernel_rfl
theorem schemaPlans_lt1 : 34 < Tryz.prog.types.size := of_decide_eq_true (by kernel_rfl)
theorem schemaPlans_row2 : Tryz.prog.readableRec 34 = true := by kernel_rfl
theorem schemaPlans_lt2 : 34 < Tryz.prog.types.size := of_decide_eq_true (by kernel_rfl)
theorem schemaPlans_row3 : Tryz.prog.readableRec 34 = true := by kernel_rfl
theorem schemaPlans_lt3 : 34 < Tryz.prog.types.size := of_decide_eq_true (by kernel_rfl)
theorem schemaPlans_ok (os : Os) : Input.okWideB Tryz.checked.prog ((q1z os).forCall (fun _ _ => 0) ⟨#[], #[.agg #[.slice none 0 0, .slice none 0 0], .agg #[.int .i64 0, .int .i64 0, .string ⟨#[]⟩, .slice none 0 0, .slice none 0 0], .agg #[.int .i64 0, .int .i64 0, .string ⟨#[]⟩, .slice none 0 0, .slice none 0 0], .agg #[.int .i64 0, .int .i64 0, .string ⟨#[]⟩, .slice none 0 0, .slice none 0 0]], []⟩) 7 ⟨#[], #[.agg #[.slice none 0 0, .slice none 0 0], .agg #[.int .i64 0, .int .i64 0, .string ⟨#[]⟩, .slice none 0 0, .slice none 0 0], .agg #[.int .i64 0, .int .i64 0, .string ⟨#[]⟩, .slice none 0 0, .slice none 0 0], .agg #[.int .i64 0, .int .i64 0, .string ⟨#[]⟩, .slice none 0 0, .slice none 0 0]], []⟩ = true := by kernel_rfl
theorem schemaPlans_pre {H : Type} (enc : TypeId × Value → H) (os : Os) : Rows.schemaPlansSpec.preB enc Tryz.checked.prog Tryz.f7 [] false ((q1z os).forCall (fun _ _ => 0) ⟨#[], #[.agg #[.slice none 0 0, .slice none 0 0], .agg #[.int .i64 0, .int .i64 0, .string ⟨#[]⟩, .slice none 0 0, .slice none 0 0], .agg #[.int .i64 0, .int .i64 0, .string ⟨#[]⟩, .slice none 0 0, .slice none 0 0], .agg #[.int .i64 0, .int .i64 0, .string ⟨#[]⟩, .slice none 0 0, .slice none 0 0]], []⟩).memory #[.agg #[.slice none 0 0, .slice none 0 0], .agg #[.int .i64 0, .int .i64 0, .string ⟨#[]⟩, .slice none 0 0, .slice none 0 0], .agg #[.int .i64 0, .int .i64 0, .string ⟨#[]⟩, .slice none 0 0, .slice none 0 0], .agg #[.int .i64 0, .int .i64 0, .string ⟨#[]⟩, .slice none 0 0, .slice none 0 0]] 8 = true := by kernel_rfl
theorem schemaPlans_sz {H : Type} (enc : TypeId × Value → H) (os : Os) : Rows.schemaPlansSpec.sizedB enc Tryz.checked.prog Tryz.f7 false ((q1z os).forCall (fun _ _ => 0) ⟨#[], #[.agg #[.slice none 0 0, .slice none 0 0], .agg #[.int .i64 0, .int .i64 0, .string ⟨#[]⟩, .slice none 0 0, .slice none 0 0], .agg #[.int .i64 0, .int .i64 0, .string ⟨#[]⟩, .slice none 0 0, .slice none 0 0], .agg #[.int .i64 0, .int .i64 0, .string ⟨#[]⟩, .slice none 0 0, .slice none 0 0]], []⟩).memory #[.agg #[.slice none 0 0, .slice none 0 0], .agg #[.int .i64 0, .int .i64 0, .string ⟨#[]⟩, .slice none 0 0, .slice none 0 0], .agg #[.int .i64 0, .int .i64 0, .string ⟨#[]⟩, .slice none 0 0, .slice none 0 0], .agg #[.int .i64 0, .int .i64 0, .string ⟨#[]⟩, .slice none 0 0, .slice none 0 0]] 8 = true := by kernel_rfl
set_option maxRecDepth 100000 in
theorem schemaPlans_lifted (os : Os) (started : os.Started) (H : Type) (enc : TypeId × Value → H) :
  ReturnsInHanded {} Tryz.checked os 7 .any (fun w args => (Rows.schemaPlansSpec.pre enc Tryz.prog Tryz.f7 [] false w args ∧ laidMetH Tryz.prog laid7 w) ∧ sizedMet enc Tryz.prog Tryz.f7 (OpenSpec.ofChange Rows.schemaPlansSpec) false w args)
   (Rows.schemaPlansSpec.post enc Tryz.prog Tryz.f7 false true false false) := by
 refine returnsInHanded_of_change_and (C := Tryz.checked) (X := fun w _ => laidMetH Tryz.prog laid7 w) (fun _ _ _ hh h => h.of_heap hh) own started (by kernel_rfl) Tryz.func7
  (ChangeSpec.witness_shaped (enc := enc) (C := Tryz.checked) (os := os) (X := fun w _ => laidMetH Tryz.prog laid7 w) false (q1z os) #[.agg #[.slice none 0 0, .slice none 0 0], .agg #[.int .i64 0, .int .i64 0, .string ⟨#[]⟩, .slice none 0 0, .slice none 0 0], .agg #[.int .i64 0, .int .i64 0, .string ⟨#[]⟩, .slice none 0 0, .slice none 0 0], .agg #[.int .i64 0, .int .i64 0, .string ⟨#[]⟩, .slice none 0 0, .slice none 0 0]] 8 rfl (q8a os _) (schemaPlans_ok os) (schemaPlans_pre enc os) (schemaPlans_sz enc os) (q89 os _)) ?_
 intro W base args ds gs before hval0 hW _ hsz0 hL _
 have hsz : (DataW.weightsEach Tryz.prog (Tryz.f7.params.toList ++ Rows.schemaPlansSpec.plain.varTypes Tryz.prog) (ds ++ gs)).all (· ≤ reachBytes) = true := hsz0
 clear hsz0
 have hval : ∀ (j : Nat) t v, Tryz.f7.params[j]? = some t → args[j]? = some v → Value.okWide Tryz.prog W .any base t v := hval0
 have hW' := hW
 obtain ⟨p, q, hA0, hV, rfl, hfz, hnd⟩ := hW
 have hA : DataW.TrodAll enc Tryz.prog W 0 (fun _ => true) true Tryz.f7.params.toList args.toList ds p := hA0
 rw [Tryz.params7] at hA hval hsz
 obtain ⟨v0, v1, v2, v3, d0, d1, d2, d3, p0, p1, p2, p3, rfl, rfl, rfl, h0, h1, h2, h3⟩ := trodAll_four hA
 obtain ⟨rfl, rfl⟩ := trodVars_none hV
 obtain ⟨x0, f0, r0⟩ := q2z Tryz.underlying25 q8r (hval 0 25 v0 rfl rfl) h0 (q33 hsz (j := 0) (t := 25) rfl rfl)
 obtain ⟨x1, f1, r1⟩ := q2z Tryz.underlying34 q4r (hval 1 34 v1 rfl rfl) h1 (q33 hsz (j := 1) (t := 34) rfl rfl)
 obtain ⟨x2, f2, r2⟩ := q2z Tryz.underlying34 q4r (hval 2 34 v2 rfl rfl) h2 (q33 hsz (j := 2) (t := 34) rfl rfl)
 obtain ⟨x3, f3, r3⟩ := q2z Tryz.underlying34 q4r (hval 3 34 v3 rfl rfl) h3 (q33 hsz (j := 3) (t := 34) rfl rfl)
 have hE := q8c hL
 clear hA0 hval0 hsz
 simp only [List.append_nil] at hW'
 refine (q92 (args := [.agg [vL q7 x0.attrs, vL qd x0.nested], .agg (aV x1), .agg (aV x2), .agg (aV x3)]) (vs := #[v0, v1, v2, v3]) hE (fun E E0 G hb he => gQ18 hb he x0 x1 x2 x3 true (qqh x0 x1 x2 x3 f0 f1 f2 f3)) ⟨r0, r1, r2, r3, trivial⟩).mono fun e W' ⟨he, hb⟩ => ?_
 subst he
 exact ⟨_, rfl, q8y (pa := p0 ++ (p1 ++ (p2 ++ p3))) (pv := []) hW' (fun _ _ _ => trodAll_mk1 (shut_bool Tryz.underlying4 _)) (fun sp hsp => trodAll_mk4 (q31 schemaPlans_row0 schemaPlans_lt0 h0 hb (fun q hq => hW'.lt q (by simp [hq])) sp (fun q hq => hsp q (by simp [hq]))) (q31 schemaPlans_row1 schemaPlans_lt1 h1 hb (fun q hq => hW'.lt q (by simp [hq])) sp (fun q hq => hsp q (by simp [hq]))) (q31 schemaPlans_row2 schemaPlans_lt2 h2 hb (fun q hq => hW'.lt q (by simp [hq])) sp (fun q hq => hsp q (by simp [hq]))) (q31 schemaPlans_row3 schemaPlans_lt3 h3 hb (fun q hq => hW'.lt q (by simp [hq])) sp (fun q hq => hsp q (by simp [hq])))) (fun _ _ => rfl) (by simp) hb (ok_one (by kernel_rfl) rfl (okWide_bool_mk Tryz.underlying4 _))⟩
theorem schemaPlans_said : Rows.SchemaPlansSaid :=
 OpenClaim.holds_of_wide 7 Tryz.f7 rfl rfl rfl rfl rfl rfl rfl ⟨rfl, rfl, rfl, rfl, rfl⟩ rfl rfl rfl rfl rfl (by kernel_rfl) Tryz.func7 (by kernel_rfl)
  (of_decide_eq_true (by kernel_rfl)) (by unfold Func.isWrapper; first | (rw [if_pos (by decide +kernel)]; kernel_rfl) | (rw [if_neg (by decide +kernel)]; exact ⟨rfl, rfl⟩))
  (fun os started H enc _ => schemaPlans_lifted os started H enc)
theorem schemaPlans_plain (f : FuncId) (fn : Func) (hf : Tryz.pinned.checked.prog.funcNamed "provision/provisionlaw12.SchemaPlans" = some f) (hfn : Tryz.pinned.checked.prog.funcs[f]? = some fn) :
  true = Tryz.pinned.checked.prog.looks [] ∧ ∀ (j : Nat) t, fn.params[j]? = some t → Tryz.pinned.checked.prog.wantsStandIn t = false := by
 obtain rfl : f = 7 := Option.some.inj ((show Tryz.prog.funcNamed "provision/provisionlaw12.SchemaPlans" = some 7 by kernel_rfl).symm.trans hf) |>.symm
 obtain rfl : fn = Tryz.f7 := (Option.some.inj (Tryz.func7.symm.trans hfn)).symm
 refine ⟨by kernel_rfl, fun j t ht => ?_⟩
 rw [Tryz.params7] at ht
 have hm : t ∈ [25, 34, 34, 34] := by
  have := Array.mem_of_getElem? ht
  simpa using this
 have hall : ([25, 34, 34, 34].all fun u => !Tryz.prog.wantsStandIn u) = true := by kernel_rfl
 exact (show Tryz.prog.wantsStandIn t = false by simpa using List.all_eq_true.1 hall t hm)
theorem schemaPlans_card : Rows.SchemaPlansCardSaid :=
 Claim7.holds_tied_plain_at .later [] _ _ _ _ schemaPlans_said (fun _ h => by cases h) (by kernel_rfl) (fun _ h => by cases h) schemaPlans_row_tie rfl ⟨rfl, rfl⟩ (by kernel_rfl) rfl schemaPlans_plain (by kernel_rfl)
end Go.Proofs.YtkffpfapfljinaaGreatDoor
