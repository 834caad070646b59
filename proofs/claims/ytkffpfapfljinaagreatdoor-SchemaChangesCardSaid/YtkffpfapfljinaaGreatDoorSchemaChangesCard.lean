/-
  For every input the law SchemaChanges answers true: the names that may differ do not depend on the order of the values, and those that require a new object are among them.
  Conditions: the package-level variables that the row lists (tables of math/bits, strconv and utf8, and strconv's two errors) hold what the program's own text lays in them, which the card ties; there is no other condition.
-/
import Derived.Test.YtkffpfapfljinaaGreatDoorFrame
import Derived.Test.YtkffpfapfljinaaGreatDoorOpX
import Derived.Test.YtkffpfapfljinaaGreatDoorPlN
namespace Go.Proofs.YtkffpfapfljinaaGreatDoor
set_option linter.unusedSimpArgs false
set_option linter.unusedVariables false
open Go.ChangeShapes Go.WideShapes Go.ChangeAt Go.RowKit
open Abs
theorem schemaChanges_row0 : Tryz.prog.readableRec 25 = true := by kernel_rfl
theorem schemaChanges_lt0 : 25 < Tryz.prog.types.size := of_decide_eq_true (by kernel_rfl)
theorem schemaChanges_row1 : Tryz.prog.readableRec 34 = true := by kernel_rfl
theorem schemaChanges_lt1 : 34 < Tryz.prog.types.size := of_decide_eq_true (by kernel_rfl)
theorem schemaChanges_row2 : Tryz.prog.readableRec 34 = true := by kernel_rfl
theorem schemaChanges_lt2 : 34 < Tryz.prog.types.size := of_decide_eq_true (by kernel_rfl)
theorem schemaChanges_ok (os : Os) : Input.okWideB Tryz.checked.prog ((q1z os).forCall (fun _ _ => 0) ⟨#[], #[.agg #[.slice none 0 0, .slice none 0 0], .agg #[.int .i64 0, .int .i64 0, .string ⟨#[]⟩, .slice none 0 0, .slice none 0 0], .agg #[.int .i64 0, .int .i64 0, .string ⟨#[]⟩, .slice none 0 0, .slice none 0 0]], []⟩) 8 ⟨#[], #[.agg #[.slice none 0 0, .slice none 0 0], .agg #[.int .i64 0, .int .i64 0, .string ⟨#[]⟩, .slice none 0 0, .slice none 0 0], .agg #[.int .i64 0, .int .i64 0, .string ⟨#[]⟩, .slice none 0 0, .slice none 0 0]], []⟩ = true := by kernel_rfl
theorem schemaChanges_pre {H : Type} (enc : TypeId × Value → H) (os : Os) : Rows.schemaChangesSpec.preB enc Tryz.checked.prog Tryz.f8 [] false ((q1z os).forCall (fun _ _ => 0) ⟨#[], #[.agg #[.slice none 0 0, .slice none 0 0], .agg #[.int .i64 0, .int .i64 0, .string ⟨#[]⟩, .slice none 0 0, .slice none 0 0], .agg #[.int .i64 0, .int .i64 0, .string ⟨#[]⟩, .slice none 0 0, .slice none 0 0]], []⟩).memory #[.agg #[.slice none 0 0, .slice none 0 0], .agg #[.int .i64 0, .int .i64 0, .string ⟨#[]⟩, .slice none 0 0, .slice none 0 0], .agg #[.int .i64 0, .int .i64 0, .string ⟨#[]⟩, .slice none 0 0, .slice none 0 0]] 8 = true := by kernel_rfl
theorem schemaChanges_sz {H : Type} (enc : TypeId × Value → H) (os : Os) : Rows.schemaChangesSpec.sizedB enc Tryz.checked.prog Tryz.f8 false ((q1z os).forCall (fun _ _ => 0) ⟨#[], #[.agg #[.slice none 0 0, .slice none 0 0], .agg #[.int .i64 0, .int .i64 0, .string ⟨#[]⟩, .slice none 0 0, .slice none 0 0], .agg #[.int .i64 0, .int .i64 0, .string ⟨#[]⟩, .slice none 0 0, .slice none 0 0]], []⟩).memory #[.agg #[.slice none 0 0, .slice none 0 0], .agg #[.int .i64 0, .int .i64 0, .string ⟨#[]⟩, .slice none 0 0, .slice none 0 0], .agg #[.int .i64 0, .int .i64 0, .string ⟨#[]⟩, .slice none 0 0, .slice none 0 0]] 8 = true := by kernel_rfl
set_option maxRecDepth 100000 in
theorem schemaChanges_lifted (os : Os) (started : os.Started) (H : Type) (enc : TypeId × Value → H) :
  ReturnsInHanded {} Tryz.checked os 8 .any (fun w args => (Rows.schemaChangesSpec.pre enc Tryz.prog Tryz.f8 [] false w args ∧ laidMetH Tryz.prog laid7 w) ∧ sizedMet enc Tryz.prog Tryz.f8 (OpenSpec.ofChange Rows.schemaChangesSpec) false w args)
   (Rows.schemaChangesSpec.post enc Tryz.prog Tryz.f8 false true false false) := by
 refine returnsInHanded_of_change_and (C := Tryz.checked) (X := fun w _ => laidMetH Tryz.prog laid7 w) (fun _ _ _ hh h => h.of_heap hh) own started (by kernel_rfl) Tryz.func8
  (ChangeSpec.witness_shaped (enc := enc) (C := Tryz.checked) (os := os) (X := fun w _ => laidMetH Tryz.prog laid7 w) false (q1z os) #[.agg #[.slice none 0 0, .slice none 0 0], .agg #[.int .i64 0, .int .i64 0, .string ⟨#[]⟩, .slice none 0 0, .slice none 0 0], .agg #[.int .i64 0, .int .i64 0, .string ⟨#[]⟩, .slice none 0 0, .slice none 0 0]] 8 rfl (q8a os _) (schemaChanges_ok os) (schemaChanges_pre enc os) (schemaChanges_sz enc os) (q89 os _)) ?_
 intro W base args ds gs before hval0 hW _ hsz0 hL _
 have hsz : (DataW.weightsEach Tryz.prog (Tryz.f8.params.toList ++ Rows.schemaChangesSpec.plain.varTypes Tryz.prog) (ds ++ gs)).all (· ≤ reachBytes) = true := hsz0
 clear hsz0
 have hval : ∀ (j : Nat) t v, Tryz.f8.params[j]? = some t → args[j]? = some v → Value.okWide Tryz.prog W .any base t v := hval0
 have hW' := hW
 obtain ⟨p, q, hA0, hV, rfl, hfz, hnd⟩ := hW
 have hA : DataW.TrodAll enc Tryz.prog W 0 (fun _ => true) true Tryz.f8.params.toList args.toList ds p := hA0
 rw [Tryz.params8] at hA hval hsz
 obtain ⟨v0, v1, v2, d0, d1, d2, p0, p1, p2, rfl, rfl, rfl, h0, h1, h2⟩ := trodAll_three hA
 obtain ⟨rfl, rfl⟩ := trodVars_none hV
 obtain ⟨x0, f0, r0⟩ := q2z Tryz.underlying25 q8r (hval 0 25 v0 rfl rfl) h0 (q33 hsz (j := 0) (t := 25) rfl rfl)
 obtain ⟨x1, f1, r1⟩ := q2z Tryz.underlying34 q4r (hval 1 34 v1 rfl rfl) h1 (q33 hsz (j := 1) (t := 34) rfl rfl)
 obtain ⟨x2, f2, r2⟩ := q2z Tryz.underlying34 q4r (hval 2 34 v2 rfl rfl) h2 (q33 hsz (j := 2) (t := 34) rfl rfl)
 have hE := q8c hL
 clear hA0 hval0 hsz
 simp only [List.append_nil] at hW'
 refine (q92 (args := [.agg [vL q7 x0.attrs, vL qd x0.nested], .agg (aV x1), .agg (aV x2)]) (vs := #[v0, v1, v2]) hE (fun E E0 G hb he => gQ0r hb he x0 x1 x2 true (qqe x0 x1 x2 f0 f1 f2)) ⟨r0, r1, r2, trivial⟩).mono fun e W' ⟨he, hb⟩ => ?_
 subst he
 exact ⟨_, rfl, q8y (pa := p0 ++ (p1 ++ p2)) (pv := []) hW' (fun _ _ _ => trodAll_mk1 (shut_bool Tryz.underlying4 _)) (fun sp hsp => trodAll_mk3 (q31 schemaChanges_row0 schemaChanges_lt0 h0 hb (fun q hq => hW'.lt q (by simp [hq])) sp (fun q hq => hsp q (by simp [hq]))) (q31 schemaChanges_row1 schemaChanges_lt1 h1 hb (fun q hq => hW'.lt q (by simp [hq])) sp (fun q hq => hsp q (by simp [hq]))) (q31 schemaChanges_row2 schemaChanges_lt2 h2 hb (fun q hq => hW'.lt q (by simp [hq])) sp (fun q hq => hsp q (by simp [hq])))) (fun _ _ => rfl) (by simp) hb (ok_one (by kernel_rfl) rfl (okWide_bool_mk Tryz.underlying4 _))⟩
theorem schemaChanges_said : Rows.SchemaChangesSaid :=
 OpenClaim.holds_of_wide 8 Tryz.f8 rfl rfl rfl rfl rfl rfl rfl ⟨rfl, rfl, rfl, rfl, rfl⟩ rfl rfl rfl rfl rfl (by kernel_rfl) Tryz.func8 (by kernel_rfl)
  (of_decide_eq_true (by kernel_rfl)) (by unfold Func.isWrapper; first | (rw [if_pos (by decide +kernel)]; kernel_rfl) | (rw [if_neg (by decide +kernel)]; exact ⟨rfl, rfl⟩))
  (fun os started H enc _ => schemaChanges_lifted os started H enc)
theorem schemaChanges_plain (f : FuncId) (fn : Func) (hf : Tryz.pinned.checked.prog.funcNamed "provision/provisionlaw12.SchemaChanges" = some f) (hfn : Tryz.pinned.checked.prog.funcs[f]? = some fn) :
  true = Tryz.pinned.checked.prog.looks [] ∧ ∀ (j : Nat) t, fn.params[j]? = some t → Tryz.pinned.checked.prog.wantsStandIn t = false := by
 obtain rfl : f = 8 := Option.some.inj ((show Tryz.prog.funcNamed "provision/provisionlaw12.SchemaChanges" = some 8 by kernel_rfl).symm.trans hf) |>.symm
 obtain rfl : fn = Tryz.f8 := (Option.some.inj (Tryz.func8.symm.trans hfn)).symm
 refine ⟨by kernel_rfl, fun j t ht => ?_⟩
 rw [Tryz.params8] at ht
 have hm : t ∈ [25, 34, 34] := by
  have := Array.mem_of_getElem? ht
  simpa using this
 have hall : ([25, 34, 34].all fun u => !Tryz.prog.wantsStandIn u) = true := by kernel_rfl
 exact (show Tryz.prog.wantsStandIn t = false by simpa using List.all_eq_true.1 hall t hm)
theorem schemaChanges_card : Rows.SchemaChangesCardSaid :=
 Claim7.holds_tied_plain_at .later [] _ _ _ _ schemaChanges_said (fun _ h => by cases h) (by kernel_rfl) (fun _ h => by cases h) schemaChanges_row_tie rfl ⟨rfl, rfl⟩ (by kernel_rfl) rfl schemaChanges_plain (by kernel_rfl)
end Go.Proofs.YtkffpfapfljinaaGreatDoor
