/-
  For every input the law SchemaAgain answers true: a configuration that was coerced is coerced to itself, and conforms to the type of the schema.
  Conditions: the package-level variables that the row lists (tables of math/bits, strconv and utf8, and strconv's two errors) hold what the program's own text lays in them, which the card ties; there is no other condition.
-/
import Derived.Test.YtkffpfapfljinaaGreatDoorFrame
import Derived.Test.YtkffpfapfljinaaGreatDoorOpX
import Derived.Test.YtkffpfapfljinaaGreatDoorPlQ
namespace Go.Proofs.YtkffpfapfljinaaGreatDoor
set_option linter.unusedSimpArgs false
set_option linter.unusedVariables false
open Go.ChangeShapes Go.WideShapes Go.ChangeAt Go.RowKit
open Abs
theorem schemaAgain_row0 : Tryz.prog.readableRec 25 = true := by kernel_rfl
theorem schemaAgain_lt0 : 25 < Tryz.prog.types.size := of_decide_eq_true (by kernel_rfl)
theorem schemaAgain_row1 : Tryz.prog.readableRec 34 = true := by kernel_rfl
theorem schemaAgain_lt1 : 34 < Tryz.prog.types.size := of_decide_eq_true (by kernel_rfl)
theorem schemaAgain_ok (os : Os) : Input.okWideB Tryz.checked.prog ((laidWorld os).forCall (fun _ _ => 0) ⟨#[], #[.agg #[.slice none 0 0, .slice none 0 0], .agg #[.int .i64 0, .int .i64 0, .string ⟨#[]⟩, .slice none 0 0, .slice none 0 0]], []⟩) 5 ⟨#[], #[.agg #[.slice none 0 0, .slice none 0 0], .agg #[.int .i64 0, .int .i64 0, .string ⟨#[]⟩, .slice none 0 0, .slice none 0 0]], []⟩ = true := by kernel_rfl
theorem schemaAgain_pre {H : Type} (enc : TypeId × Value → H) (os : Os) : Rows.schemaAgainSpec.preB enc Tryz.checked.prog Tryz.f5 [] false ((laidWorld os).forCall (fun _ _ => 0) ⟨#[], #[.agg #[.slice none 0 0, .slice none 0 0], .agg #[.int .i64 0, .int .i64 0, .string ⟨#[]⟩, .slice none 0 0, .slice none 0 0]], []⟩).memory #[.agg #[.slice none 0 0, .slice none 0 0], .agg #[.int .i64 0, .int .i64 0, .string ⟨#[]⟩, .slice none 0 0, .slice none 0 0]] 8 = true := by kernel_rfl
theorem schemaAgain_sz {H : Type} (enc : TypeId × Value → H) (os : Os) : Rows.schemaAgainSpec.sizedB enc Tryz.checked.prog Tryz.f5 false ((laidWorld os).forCall (fun _ _ => 0) ⟨#[], #[.agg #[.slice none 0 0, .slice none 0 0], .agg #[.int .i64 0, .int .i64 0, .string ⟨#[]⟩, .slice none 0 0, .slice none 0 0]], []⟩).memory #[.agg #[.slice none 0 0, .slice none 0 0], .agg #[.int .i64 0, .int .i64 0, .string ⟨#[]⟩, .slice none 0 0, .slice none 0 0]] 8 = true := by kernel_rfl
set_option maxRecDepth 100000 in
theorem schemaAgain_lifted (os : Os) (started : os.Started) (H : Type) (enc : TypeId × Value → H) :
  ReturnsInHanded {} Tryz.checked os 5 .any (fun w args => (Rows.schemaAgainSpec.pre enc Tryz.prog Tryz.f5 [] false w args ∧ laidMetH Tryz.prog laid7 w) ∧ sizedMet enc Tryz.prog Tryz.f5 (OpenSpec.ofChange Rows.schemaAgainSpec) false w args)
   (Rows.schemaAgainSpec.post enc Tryz.prog Tryz.f5 false true false false) := by
 refine returnsInHanded_of_change_and (C := Tryz.checked) (X := fun w _ => laidMetH Tryz.prog laid7 w) (fun _ _ _ hh h => h.of_heap hh) own started (by kernel_rfl) Tryz.func5
  (ChangeSpec.witness_shaped (enc := enc) (C := Tryz.checked) (os := os) (X := fun w _ => laidMetH Tryz.prog laid7 w) false (laidWorld os) #[.agg #[.slice none 0 0, .slice none 0 0], .agg #[.int .i64 0, .int .i64 0, .string ⟨#[]⟩, .slice none 0 0, .slice none 0 0]] 8 rfl (door_shaped os _) (schemaAgain_ok os) (schemaAgain_pre enc os) (schemaAgain_sz enc os) (door_met os _)) ?_
 intro W base args ds gs before hval0 hW _ hsz0 hL _
 have hsz : (DataW.weightsEach Tryz.prog (Tryz.f5.params.toList ++ Rows.schemaAgainSpec.plain.varTypes Tryz.prog) (ds ++ gs)).all (· ≤ reachBytes) = true := hsz0
 clear hsz0
 have hval : ∀ (j : Nat) t v, Tryz.f5.params[j]? = some t → args[j]? = some v → Value.okWide Tryz.prog W .any base t v := hval0
 have hW' := hW
 obtain ⟨p, q, hA0, hV, rfl, hfz, hnd⟩ := hW
 have hA : DataW.TrodAll enc Tryz.prog W 0 (fun _ => true) true Tryz.f5.params.toList args.toList ds p := hA0
 rw [Tryz.params5] at hA hval hsz
 obtain ⟨v0, v1, d0, d1, p0, p1, rfl, rfl, rfl, h0, h1⟩ := trodAll_two hA
 obtain ⟨rfl, rfl⟩ := trodVars_none hV
 obtain ⟨x0, f0, r0⟩ := open_arg Tryz.underlying25 open_SchemaG (hval 0 25 v0 rfl rfl) h0 (weights_at hsz (j := 0) (t := 25) rfl rfl)
 obtain ⟨x1, f1, r1⟩ := open_arg Tryz.underlying34 open_val (hval 1 34 v1 rfl rfl) h1 (weights_at hsz (j := 1) (t := 34) rfl rfl)
 have hE := env_of_laid hL
 clear hA0 hval0 hsz
 simp only [List.append_nil] at hW'
 refine (run_of (args := [.agg [vL flAttrG x0.attrs, vL flNestedG x0.nested], .agg (aV x1)]) (vs := #[v0, v1]) hE (fun E E0 G hb he => gQ0p hb he x0 x1 true (law_Again x0 x1 f0 f1)) ⟨r0, r1, trivial⟩).mono fun e W' ⟨he, hb⟩ => ?_
 subst he
 exact ⟨_, rfl, post_of_below (pa := p0 ++ p1) (pv := []) hW' (fun _ _ _ => trodAll_mk1 (shut_bool Tryz.underlying4 _)) (fun sp hsp => trodAll_mk2 (trod_stay schemaAgain_row0 schemaAgain_lt0 h0 hb (fun q hq => hW'.lt q (by simp [hq])) sp (fun q hq => hsp q (by simp [hq]))) (trod_stay schemaAgain_row1 schemaAgain_lt1 h1 hb (fun q hq => hW'.lt q (by simp [hq])) sp (fun q hq => hsp q (by simp [hq])))) (fun _ _ => rfl) (by simp) hb (ok_one (by kernel_rfl) rfl (okWide_bool_mk Tryz.underlying4 _))⟩
theorem schemaAgain_said : Rows.SchemaAgainSaid :=
 OpenClaim.holds_of_wide 5 Tryz.f5 rfl rfl rfl rfl rfl rfl rfl ⟨rfl, rfl, rfl, rfl, rfl⟩ rfl rfl rfl rfl rfl (by kernel_rfl) Tryz.func5 (by kernel_rfl)
  (of_decide_eq_true (by kernel_rfl)) (by unfold Func.isWrapper; first | (rw [if_pos (by decide +kernel)]; kernel_rfl) | (rw [if_neg (by decide +kernel)]; exact ⟨rfl, rfl⟩))
  (fun os started H enc _ => schemaAgain_lifted os started H enc)
theorem schemaAgain_plain (f : FuncId) (fn : Func) (hf : Tryz.pinned.checked.prog.funcNamed "provision/provisionlaw12.SchemaAgain" = some f) (hfn : Tryz.pinned.checked.prog.funcs[f]? = some fn) :
  true = Tryz.pinned.checked.prog.looks [] ∧ ∀ (j : Nat) t, fn.params[j]? = some t → Tryz.pinned.checked.prog.wantsStandIn t = false := by
 obtain rfl : f = 5 := Option.some.inj ((show Tryz.prog.funcNamed "provision/provisionlaw12.SchemaAgain" = some 5 by kernel_rfl).symm.trans hf) |>.symm
 obtain rfl : fn = Tryz.f5 := (Option.some.inj (Tryz.func5.symm.trans hfn)).symm
 refine ⟨by kernel_rfl, fun j t ht => ?_⟩
 rw [Tryz.params5] at ht
 have hm : t ∈ [25, 34] := by
  have := Array.mem_of_getElem? ht
  simpa using this
 have hall : ([25, 34].all fun u => !Tryz.prog.wantsStandIn u) = true := by kernel_rfl
 exact (show Tryz.prog.wantsStandIn t = false by simpa using List.all_eq_true.1 hall t hm)
theorem schemaAgain_card : Rows.SchemaAgainCardSaid :=
 Claim7.holds_tied_plain_at .later [] _ _ _ _ schemaAgain_said (fun _ h => by cases h) (by kernel_rfl) (fun _ h => by cases h) schemaAgain_row_tie rfl ⟨rfl, rfl⟩ (by kernel_rfl) rfl schemaAgain_plain (by kernel_rfl)
end Go.Proofs.YtkffpfapfljinaaGreatDoor
