/-
  For every input the law ConvertValues answers true: the converted value, or the error, and whether the conversion is lossless, are those of the reference.
  Conditions: the package-level variables that the row lists (tables of math/bits, strconv and utf8, and strconv's two errors) hold what the program's own text lays in them, which the card ties; there is no other condition.
-/
import Derived.Test.YtkmhhboihgckcaaGreatDoorCvFrame
import Derived.Test.YtkmhhboihgckcaaGreatDoorPlY
namespace Go.Proofs.YtkmhhboihgckcaaGreatDoor
open Go.ChangeShapes Go.WideShapes Go.ChangeAt Go.RowKit
open Abs

theorem convertValues_ok (os : Os) : Input.okWideB Tryz.checked.prog ((laidWorld os).forCall (fun _ _ => 0) ⟨#[], #[nilVal, nilTy], []⟩) 4 ⟨#[], #[nilVal, nilTy], []⟩ = true := by kernel_rfl
theorem convertValues_pre {H : Type} (enc : TypeId × Value → H) (os : Os) : Rows.convertValuesSpec.preB enc Tryz.checked.prog Tryz.f4 [] false ((laidWorld os).forCall (fun _ _ => 0) ⟨#[], #[nilVal, nilTy], []⟩).memory #[nilVal, nilTy] 8 = true := by kernel_rfl
theorem convertValues_sz {H : Type} (enc : TypeId × Value → H) (os : Os) : Rows.convertValuesSpec.sizedB enc Tryz.checked.prog Tryz.f4 false ((laidWorld os).forCall (fun _ _ => 0) ⟨#[], #[nilVal, nilTy], []⟩).memory #[nilVal, nilTy] 8 = true := by kernel_rfl
set_option maxRecDepth 100000 in
theorem convertValues_lifted (os : Os) (started : os.Started) (H : Type) (enc : TypeId × Value → H) :
    ReturnsInHanded {} Tryz.checked os 4 .any (fun w args => (Rows.convertValuesSpec.pre enc Tryz.prog Tryz.f4 [] false w args ∧ laidMetH Tryz.prog laid7 w) ∧ sizedMet enc Tryz.prog Tryz.f4 (OpenSpec.ofChange Rows.convertValuesSpec) false w args)
      (Rows.convertValuesSpec.post enc Tryz.prog Tryz.f4 false true false false) := by
  refine returnsInHanded_of_change_and (C := Tryz.checked) (X := fun w _ => laidMetH Tryz.prog laid7 w) (fun _ _ _ hh h => h.of_heap hh) own started (by kernel_rfl) Tryz.func4
    (ChangeSpec.witness_shaped (enc := enc) (C := Tryz.checked) (os := os) (X := fun w _ => laidMetH Tryz.prog laid7 w) false (laidWorld os) #[nilVal, nilTy] 8 rfl (door_shaped os _) (convertValues_ok os) (convertValues_pre enc os) (convertValues_sz enc os) (door_met os _)) ?_
  intro W base args ds gs before hval0 hW _ hsz0 hL _
  have hsz : (DataW.weightsEach Tryz.prog (Tryz.f4.params.toList ++ Rows.convertValuesSpec.plain.varTypes Tryz.prog) (ds ++ gs)).all (· ≤ reachBytes) = true := hsz0
  clear hsz0
  have hval : ∀ (j : Nat) t v, Tryz.f4.params[j]? = some t → args[j]? = some v → Value.okWide Tryz.prog W .any base t v := hval0
  have hW' := hW
  obtain ⟨p, q, hA0, hV, rfl, hfz, hnd⟩ := hW
  have hA : DataW.TrodAll enc Tryz.prog W 0 (fun _ => true) true Tryz.f4.params.toList args.toList ds p := hA0
  rw [Tryz.params4] at hA hval hsz
  obtain ⟨v0, v1, d0, d1, p0, p1, rfl, rfl, rfl, h0, h1⟩ := trodAll_two hA
  obtain ⟨rfl, rfl⟩ := trodVars_none hV
  obtain ⟨x0, f0, r0⟩ := open_arg Tryz.underlying26 open_val (hval 0 26 v0 rfl rfl) h0 (weights_at hsz (j := 0) (t := 26) rfl rfl)
  obtain ⟨x1, f1, r1⟩ := open_arg Tryz.underlying31 open_ty (hval 1 31 v1 rfl rfl) h1 (weights_at hsz (j := 1) (t := 31) rfl rfl)
  have hE := env_of_laid hL
  clear hA0 hval0 hsz
  simp only [List.append_nil] at hW'
  refine (run_of (args := [.agg (aV x0), .agg (aT x1)]) (vs := #[v0, v1]) hE (fun E E0 G hb he => g_l11_ConvertValues_ok hb he x0 x1 true (law_Values x0 x1 f0 f1)) ⟨r0, r1, trivial⟩).mono fun e W' ⟨he, hb⟩ => ?_
  subst he
  exact ⟨_, rfl, post_of_below (pa := p0 ++ p1) (pv := []) hW' (fun _ _ _ => trodAll_mk1 (shut_bool Tryz.underlying4 _)) (fun sp hsp => trodAll_mk2 (trod_stay row_V lt_V h0 hb (fun q hq => hW'.lt q (by simp [hq])) sp (fun q hq => hsp q (by simp [hq]))) (trod_stay row_T lt_T h1 hb (fun q hq => hW'.lt q (by simp [hq])) sp (fun q hq => hsp q (by simp [hq])))) (fun _ _ => rfl) (by simp) hb (ok_one (by kernel_rfl) rfl (okWide_bool_mk Tryz.underlying4 _))⟩
theorem convertValues_said : Rows.ConvertValuesSaid :=
  OpenClaim.holds_of_wide 4 Tryz.f4 rfl rfl rfl rfl rfl rfl rfl ⟨rfl, rfl, rfl, rfl, rfl⟩ rfl rfl rfl rfl rfl (by kernel_rfl) Tryz.func4 (by kernel_rfl)
    (of_decide_eq_true (by kernel_rfl)) (by unfold Func.isWrapper; first | (rw [if_pos (by decide +kernel)]; kernel_rfl) | (rw [if_neg (by decide +kernel)]; exact ⟨rfl, rfl⟩))
    (fun os started H enc _ => convertValues_lifted os started H enc)
theorem convertValues_plain (f : FuncId) (fn : Func) (hf : Tryz.pinned.checked.prog.funcNamed "provision/provisionlaw11.ConvertValues" = some f) (hfn : Tryz.pinned.checked.prog.funcs[f]? = some fn) :
    true = Tryz.pinned.checked.prog.looks [] ∧ ∀ (j : Nat) t, fn.params[j]? = some t → Tryz.pinned.checked.prog.wantsStandIn t = false := by
  obtain rfl : f = 4 := Option.some.inj ((show Tryz.prog.funcNamed "provision/provisionlaw11.ConvertValues" = some 4 by kernel_rfl).symm.trans hf) |>.symm
  obtain rfl : fn = Tryz.f4 := (Option.some.inj (Tryz.func4.symm.trans hfn)).symm
  refine ⟨by kernel_rfl, fun j t ht => ?_⟩
  rw [Tryz.params4] at ht
  have hm : t ∈ [26, 31] := by
    have := Array.mem_of_getElem? ht
    simpa using this
  have hall : ([26, 31].all fun u => !Tryz.prog.wantsStandIn u) = true := by kernel_rfl
  exact (show Tryz.prog.wantsStandIn t = false by simpa using List.all_eq_true.1 hall t hm)
theorem convertValues_card : Rows.ConvertValuesCardSaid :=
  Claim7.holds_tied_plain_at .later [] _ _ _ _ convertValues_said (fun _ h => by cases h) (by kernel_rfl) (fun _ h => by cases h) convertValues_row_tie rfl ⟨rfl, rfl⟩ (by kernel_rfl) rfl convertValues_plain (by kernel_rfl)
end Go.Proofs.YtkmhhboihgckcaaGreatDoor
