/-
  For every input the law ConvertRefines answers true: a value with unknown parts replaced has a refined conversion or an error, and an error of types remains one.
  Conditions: the package-level variables that the row lists (tables of math/bits, strconv and utf8, and strconv's two errors) hold what the program's own text lays in them, which the card ties; there is no other condition.
-/
import Derived.Test.YtkmhhboihgckcaaDoorCvFrame
namespace Go.Proofs.YtkmhhboihgckcaaDoor
open Go.ChangeShapes Go.WideShapes Go.ChangeAt Go.RowKit
open Abs

theorem convertRefines_ok (os : Os) : Input.okWideB Tryd.checked.prog ((laidWorld os).forCall (fun _ _ => 0) ⟨#[], #[nilVal, nilVal, nilTy], []⟩) 3 ⟨#[], #[nilVal, nilVal, nilTy], []⟩ = true := by kernel_rfl
theorem convertRefines_pre {H : Type} (enc : TypeId × Value → H) (os : Os) : Rows.convertRefinesSpec.preB enc Tryd.checked.prog Tryd.f3 [] false ((laidWorld os).forCall (fun _ _ => 0) ⟨#[], #[nilVal, nilVal, nilTy], []⟩).memory #[nilVal, nilVal, nilTy] 8 = true := by kernel_rfl
theorem convertRefines_sz {H : Type} (enc : TypeId × Value → H) (os : Os) : Rows.convertRefinesSpec.sizedB enc Tryd.checked.prog Tryd.f3 false ((laidWorld os).forCall (fun _ _ => 0) ⟨#[], #[nilVal, nilVal, nilTy], []⟩).memory #[nilVal, nilVal, nilTy] 8 = true := by kernel_rfl
set_option maxRecDepth 100000 in
theorem convertRefines_lifted (os : Os) (started : os.Started) (H : Type) (enc : TypeId × Value → H) :
    ReturnsInHanded {} Tryd.checked os 3 .any (fun w args => (Rows.convertRefinesSpec.pre enc Tryd.prog Tryd.f3 [] false w args ∧ laidMetH Tryd.prog laid7 w) ∧ sizedMet enc Tryd.prog Tryd.f3 (OpenSpec.ofChange Rows.convertRefinesSpec) false w args)
      (Rows.convertRefinesSpec.post enc Tryd.prog Tryd.f3 false true false false) := by
  refine returnsInHanded_of_change_and (C := Tryd.checked) (X := fun w _ => laidMetH Tryd.prog laid7 w) (fun _ _ _ hh h => h.of_heap hh) own started (by kernel_rfl) Tryd.func3
    (ChangeSpec.witness_shaped (enc := enc) (C := Tryd.checked) (os := os) (X := fun w _ => laidMetH Tryd.prog laid7 w) false (laidWorld os) #[nilVal, nilVal, nilTy] 8 rfl (door_shaped os _) (convertRefines_ok os) (convertRefines_pre enc os) (convertRefines_sz enc os) (door_met os _)) ?_
  intro W base args ds gs before hval0 hW _ hsz0 hL _
  have hsz : (DataW.weightsEach Tryd.prog (Tryd.f3.params.toList ++ Rows.convertRefinesSpec.plain.varTypes Tryd.prog) (ds ++ gs)).all (· ≤ reachBytes) = true := hsz0
  clear hsz0
  have hval : ∀ (j : Nat) t v, Tryd.f3.params[j]? = some t → args[j]? = some v → Value.okWide Tryd.prog W .any base t v := hval0
  have hW' := hW
  obtain ⟨p, q, hA0, hV, rfl, hfz, hnd⟩ := hW
  have hA : DataW.TrodAll enc Tryd.prog W 0 (fun _ => true) true Tryd.f3.params.toList args.toList ds p := hA0
  rw [Tryd.params3] at hA hval hsz
  obtain ⟨v0, v1, v2, d0, d1, d2, p0, p1, p2, rfl, rfl, rfl, h0, h1, h2⟩ := trodAll_three hA
  obtain ⟨rfl, rfl⟩ := trodVars_none hV
  obtain ⟨x0, f0, r0⟩ := open_arg Tryd.underlying26 open_val (hval 0 26 v0 rfl rfl) h0 (weights_at hsz (j := 0) (t := 26) rfl rfl)
  obtain ⟨x1, f1, r1⟩ := open_arg Tryd.underlying26 open_val (hval 1 26 v1 rfl rfl) h1 (weights_at hsz (j := 1) (t := 26) rfl rfl)
  obtain ⟨x2, f2, r2⟩ := open_arg Tryd.underlying30 open_ty (hval 2 30 v2 rfl rfl) h2 (weights_at hsz (j := 2) (t := 30) rfl rfl)
  have hE := env_of_laid hL
  clear hA0 hval0 hsz
  simp only [List.append_nil] at hW'
  refine (run_of (args := [.agg (aV x0), .agg (aV x1), .agg (aT x2)]) (vs := #[v0, v1, v2]) hE (fun E E0 G hb he => g_l11_ConvertRefines_ok hb he x0 x1 x2 true (law_Refines x0 x1 x2 f0 f1 f2)) ⟨r0, r1, r2, trivial⟩).mono fun e W' ⟨he, hb⟩ => ?_
  subst he
  exact ⟨_, rfl, post_of_below (pa := p0 ++ (p1 ++ p2)) (pv := []) hW' (fun _ _ _ => trodAll_mk1 (shut_bool Tryd.underlying4 _)) (fun sp hsp => trodAll_mk3 (trod_stay row_V lt_V h0 hb (fun q hq => hW'.lt q (by simp [hq])) sp (fun q hq => hsp q (by simp [hq]))) (trod_stay row_V lt_V h1 hb (fun q hq => hW'.lt q (by simp [hq])) sp (fun q hq => hsp q (by simp [hq]))) (trod_stay row_T lt_T h2 hb (fun q hq => hW'.lt q (by simp [hq])) sp (fun q hq => hsp q (by simp [hq])))) (fun _ _ => rfl) (by simp) hb (ok_one (by kernel_rfl) rfl (okWide_bool_mk Tryd.underlying4 _))⟩
theorem convertRefines_said : Rows.ConvertRefinesSaid :=
  OpenClaim.holds_of_wide 3 Tryd.f3 rfl rfl rfl rfl rfl rfl rfl ⟨rfl, rfl, rfl, rfl, rfl⟩ rfl rfl rfl rfl rfl (by kernel_rfl) Tryd.func3 (by kernel_rfl)
    (of_decide_eq_true (by kernel_rfl)) (by unfold Func.isWrapper; first | (rw [if_pos (by decide +kernel)]; kernel_rfl) | (rw [if_neg (by decide +kernel)]; exact ⟨rfl, rfl⟩))
    (fun os started H enc _ => convertRefines_lifted os started H enc)
theorem convertRefines_plain (f : FuncId) (fn : Func) (hf : Tryd.pinned.checked.prog.funcNamed "provision/provisionlaw11.ConvertRefines" = some f) (hfn : Tryd.pinned.checked.prog.funcs[f]? = some fn) :
    true = Tryd.pinned.checked.prog.looks [] ∧ ∀ (j : Nat) t, fn.params[j]? = some t → Tryd.pinned.checked.prog.wantsStandIn t = false := by
  obtain rfl : f = 3 := Option.some.inj ((show Tryd.prog.funcNamed "provision/provisionlaw11.ConvertRefines" = some 3 by kernel_rfl).symm.trans hf) |>.symm
  obtain rfl : fn = Tryd.f3 := (Option.some.inj (Tryd.func3.symm.trans hfn)).symm
  refine ⟨by kernel_rfl, fun j t ht => ?_⟩
  rw [Tryd.params3] at ht
  have hm : t ∈ [26, 26, 30] := by
    have := Array.mem_of_getElem? ht
    simpa using this
  have hall : ([26, 26, 30].all fun u => !Tryd.prog.wantsStandIn u) = true := by kernel_rfl
  exact (show Tryd.prog.wantsStandIn t = false by simpa using List.all_eq_true.1 hall t hm)
theorem convertRefines_card : Rows.ConvertRefinesCardSaid :=
  Claim7.holds_tied_plain_at .later [] _ _ _ _ convertRefines_said (fun _ h => by cases h) (by kernel_rfl) (fun _ h => by cases h) convertRefines_row_tie rfl ⟨rfl, rfl⟩ (by kernel_rfl) rfl convertRefines_plain (by kernel_rfl)
end Go.Proofs.YtkmhhboihgckcaaDoor
