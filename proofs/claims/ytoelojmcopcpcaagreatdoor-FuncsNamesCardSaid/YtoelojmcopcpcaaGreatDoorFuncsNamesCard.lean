/-
  For every input the law FuncsNames answers true: the names of all functions, and their numbers of arguments, are those of the chapter.
  Conditions: the package-level variables that the row lists (tables of math/bits, strconv and utf8, and strconv's two errors) hold what the program's own text lays in them, which the card ties; there is no other condition.
-/
import Derived.Test.YtoelojmcopcpcaaGreatDoorFrame
import Derived.Test.YtoelojmcopcpcaaGreatDoorOpX
import Derived.Test.YtoelojmcopcpcaaGreatDoorPlF
namespace Go.Proofs.YtoelojmcopcpcaaGreatDoor
set_option linter.unusedSimpArgs false
set_option linter.unusedVariables false
open Go.ChangeShapes Go.WideShapes Go.ChangeAt Go.RowKit
open Abs

theorem funcsNames_row0 : Tryz.prog.readableRec 9 = true := by kernel_rfl
theorem funcsNames_lt0 : 9 < Tryz.prog.types.size := of_decide_eq_true (by kernel_rfl)
theorem funcsNames_ok (os : Os) : Input.okWideB Tryz.checked.prog ((laidWorld os).forCall (fun _ _ => 0) ⟨#[], #[.string ⟨#[]⟩], []⟩) 3 ⟨#[], #[.string ⟨#[]⟩], []⟩ = true := by kernel_rfl
theorem funcsNames_pre {H : Type} (enc : TypeId × Value → H) (os : Os) : Rows.funcsNamesSpec.preB enc Tryz.checked.prog Tryz.f3 [] false ((laidWorld os).forCall (fun _ _ => 0) ⟨#[], #[.string ⟨#[]⟩], []⟩).memory #[.string ⟨#[]⟩] 8 = true := by kernel_rfl
theorem funcsNames_sz {H : Type} (enc : TypeId × Value → H) (os : Os) : Rows.funcsNamesSpec.sizedB enc Tryz.checked.prog Tryz.f3 false ((laidWorld os).forCall (fun _ _ => 0) ⟨#[], #[.string ⟨#[]⟩], []⟩).memory #[.string ⟨#[]⟩] 8 = true := by kernel_rfl
set_option maxRecDepth 100000 in
theorem funcsNames_lifted (os : Os) (started : os.Started) (H : Type) (enc : TypeId × Value → H) :
    ReturnsInHanded {} Tryz.checked os 3 .any (fun w args => (Rows.funcsNamesSpec.pre enc Tryz.prog Tryz.f3 [] false w args ∧ laidMetH Tryz.prog laid7 w) ∧ sizedMet enc Tryz.prog Tryz.f3 (OpenSpec.ofChange Rows.funcsNamesSpec) false w args)
      (Rows.funcsNamesSpec.post enc Tryz.prog Tryz.f3 false true false false) := by
  refine returnsInHanded_of_change_and (C := Tryz.checked) (X := fun w _ => laidMetH Tryz.prog laid7 w) (fun _ _ _ hh h => h.of_heap hh) own started (by kernel_rfl) Tryz.func3
    (ChangeSpec.witness_shaped (enc := enc) (C := Tryz.checked) (os := os) (X := fun w _ => laidMetH Tryz.prog laid7 w) false (laidWorld os) #[.string ⟨#[]⟩] 8 rfl (door_shaped os _) (funcsNames_ok os) (funcsNames_pre enc os) (funcsNames_sz enc os) (door_met os _)) ?_
  intro W base args ds gs before hval0 hW _ hsz0 hL _
  have hsz : (DataW.weightsEach Tryz.prog (Tryz.f3.params.toList ++ Rows.funcsNamesSpec.plain.varTypes Tryz.prog) (ds ++ gs)).all (· ≤ reachBytes) = true := hsz0
  clear hsz0
  have hval : ∀ (j : Nat) t v, Tryz.f3.params[j]? = some t → args[j]? = some v → Value.okWide Tryz.prog W .any base t v := hval0
  have hW' := hW
  obtain ⟨p, q, hA0, hV, rfl, hfz, hnd⟩ := hW
  have hA : DataW.TrodAll enc Tryz.prog W 0 (fun _ => true) true Tryz.f3.params.toList args.toList ds p := hA0
  rw [Tryz.params3] at hA hval hsz
  obtain ⟨v0, d0, rfl, rfl, h0⟩ := trodAll_one hA
  obtain ⟨rfl, rfl⟩ := trodVars_none hV
  obtain ⟨x0, f0, r0⟩ := open_argS Tryz.underlying9 (hval 0 9 v0 rfl rfl) h0 (weights_at hsz (j := 0) (t := 9) rfl rfl)
  have hE := env_of_laid hL
  clear hA0 hval0 hsz
  simp only [List.append_nil] at hW'
  refine (run_of (args := [.cell (vS x0)]) (vs := #[v0]) hE (fun E E0 G hb he => g_l18_FuncsNames_ok hb he x0 true (law_Names x0 f0)) ⟨r0, trivial⟩).mono fun e W' ⟨he, hb⟩ => ?_
  subst he
  exact ⟨_, rfl, post_of_below (pa := p) (pv := []) hW' (fun _ _ _ => trodAll_mk1 (shut_bool Tryz.underlying4 _)) (fun sp hsp => trodAll_mk1 (trod_stay funcsNames_row0 funcsNames_lt0 h0 hb (fun q hq => hW'.lt q (by simp [hq])) sp (fun q hq => hsp q (by simp [hq])))) (fun _ _ => rfl) (by simp) hb (ok_one (by kernel_rfl) rfl (okWide_bool_mk Tryz.underlying4 _))⟩
theorem funcsNames_said : Rows.FuncsNamesSaid :=
  OpenClaim.holds_of_wide 3 Tryz.f3 rfl rfl rfl rfl rfl rfl rfl ⟨rfl, rfl, rfl, rfl, rfl⟩ rfl rfl rfl rfl rfl (by kernel_rfl) Tryz.func3 (by kernel_rfl)
    (of_decide_eq_true (by kernel_rfl)) (by unfold Func.isWrapper; first | (rw [if_pos (by decide +kernel)]; kernel_rfl) | (rw [if_neg (by decide +kernel)]; exact ⟨rfl, rfl⟩))
    (fun os started H enc _ => funcsNames_lifted os started H enc)
theorem funcsNames_plain (f : FuncId) (fn : Func) (hf : Tryz.pinned.checked.prog.funcNamed "provision/provisionlaw18.FuncsNames" = some f) (hfn : Tryz.pinned.checked.prog.funcs[f]? = some fn) :
    true = Tryz.pinned.checked.prog.looks [] ∧ ∀ (j : Nat) t, fn.params[j]? = some t → Tryz.pinned.checked.prog.wantsStandIn t = false := by
  obtain rfl : f = 3 := Option.some.inj ((show Tryz.prog.funcNamed "provision/provisionlaw18.FuncsNames" = some 3 by kernel_rfl).symm.trans hf) |>.symm
  obtain rfl : fn = Tryz.f3 := (Option.some.inj (Tryz.func3.symm.trans hfn)).symm
  refine ⟨by kernel_rfl, fun j t ht => ?_⟩
  rw [Tryz.params3] at ht
  have hm : t ∈ [9] := by
    have := Array.mem_of_getElem? ht
    simpa using this
  have hall : ([9].all fun u => !Tryz.prog.wantsStandIn u) = true := by kernel_rfl
  exact (show Tryz.prog.wantsStandIn t = false by simpa using List.all_eq_true.1 hall t hm)
theorem funcsNames_card : Rows.FuncsNamesCardSaid :=
  Claim7.holds_tied_plain_at .later [] _ _ _ _ funcsNames_said (fun _ h => by cases h) (by kernel_rfl) (fun _ h => by cases h) funcsNames_row_tie rfl ⟨rfl, rfl⟩ (by kernel_rfl) rfl funcsNames_plain (by kernel_rfl)
end Go.Proofs.YtoelojmcopcpcaaGreatDoor
