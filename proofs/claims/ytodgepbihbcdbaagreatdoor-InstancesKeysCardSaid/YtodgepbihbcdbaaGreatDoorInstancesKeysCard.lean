/-
  For every input the law InstancesKeys answers true: each key belongs to exactly one instance, and Collect returns each instance at its key.
  Conditions: the package-level variables that the row lists (tables of math/bits, strconv and utf8, and strconv's two errors) hold what the program's own text lays in them, which the card ties; there is no other condition.
-/
import Derived.Test.YtodgepbihbcdbaaGreatDoorFrame
import Derived.Test.YtodgepbihbcdbaaGreatDoorOpX
import Derived.Test.YtodgepbihbcdbaaGreatDoorPlG
namespace Go.Proofs.YtodgepbihbcdbaaGreatDoor
open Go.ChangeShapes Go.WideShapes Go.ChangeAt Go.RowKit
open Abs

theorem instancesKeys_row0 : Tryz.prog.readableRec 3 = true := by kernel_rfl
theorem instancesKeys_lt0 : 3 < Tryz.prog.types.size := of_decide_eq_true (by kernel_rfl)
theorem instancesKeys_row1 : Tryz.prog.readableRec 26 = true := by kernel_rfl
theorem instancesKeys_lt1 : 26 < Tryz.prog.types.size := of_decide_eq_true (by kernel_rfl)
theorem instancesKeys_row2 : Tryz.prog.readableRec 26 = true := by kernel_rfl
theorem instancesKeys_lt2 : 26 < Tryz.prog.types.size := of_decide_eq_true (by kernel_rfl)
theorem instancesKeys_ok (os : Os) : Input.okWideB Tryz.checked.prog ((laidWorld os).forCall (fun _ _ => 0) ⟨#[], #[.int .i64 0, .agg #[.int .i64 0, .int .i64 0, .string ⟨#[]⟩, .slice none 0 0, .slice none 0 0], .agg #[.int .i64 0, .int .i64 0, .string ⟨#[]⟩, .slice none 0 0, .slice none 0 0]], []⟩) 8 ⟨#[], #[.int .i64 0, .agg #[.int .i64 0, .int .i64 0, .string ⟨#[]⟩, .slice none 0 0, .slice none 0 0], .agg #[.int .i64 0, .int .i64 0, .string ⟨#[]⟩, .slice none 0 0, .slice none 0 0]], []⟩ = true := by kernel_rfl
theorem instancesKeys_pre {H : Type} (enc : TypeId × Value → H) (os : Os) : Rows.instancesKeysSpec.preB enc Tryz.checked.prog Tryz.f8 [] false ((laidWorld os).forCall (fun _ _ => 0) ⟨#[], #[.int .i64 0, .agg #[.int .i64 0, .int .i64 0, .string ⟨#[]⟩, .slice none 0 0, .slice none 0 0], .agg #[.int .i64 0, .int .i64 0, .string ⟨#[]⟩, .slice none 0 0, .slice none 0 0]], []⟩).memory #[.int .i64 0, .agg #[.int .i64 0, .int .i64 0, .string ⟨#[]⟩, .slice none 0 0, .slice none 0 0], .agg #[.int .i64 0, .int .i64 0, .string ⟨#[]⟩, .slice none 0 0, .slice none 0 0]] 8 = true := by kernel_rfl
theorem instancesKeys_sz {H : Type} (enc : TypeId × Value → H) (os : Os) : Rows.instancesKeysSpec.sizedB enc Tryz.checked.prog Tryz.f8 false ((laidWorld os).forCall (fun _ _ => 0) ⟨#[], #[.int .i64 0, .agg #[.int .i64 0, .int .i64 0, .string ⟨#[]⟩, .slice none 0 0, .slice none 0 0], .agg #[.int .i64 0, .int .i64 0, .string ⟨#[]⟩, .slice none 0 0, .slice none 0 0]], []⟩).memory #[.int .i64 0, .agg #[.int .i64 0, .int .i64 0, .string ⟨#[]⟩, .slice none 0 0, .slice none 0 0], .agg #[.int .i64 0, .int .i64 0, .string ⟨#[]⟩, .slice none 0 0, .slice none 0 0]] 8 = true := by kernel_rfl
set_option maxRecDepth 100000 in
theorem instancesKeys_lifted (os : Os) (started : os.Started) (H : Type) (enc : TypeId × Value → H) :
    ReturnsInHanded {} Tryz.checked os 8 .any (fun w args => (Rows.instancesKeysSpec.pre enc Tryz.prog Tryz.f8 [] false w args ∧ laidMetH Tryz.prog laid7 w) ∧ sizedMet enc Tryz.prog Tryz.f8 (OpenSpec.ofChange Rows.instancesKeysSpec) false w args)
      (Rows.instancesKeysSpec.post enc Tryz.prog Tryz.f8 false true false false) := by
  refine returnsInHanded_of_change_and (C := Tryz.checked) (X := fun w _ => laidMetH Tryz.prog laid7 w) (fun _ _ _ hh h => h.of_heap hh) own started (by kernel_rfl) Tryz.func8
    (ChangeSpec.witness_shaped (enc := enc) (C := Tryz.checked) (os := os) (X := fun w _ => laidMetH Tryz.prog laid7 w) false (laidWorld os) #[.int .i64 0, .agg #[.int .i64 0, .int .i64 0, .string ⟨#[]⟩, .slice none 0 0, .slice none 0 0], .agg #[.int .i64 0, .int .i64 0, .string ⟨#[]⟩, .slice none 0 0, .slice none 0 0]] 8 rfl (door_shaped os _) (instancesKeys_ok os) (instancesKeys_pre enc os) (instancesKeys_sz enc os) (door_met os _)) ?_
  intro W base args ds gs before hval0 hW _ hsz0 hL _
  have hsz : (DataW.weightsEach Tryz.prog (Tryz.f8.params.toList ++ Rows.instancesKeysSpec.plain.varTypes Tryz.prog) (ds ++ gs)).all (· ≤ reachBytes) = true := hsz0
  clear hsz0
  have hval : ∀ (j : Nat) t v, Tryz.f8.params[j]? = some t → args[j]? = some v → Value.okWide Tryz.prog W .any base t v := hval0
  have hW' := hW
  obtain ⟨p, q, hA0, hV, rfl, hfz, hnd⟩ := hW
  have hA : DataW.TrodAll enc Tryz.prog W 0 (fun _ => true) true Tryz.f8.params.toList args.toList ds p := hA0
  rw [Tryz.params8] at hA hval hsz
  obtain ⟨v0, v1, v2, d0, d1, d2, p0, p1, p2, rfl, rfl, rfl, h0, h1, h2⟩ := trodAll_three hA
  obtain ⟨rfl, rfl⟩ := trodVars_none hV
  obtain ⟨x0, f0, r0⟩ := open_argI Tryz.underlying3 (hval 0 3 v0 rfl rfl) h0 (weights_at hsz (j := 0) (t := 3) rfl rfl)
  obtain ⟨x1, f1, r1⟩ := open_arg Tryz.underlying26 open_val (hval 1 26 v1 rfl rfl) h1 (weights_at hsz (j := 1) (t := 26) rfl rfl)
  obtain ⟨x2, f2, r2⟩ := open_arg Tryz.underlying26 open_val (hval 2 26 v2 rfl rfl) h2 (weights_at hsz (j := 2) (t := 26) rfl rfl)
  have hE := env_of_laid hL
  clear hA0 hval0 hsz
  simp only [List.append_nil] at hW'
  refine (run_of (args := [.cell (vi x0), .agg (aV x1), .agg (aV x2)]) (vs := #[v0, v1, v2]) hE (fun E E0 G hb he => g_l21_InstancesKeys_ok hb he x0 x1 x2 true (law_Keys x0 x1 x2 f1 f2)) ⟨r0, r1, r2, trivial⟩).mono fun e W' ⟨he, hb⟩ => ?_
  subst he
  exact ⟨_, rfl, post_of_below (pa := p0 ++ (p1 ++ p2)) (pv := []) hW' (fun _ _ _ => trodAll_mk1 (shut_bool Tryz.underlying4 _)) (fun sp hsp => trodAll_mk3 (trod_stay instancesKeys_row0 instancesKeys_lt0 h0 hb (fun q hq => hW'.lt q (by simp [hq])) sp (fun q hq => hsp q (by simp [hq]))) (trod_stay instancesKeys_row1 instancesKeys_lt1 h1 hb (fun q hq => hW'.lt q (by simp [hq])) sp (fun q hq => hsp q (by simp [hq]))) (trod_stay instancesKeys_row2 instancesKeys_lt2 h2 hb (fun q hq => hW'.lt q (by simp [hq])) sp (fun q hq => hsp q (by simp [hq])))) (fun _ _ => rfl) (by simp) hb (ok_one (by kernel_rfl) rfl (okWide_bool_mk Tryz.underlying4 _))⟩
theorem instancesKeys_said : Rows.InstancesKeysSaid :=
  OpenClaim.holds_of_wide 8 Tryz.f8 rfl rfl rfl rfl rfl rfl rfl ⟨rfl, rfl, rfl, rfl, rfl⟩ rfl rfl rfl rfl rfl (by kernel_rfl) Tryz.func8 (by kernel_rfl)
    (of_decide_eq_true (by kernel_rfl)) (by unfold Func.isWrapper; first | (rw [if_pos (by decide +kernel)]; kernel_rfl) | (rw [if_neg (by decide +kernel)]; exact ⟨rfl, rfl⟩))
    (fun os started H enc _ => instancesKeys_lifted os started H enc)
theorem instancesKeys_plain (f : FuncId) (fn : Func) (hf : Tryz.pinned.checked.prog.funcNamed "provision/provisionlaw21.InstancesKeys" = some f) (hfn : Tryz.pinned.checked.prog.funcs[f]? = some fn) :
    true = Tryz.pinned.checked.prog.looks [] ∧ ∀ (j : Nat) t, fn.params[j]? = some t → Tryz.pinned.checked.prog.wantsStandIn t = false := by
  obtain rfl : f = 8 := Option.some.inj ((show Tryz.prog.funcNamed "provision/provisionlaw21.InstancesKeys" = some 8 by kernel_rfl).symm.trans hf) |>.symm
  obtain rfl : fn = Tryz.f8 := (Option.some.inj (Tryz.func8.symm.trans hfn)).symm
  refine ⟨by kernel_rfl, fun j t ht => ?_⟩
  rw [Tryz.params8] at ht
  have hm : t ∈ [3, 26, 26] := by
    have := Array.mem_of_getElem? ht
    simpa using this
  have hall : ([3, 26, 26].all fun u => !Tryz.prog.wantsStandIn u) = true := by kernel_rfl
  exact (show Tryz.prog.wantsStandIn t = false by simpa using List.all_eq_true.1 hall t hm)
theorem instancesKeys_card : Rows.InstancesKeysCardSaid :=
  Claim7.holds_tied_plain_at .later [] _ _ _ _ instancesKeys_said (fun _ h => by cases h) (by kernel_rfl) (fun _ h => by cases h) instancesKeys_row_tie rfl ⟨rfl, rfl⟩ (by kernel_rfl) rfl instancesKeys_plain (by kernel_rfl)
end Go.Proofs.YtodgepbihbcdbaaGreatDoor
