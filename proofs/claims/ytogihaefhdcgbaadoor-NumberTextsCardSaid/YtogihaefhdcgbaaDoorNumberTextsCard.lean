/-
  For every int n and every string s the law NumberTexts answers true: number's Valid and Format agree with the reference's at n, and number's Parse agrees with the reference's at s if s has at most 300 bytes; the examples of the chapter hold.
  Conditions: the package-level variables that the row lists (two tables of math/bits, one of internal/strconv, and strconv's two errors) hold what the program's own text lays in them, which the card ties; there is no other condition.
-/
import Derived.Test.YtogihaefhdcgbaaDoorNumFrame
namespace Go.Proofs.YtogihaefhdcgbaaDoor
open Go.ChangeShapes Go.WideShapes Go.ChangeAt Go.RowKit
open Go.ChangeMaps (open_string shut_string)

theorem numberTexts_ok (os : Os) : Input.okWideB Tryd.checked.prog ((World.doorLaid Tryd.prog 400 os).forCall (fun _ _ => 0) ⟨#[], #[.int .i64 0, .string ⟨#[]⟩], []⟩) 3 ⟨#[], #[.int .i64 0, .string ⟨#[]⟩], []⟩ = true := by kernel_rfl
theorem numberTexts_pre {H : Type} (enc : TypeId × Value → H) (os : Os) : Rows.numberTextsSpec.preB enc Tryd.checked.prog Tryd.f3 [] false ((World.doorLaid Tryd.prog 400 os).forCall (fun _ _ => 0) ⟨#[], #[.int .i64 0, .string ⟨#[]⟩], []⟩).memory #[.int .i64 0, .string ⟨#[]⟩] 8 = true := by kernel_rfl
theorem numberTexts_sz {H : Type} (enc : TypeId × Value → H) (os : Os) : Rows.numberTextsSpec.sizedB enc Tryd.checked.prog Tryd.f3 false ((World.doorLaid Tryd.prog 400 os).forCall (fun _ _ => 0) ⟨#[], #[.int .i64 0, .string ⟨#[]⟩], []⟩).memory #[.int .i64 0, .string ⟨#[]⟩] 8 = true := by kernel_rfl
set_option maxRecDepth 100000 in
theorem numberTexts_lifted (os : Os) (started : os.Started) (H : Type) (enc : TypeId × Value → H) :
    ReturnsInHanded {} Tryd.checked os 3 .any (fun w args => (Rows.numberTextsSpec.pre enc Tryd.prog Tryd.f3 [] false w args ∧ laidMetH Tryd.prog laid5 w) ∧ sizedMet enc Tryd.prog Tryd.f3 (OpenSpec.ofChange Rows.numberTextsSpec) false w args)
      (Rows.numberTextsSpec.post enc Tryd.prog Tryd.f3 false true false false) := by
  refine returnsInHanded_of_change_and (C := Tryd.checked) (X := fun w _ => laidMetH Tryd.prog laid5 w) (fun _ _ _ hh h => h.of_heap hh) own started (by kernel_rfl) Tryd.func3
    (ChangeSpec.witness_shaped (enc := enc) (C := Tryd.checked) (os := os) (X := fun w _ => laidMetH Tryd.prog laid5 w) false (World.doorLaid Tryd.prog 400 os) #[.int .i64 0, .string ⟨#[]⟩] 8 rfl (door_shaped os _) (numberTexts_ok os) (numberTexts_pre enc os) (numberTexts_sz enc os) (door_met os _)) ?_
  intro W base args ds gs before hval0 hW _ hsz0 hL _
  have hsz : (DataW.weightsEach Tryd.prog (Tryd.f3.params.toList ++ Rows.numberTextsSpec.plain.varTypes Tryd.prog) (ds ++ gs)).all (· ≤ reachBytes) = true := hsz0
  clear hsz0
  have hval : ∀ (j : Nat) t v, Tryd.f3.params[j]? = some t → args[j]? = some v → Value.okWide Tryd.prog W .any base t v := hval0
  have hW' := hW
  obtain ⟨p, q, hA0, hV, rfl, hfz, hnd⟩ := hW
  have hA : DataW.TrodAll enc Tryd.prog W 0 (fun _ => true) true Tryd.f3.params.toList args.toList ds p := hA0
  rw [Tryd.params3] at hA hval hsz
  obtain ⟨v0, v1, d0, d1, p0, p1, rfl, rfl, rfl, h0, h1⟩ := trodAll_two hA
  obtain ⟨rfl, rfl⟩ := trodVars_none hV
  obtain ⟨x0, rfl, rfl, rfl, wx0⟩ := open_int Tryd.underlying3 (hval 0 3 v0 rfl rfl) h0
  have bx0 := bounds_i64 wx0
  obtain ⟨x1, rfl, rfl, rfl, wx1⟩ := open_string Tryd.underlying9 (hval 1 9 v1 rfl rfl) h1
  have sx1 : x1.size ≤ 281474976710656 := by
    have h1 := sized_string hsz (j := 1) (t := 9) rfl rfl
    have h2 : x1.data.toList.length = x1.size := by rw [Array.length_toList, ByteArray.size_data]
    have h3 := reachBytes_lt
    omega
  have hE := env_of_laid hL
  clear hA0 hval0 hsz
  simp only [List.append_nil] at hW'
  refine (law_NumberTexts x0 x1 W hE bx0.1 bx0.2 sx1).mono fun e W' ⟨he, hb⟩ => ?_
  subst he
  exact ⟨_, rfl, post_of_below (pa := []) (pv := []) hW' (fun _ _ _ => trodAll_mk1 (shut_bool Tryd.underlying4 _)) (fun sp _ => trodAll_mk2 (shut_int Tryd.underlying3 wx0) (shut_string Tryd.underlying9 wx1)) (fun _ _ => rfl) rfl hb (ok_one (by kernel_rfl) rfl (okWide_bool_mk Tryd.underlying4 _))⟩
theorem numberTexts_said : Rows.NumberTextsSaid :=
  OpenClaim.holds_of_wide 3 Tryd.f3 rfl rfl rfl rfl rfl rfl rfl ⟨rfl, rfl, rfl, rfl, rfl⟩ rfl rfl rfl rfl rfl (by kernel_rfl) Tryd.func3 (by kernel_rfl)
    (of_decide_eq_true (by kernel_rfl)) (by unfold Func.isWrapper; first | (rw [if_pos (by decide +kernel)]; kernel_rfl) | (rw [if_neg (by decide +kernel)]; exact ⟨rfl, rfl⟩))
    (fun os started H enc _ => numberTexts_lifted os started H enc)
theorem numberTexts_plain (f : FuncId) (fn : Func) (hf : Tryd.pinned.checked.prog.funcNamed "provision/provisionlaw01.NumberTexts" = some f) (hfn : Tryd.pinned.checked.prog.funcs[f]? = some fn) :
    true = Tryd.pinned.checked.prog.looks [] ∧ ∀ (j : Nat) t, fn.params[j]? = some t → Tryd.pinned.checked.prog.wantsStandIn t = false := by
  obtain rfl : f = 3 := Option.some.inj ((show Tryd.prog.funcNamed "provision/provisionlaw01.NumberTexts" = some 3 by kernel_rfl).symm.trans hf) |>.symm
  obtain rfl : fn = Tryd.f3 := (Option.some.inj (Tryd.func3.symm.trans hfn)).symm
  refine ⟨by kernel_rfl, fun j t ht => ?_⟩
  rw [Tryd.params3] at ht
  have hm : t ∈ [3, 9] := by
    have := Array.mem_of_getElem? ht
    simp at this
    simp [this]
  have hall : ([3, 9].all fun u => !Tryd.prog.wantsStandIn u) = true := by kernel_rfl
  exact (show Tryd.prog.wantsStandIn t = false by simpa using List.all_eq_true.1 hall t hm)
theorem numberTexts_card : Rows.NumberTextsCardSaid :=
  Claim7.holds_tied_plain_at .later [] _ _ _ _ numberTexts_said (fun _ h => by cases h) (by kernel_rfl) (fun _ h => by cases h) numberTexts_row_tie rfl ⟨rfl, rfl⟩ (by kernel_rfl) rfl numberTexts_plain (by kernel_rfl)
end Go.Proofs.YtogihaefhdcgbaaDoor
