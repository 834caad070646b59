/-
  The examples of the chapter, which every law of the layer asks: awake answers true.
-/
import Derived.Test.YtogihaefhdcgbaaDoorNumFmt
namespace Go.Proofs.YtogihaefhdcgbaaDoor
open Go.RowKit

set_option maxHeartbeats 800000 in
theorem awake_any (w : World) (hE : Env w) :
    Calls Tryd.prog 10 #[] w fun e w' => e = .returned (.bool true) ∧ Below w.heap.size w w' := by
  have HE := Lib.hid hE
  clear hE
  go_enter Tryd.func10, Tryd.ntmps10
  go_wp2_with fail
  refine (parse_any _ _ (by decide) HE.out).mono ?_
  rw [show NumPlain.parseB ⟨#[48, 48, 55]⟩ = (0, 2) by decide +kernel]
  rintro e w1 ⟨rfl, hb⟩
  have HB := Lib.hid hb
  have HE1 := Lib.hid (HE.out.keep hb)
  clear hb
  go_wp2_with fail
  refine (add_any _ _ _).mono ?_
  rw [show NumPlain.add 9007199254740992 1 = (0, 5) by decide +kernel]
  rintro e w' ⟨rfl, rfl⟩
  go_wp2_with fail
  refine (div_any _ _ _).mono ?_
  rw [show NumPlain.div (-7) 2 = (-4, 0) by decide +kernel]
  rintro e w' ⟨rfl, rfl⟩
  go_wp2_with fail
  refine (mod_any _ _ _).mono ?_
  rw [show NumPlain.mod (-7) 2 = (1, 0) by decide +kernel]
  rintro e w' ⟨rfl, rfl⟩
  go_wp2_with fail
  refine (mod_any _ _ _).mono ?_
  rw [show NumPlain.mod 7 (-2) = (-1, 0) by decide +kernel]
  rintro e w' ⟨rfl, rfl⟩
  go_wp2_with fail
  refine (valid_any _ _).mono ?_
  rw [show NumPlain.validB 9007199254740992 = true by decide +kernel]
  rintro e w' ⟨rfl, rfl⟩
  go_wp2_with fail
  refine (valid_any _ _).mono ?_
  rw [show NumPlain.validB 9007199254740993 = false by decide +kernel]
  rintro e w' ⟨rfl, rfl⟩
  go_wp2_with fail
  refine (format_any _ _ (by decide) (by decide) HE1.out).mono ?_
  rw [show Lib.itoa (-120) = [45, 49, 50, 48] by decide +kernel]
  rintro e w2 ⟨rfl, hb2⟩
  have HB2 := Lib.hid hb2
  clear hb2
  go_wp2_with fail
  go_ret
  exact ⟨rfl, HB.out.trans (HB2.out.mono HB.out.size)⟩
end Go.Proofs.YtogihaefhdcgbaaDoor
