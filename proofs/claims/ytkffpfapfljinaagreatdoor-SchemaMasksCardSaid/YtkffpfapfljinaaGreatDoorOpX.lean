/-
  Arguments of the laws' own struct types, opened.
-/
import Derived.Test.YtkffpfapfljinaaGreatDoorOpV
import Derived.Test.YtkffpfapfljinaaGreatDoorFnZ
namespace Go.Proofs.YtkffpfapfljinaaGreatDoor
set_option linter.unusedSimpArgs false
set_option linter.unusedVariables false
namespace Abs
set_option maxRecDepth 1000000
open Go.RowKit
section
variable {H : Type} {enc : TypeId × Value → H} {P : Program} {W : World}
theorem qen {n : Nat} {t : TypeId} (ht : P.underlying t = some (.int .i64)) : q3e enc P W n t (flI .i64) fun k => -9223372036854775808 ≤ k ∧ k ≤ 9223372036854775807 := by
 intro cs d ps h hw
 obtain ⟨k, rfl, hx, b⟩ := DataW.trod_int ht h
 exact ⟨k, bounds_i64 b, ⟨rfl, rfl⟩, trivial⟩
theorem qbc {n : Nat} {t : TypeId} (ht : P.underlying t = some .bool) : q3e enc P W n t flB fun _ => True := by
 intro cs d ps h hw
 obtain ⟨k, rfl, hx⟩ := DataW.trod_bool ht h
 exact ⟨k, trivial, ⟨rfl, rfl⟩, trivial⟩
def flL {α : Type} (F : Fl α) : Fl (List α) := Fl.of (fun l => [pL F l]) 1 (by decide) (fun _ => rfl)
theorem qeo {α : Type} (F : Fl α) {good : α → Prop} {t e : TypeId} (ht : P.underlying t = some (.slice e)) (hc : P.cellsOf e = F.sz) {b : Nat} (hbt : P.bytesOf e = b) (he : ∀ n, q3e enc P W n e F good) (n : Nat) :
  q3e enc P W n t (flL F) fun l => l.length * b ≤ 140737488351232 ∧ ∀ y ∈ l, good y := by
 intro cs d ps h hw
 obtain ⟨l, u, rfl, g, nb, r⟩ := q8s (F := F) ht hc (N := n) (fun j _ => he j) h hw
 exact ⟨l, ⟨hbt ▸ nb, g⟩, r, trivial⟩
theorem q34 {R : PV → Value → Prop} {a b : List PV} {cs : List Value} {off s : Nat} (h1 : All2 R a ((cs.drop off).take s)) (h2 : All2 R b (cs.drop (off + s))) : All2 R (a ++ b) (cs.drop off) := by
 have := All2.append h1 h2
 rwa [← List.drop_drop, List.take_append_drop] at this
theorem qcb {R : PV → Value → Prop} {cs : List Value} {o : Nat} (h : cs.length = o) : All2 R [] (cs.drop o) := by
 rw [List.drop_eq_nil_of_le (by omega)]; trivial
end
section
variable {H : Type} {enc : TypeId × Value → H} {W : World}
end
def AttrG.Fits (x : AttrG) : Prop := x.name.size ≤ 140737488351232 ∧ x.type_.Fits ∧ (-9223372036854775808 ≤ x.mode ∧ x.mode ≤ 9223372036854775807) ∧ True ∧ True ∧ True
theorem qkc {H : Type} {enc : TypeId × Value → H} {W : World} (n : Nat) : q3e enc Tryz.prog W n 56 q7 AttrG.Fits := by
 intro cs d ps h hw
 obtain ⟨xs, n, rfl, hx, hlen, hxl, hxs⟩ := DataW.trod_struct Tryz.underlying56 h
 cases hx
 have hwt : DataW.weights Tryz.prog 56 (.agg (xs.map (·.1))) = DataW.weightsEach Tryz.prog [9, 46, 54, 4, 4, 4] (xs.map (·.1)) := by
  rw [DataW.weights, Tryz.underlying56]; rfl
 rw [hwt] at hw
 obtain ⟨d0, p0, t0, w0⟩ := q23 hxs hxl hw (i := 0) rfl (c := 1) (by kernel_rfl)
 obtain ⟨d1, p1, t1, w1⟩ := q23 hxs hxl hw (i := 1) rfl (c := 3) (by kernel_rfl)
 obtain ⟨d2, p2, t2, w2⟩ := q23 hxs hxl hw (i := 2) rfl (c := 1) (by kernel_rfl)
 obtain ⟨d3, p3, t3, w3⟩ := q23 hxs hxl hw (i := 3) rfl (c := 1) (by kernel_rfl)
 obtain ⟨d4, p4, t4, w4⟩ := q23 hxs hxl hw (i := 4) rfl (c := 1) (by kernel_rfl)
 obtain ⟨d5, p5, t5, w5⟩ := q23 hxs hxl hw (i := 5) rfl (c := 1) (by kernel_rfl)
 rw [show Tryz.prog.cellsOf 56 = 8 by kernel_rfl] at hlen
 obtain ⟨x0, g0, r0⟩ := (fun _ => q8t Tryz.underlying9) n _ _ _ t0 w0
 obtain ⟨x1, g1, r1⟩ := qsd n _ _ _ t1 w1
 obtain ⟨x2, g2, r2⟩ := (fun _ => qen Tryz.underlying54) n _ _ _ t2 w2
 obtain ⟨x3, g3, r3⟩ := (fun _ => qbc Tryz.underlying4) n _ _ _ t3 w3
 obtain ⟨x4, g4, r4⟩ := (fun _ => qbc Tryz.underlying4) n _ _ _ t4 w4
 obtain ⟨x5, g5, r5⟩ := (fun _ => qbc Tryz.underlying4) n _ _ _ t5 w5
 exact ⟨⟨x0, x1, x2, x3, x4, x5⟩, ⟨g0, g1, g2, g3, g4, g5⟩, q34 (off := 0) (s := 1) r0 (q34 (off := 1) (s := 3) r1 (q34 (off := 4) (s := 1) r2 (q34 (off := 5) (s := 1) r3 (q34 (off := 6) (s := 1) r4 (q34 (off := 7) (s := 1) r5 (qcb (o := 8) hlen))))))⟩
def NestedG.Fits (x : NestedG) : Prop := x.name.size ≤ 140737488351232 ∧ (-9223372036854775808 ≤ x.min ∧ x.min ≤ 9223372036854775807) ∧ (-9223372036854775808 ≤ x.max ∧ x.max ≤ 9223372036854775807) ∧ (x.attrs.length * 88 ≤ 140737488351232 ∧ ∀ y ∈ x.attrs, y.Fits) ∧ True
theorem qsc {H : Type} {enc : TypeId × Value → H} {W : World} (n : Nat) : q3e enc Tryz.prog W n 59 qd NestedG.Fits := by
 intro cs d ps h hw
 obtain ⟨xs, n, rfl, hx, hlen, hxl, hxs⟩ := DataW.trod_struct Tryz.underlying59 h
 cases hx
 have hwt : DataW.weights Tryz.prog 59 (.agg (xs.map (·.1))) = DataW.weightsEach Tryz.prog [9, 3, 3, 22, 4] (xs.map (·.1)) := by
  rw [DataW.weights, Tryz.underlying59]; rfl
 rw [hwt] at hw
 obtain ⟨d0, p0, t0, w0⟩ := q23 hxs hxl hw (i := 0) rfl (c := 1) (by kernel_rfl)
 obtain ⟨d1, p1, t1, w1⟩ := q23 hxs hxl hw (i := 1) rfl (c := 1) (by kernel_rfl)
 obtain ⟨d2, p2, t2, w2⟩ := q23 hxs hxl hw (i := 2) rfl (c := 1) (by kernel_rfl)
 obtain ⟨d3, p3, t3, w3⟩ := q23 hxs hxl hw (i := 3) rfl (c := 1) (by kernel_rfl)
 obtain ⟨d4, p4, t4, w4⟩ := q23 hxs hxl hw (i := 4) rfl (c := 1) (by kernel_rfl)
 rw [show Tryz.prog.cellsOf 59 = 5 by kernel_rfl] at hlen
 obtain ⟨x0, g0, r0⟩ := (fun _ => q8t Tryz.underlying9) n _ _ _ t0 w0
 obtain ⟨x1, g1, r1⟩ := (fun _ => qen Tryz.underlying3) n _ _ _ t1 w1
 obtain ⟨x2, g2, r2⟩ := (fun _ => qen Tryz.underlying3) n _ _ _ t2 w2
 obtain ⟨x3, g3, r3⟩ := (qeo q7 Tryz.underlying22 (by kernel_rfl) (b := 88) (by kernel_rfl) qkc) n _ _ _ t3 w3
 obtain ⟨x4, g4, r4⟩ := (fun _ => qbc Tryz.underlying4) n _ _ _ t4 w4
 exact ⟨⟨x0, x1, x2, x3, x4⟩, ⟨g0, g1, g2, g3, g4⟩, q34 (off := 0) (s := 1) r0 (q34 (off := 1) (s := 1) r1 (q34 (off := 2) (s := 1) r2 (q34 (off := 3) (s := 1) r3 (q34 (off := 4) (s := 1) r4 (qcb (o := 5) hlen)))))⟩
def SchemaG.Fits (x : SchemaG) : Prop := (x.attrs.length * 88 ≤ 140737488351232 ∧ ∀ y ∈ x.attrs, y.Fits) ∧ (x.nested.length * 64 ≤ 140737488351232 ∧ ∀ y ∈ x.nested, y.Fits)
theorem q8r {H : Type} {enc : TypeId × Value → H} {W : World} (n : Nat) : q3e enc Tryz.prog W n 25 qp2 SchemaG.Fits := by
 intro cs d ps h hw
 obtain ⟨xs, n, rfl, hx, hlen, hxl, hxs⟩ := DataW.trod_struct Tryz.underlying25 h
 cases hx
 have hwt : DataW.weights Tryz.prog 25 (.agg (xs.map (·.1))) = DataW.weightsEach Tryz.prog [22, 23] (xs.map (·.1)) := by
  rw [DataW.weights, Tryz.underlying25]; rfl
 rw [hwt] at hw
 obtain ⟨d0, p0, t0, w0⟩ := q23 hxs hxl hw (i := 0) rfl (c := 1) (by kernel_rfl)
 obtain ⟨d1, p1, t1, w1⟩ := q23 hxs hxl hw (i := 1) rfl (c := 1) (by kernel_rfl)
 rw [show Tryz.prog.cellsOf 25 = 2 by kernel_rfl] at hlen
 obtain ⟨x0, g0, r0⟩ := (qeo q7 Tryz.underlying22 (by kernel_rfl) (b := 88) (by kernel_rfl) qkc) n _ _ _ t0 w0
 obtain ⟨x1, g1, r1⟩ := (qeo qd Tryz.underlying23 (by kernel_rfl) (b := 64) (by kernel_rfl) qsc) n _ _ _ t1 w1
 exact ⟨⟨x0, x1⟩, ⟨g0, g1⟩, q34 (off := 0) (s := 1) r0 (q34 (off := 1) (s := 1) r1 (qcb (o := 2) hlen))⟩
end Abs
end Go.Proofs.YtkffpfapfljinaaGreatDoor
