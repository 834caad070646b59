/-
  Contracts of Go's library and of functions walked by hand, in the form that printed proofs use.
-/
import Derived.Test.YtkffpfapfljinaaGreatDoorKnot
import Derived.Test.YtkffpfapfljinaaGreatDoorACc
import Derived.Test.YtkffpfapfljinaaGreatDoorABr
namespace Go.Proofs.YtkffpfapfljinaaGreatDoor
namespace Abs
open Go.RowKit
variable {E : World → Prop} {E0 : Nat} {G : Nat → Option (List PV)}
def clone {α : Type} (by_ : Nat) (l : List α) : Option (List α) := if l.length * by_ ≤ 140737488355328 then some l else none
theorem qhg {α : Type} {by_ : Nat} {l r : List α} (h : clone by_ l = some r) : r = l ∧ l.length * by_ ≤ 140737488355328 := by
 unfold clone at h
 split at h
 ·rename_i hc; simp at h; exact ⟨h.symm, hc⟩
 ·cases h
theorem q6x (hb : Base E E0 G) (_he : ∀ w, E w → EnvV w) (l r : List ByteArray) (h : clone 16 l = some r) : Pure E E0 Tryz.prog 126 [.cell (vL flS l)] (c1 (vL flS r)) := by
 obtain ⟨rfl, hn⟩ := qhg h
 exact qcr hb r.length (r.map strP) hn (by simp)
noncomputable def q28 (x : Val) : Option Int := gd x.Fits (qz x)
noncomputable def q79 (x : Val) (n : Int) : Option Bool := gd (x.Fits ∧ 0 ≤ n ∧ n ≤ 1000) (q4w x n)
noncomputable def q5c (s : ByteArray) : Option (Int × Int) := gd (s.size ≤ 281474976710656) (NumPlain.parseB s)
noncomputable def q78 (n : Int) : Option ByteArray := gd (-9223372036854775808 ≤ n ∧ n ≤ 9223372036854775807) (fmtB n)
theorem qf1 (hb : Base E E0 G) (_he : ∀ w, E w → EnvV w) (x : Val) (n : Int) (r : Bool) (h : q79 x n = some r) : Pure E E0 Tryz.prog 16 [.agg (aV x), .cell (vi n)] (c1 (vB r)) := by
 obtain ⟨⟨hf, h1, h2⟩, rfl⟩ := q4k h
 exact qth hb x n hf h1 h2
theorem qbg (hb : Base E E0 G) (_he : ∀ w, E w → EnvV w) (x : Val) (r : Int) (h : q28 x = some r) : Pure E E0 Tryz.prog 62 [.agg (aV x)] (c1 (vi r)) := by
 obtain ⟨hf, rfl⟩ := q4k h
 exact qtb hb x hf
theorem q8u (hb : Base E E0 G) (he : ∀ w, E w → EnvV w) (x : Val) (r : Int) (h : q28 x = some r) : Pure E E0 Tryz.prog 32 [.agg (aV x)] (c1 (vi r)) := by
 obtain ⟨hf, rfl⟩ := q4k h
 exact qsj hb he x hf
theorem qsn (hb : Base E E0 G) (he : ∀ w, E w → EnvV w) (s : ByteArray) (r : Int × Int) (h : q5c s = some r) : Pure E E0 Tryz.prog 180 [.cell (vS s)] (.tup [.cell (vi r.1), .cell (vi r.2)]) := by
 obtain ⟨hf, rfl⟩ := q4k h
 exact qsp hb he s hf
theorem qpa (hb : Base E E0 G) (he : ∀ w, E w → EnvV w) (n : Int) (r : ByteArray) (h : q78 n = some r) : Pure E E0 Tryz.prog 182 [.cell (vi n)] (c1 (vS r)) := by
 obtain ⟨hf, rfl⟩ := q4k h
 exact qpb hb he n hf.1 hf.2
end Abs
end Go.Proofs.YtkffpfapfljinaaGreatDoor
