/-
  Contracts of Go's library and of functions walked by hand, in the form that printed proofs use.
-/
import Derived.Test.YtoelojmcopcpcaaGreatDoorKnot
import Derived.Test.YtoelojmcopcpcaaGreatDoorACc
import Derived.Test.YtoelojmcopcpcaaGreatDoorABr
namespace Go.Proofs.YtoelojmcopcpcaaGreatDoor
namespace Abs
open Go.RowKit
variable {E : World → Prop} {E0 : Nat} {G : Nat → Option (List PV)}
/-- A copy of a list whose elements have by bytes. -/
def clone {α : Type} (by_ : Nat) (l : List α) : Option (List α) := if l.length * by_ ≤ 140737488355328 then some l else none
theorem clone_eq {α : Type} {by_ : Nat} {l r : List α} (h : clone by_ l = some r) : r = l ∧ l.length * by_ ≤ 140737488355328 := by
  unfold clone at h
  split at h
  · rename_i hc; simp at h; exact ⟨h.symm, hc⟩
  · cases h
theorem cloneK_g (hb : Base E E0 G) (_he : ∀ w, E w → EnvV w) (l r : List ByteArray) (h : clone 16 l = some r) : Pure E E0 Tryz.prog 34 [.cell (vL flS l)] (c1 (vL flS r)) := by
  obtain ⟨rfl, hn⟩ := clone_eq h
  exact cloneK_ok hb r.length (r.map strP) hn (by simp)
theorem valA_aV (x : Val) : valA x = .agg (aV x) := rfl
noncomputable def m_checkE (x : Val) : Option Int := gd x.Fits (checkE x)
noncomputable def m_small (x : Val) (n : Int) : Option Bool := gd (x.Fits ∧ 0 ≤ n ∧ n ≤ 1000) (smallV x n)
noncomputable def m_parse (s : ByteArray) : Option (Int × Int) := gd (s.size ≤ 281474976710656) (NumPlain.parseB s)
noncomputable def m_format (n : Int) : Option ByteArray := gd (-9223372036854775808 ≤ n ∧ n ≤ 9223372036854775807) (fmtB n)
theorem pCheck_g (hb : Base E E0 G) (he : ∀ w, E w → EnvV w) (x : Val) (r : Int) (h : m_checkE x = some r) : Pure E E0 Tryz.prog 21 [.agg (aV x)] (c1 (vi r)) := by
  obtain ⟨hf, rfl⟩ := gd_eq h
  exact pCheck_ok hb he x hf
theorem parse_g (hb : Base E E0 G) (he : ∀ w, E w → EnvV w) (s : ByteArray) (r : Int × Int) (h : m_parse s = some r) : Pure E E0 Tryz.prog 157 [.cell (vS s)] (.tup [.cell (vi r.1), .cell (vi r.2)]) := by
  obtain ⟨hf, rfl⟩ := gd_eq h
  exact parse_ok hb he s hf
theorem format_g (hb : Base E E0 G) (he : ∀ w, E w → EnvV w) (n : Int) (r : ByteArray) (h : m_format n = some r) : Pure E E0 Tryz.prog 158 [.cell (vi n)] (c1 (vS r)) := by
  obtain ⟨hf, rfl⟩ := gd_eq h
  exact format_ok hb he n hf.1 hf.2
end Abs
end Go.Proofs.YtoelojmcopcpcaaGreatDoor
