/-
  Arguments of the laws' own struct types, opened.
-/
import Derived.Test.YtjfcgdablmjmnaaGreatDoorOpV
import Derived.Test.YtjfcgdablmjmnaaGreatDoorFnB
namespace Go.Proofs.YtjfcgdablmjmnaaGreatDoor
namespace Abs
set_option maxRecDepth 1000000
open Go.RowKit

section
variable {H : Type} {enc : TypeId × Value → H} {P : Program} {W : World}
theorem open_int {n : Nat} {t : TypeId} (ht : P.underlying t = some (.int .i64)) : OpenAt enc P W n t (flI .i64) fun k => -9223372036854775808 ≤ k ∧ k ≤ 9223372036854775807 := by
  intro cs d ps h hw
  obtain ⟨k, rfl, hx, b⟩ := DataW.trod_int ht h
  exact ⟨k, bounds_i64 b, ⟨rfl, rfl⟩, trivial⟩
theorem open_bool {n : Nat} {t : TypeId} (ht : P.underlying t = some .bool) : OpenAt enc P W n t flB fun _ => True := by
  intro cs d ps h hw
  obtain ⟨k, rfl, hx⟩ := DataW.trod_bool ht h
  exact ⟨k, trivial, ⟨rfl, rfl⟩, trivial⟩
/-- A slice as one cell. -/
def flL {α : Type} (F : Fl α) : Fl (List α) := Fl.of (fun l => [pL F l]) 1 (by decide) (fun _ => rfl)
theorem open_sl {α : Type} (F : Fl α) {good : α → Prop} {t e : TypeId} (ht : P.underlying t = some (.slice e)) (hc : P.cellsOf e = F.sz) {b : Nat} (hbt : P.bytesOf e = b) (he : ∀ n, OpenAt enc P W n e F good) (n : Nat) :
    OpenAt enc P W n t (flL F) fun l => l.length * b ≤ 140737488351232 ∧ ∀ y ∈ l, good y := by
  intro cs d ps h hw
  obtain ⟨l, u, rfl, g, nb, r⟩ := open_list (F := F) ht hc (N := n) (fun j _ => he j) h hw
  exact ⟨l, ⟨hbt ▸ nb, g⟩, r, trivial⟩
theorem all2_part {R : PV → Value → Prop} {a b : List PV} {cs : List Value} {off s : Nat} (h1 : All2 R a ((cs.drop off).take s)) (h2 : All2 R b (cs.drop (off + s))) : All2 R (a ++ b) (cs.drop off) := by
  have := All2.append h1 h2
  rwa [← List.drop_drop, List.take_append_drop] at this
theorem all2_end {R : PV → Value → Prop} {cs : List Value} {o : Nat} (h : cs.length = o) : All2 R [] (cs.drop o) := by
  rw [List.drop_eq_nil_of_le (by omega)]; trivial
theorem elem_at {e : TypeId} {m k : Nat} {cs : List Value} {xs : List (DataW H × List MemPlace)}
    (h : ∀ i, i < m → DataW.trod enc P W 0 (fun _ => true) true k e ((cs.drop (i * P.cellsOf e)).take (P.cellsOf e)) = xs[i]?)
    (hl : xs.length = m) (hw : ∀ x ∈ DataW.weightsAll P e (xs.map (·.1)), x ≤ reachBytes) {i : Nat} (hi : i < m) {c o : Nat} (hc : P.cellsOf e = c) (ho : i * c = o) :
    ∃ d ps, DataW.trod enc P W 0 (fun _ => true) true k e ((cs.drop o).take c) = some (d, ps) ∧ ∀ x ∈ d.weights P e, x ≤ reachBytes := by
  have hi' : i < xs.length := by omega
  have h1 := h i hi
  rw [List.getElem?_eq_getElem hi', hc, ho] at h1
  exact ⟨_, _, h1, fun x hx => hw x (weightsAll_mem (List.mem_map.2 ⟨_, List.getElem_mem hi', rfl⟩) hx)⟩
end
/-- An argument of an array's type. -/
theorem open_arr {H : Type} {enc : TypeId × Value → H} {W : World} {α : Type} {F : Fl α} {good : α → Prop} {t e : TypeId} {k : Nat} (ht : Tryz.prog.underlying t = some (.array k e)) (ho : ∀ n, OpenAt enc Tryz.prog W n t F good)
    {v : Value} {d : DataW H} {ps : List MemPlace} (hval : Value.okWide Tryz.prog W .any 0 t v) (hd : DataW.Trod enc Tryz.prog W 0 (fun _ => true) true t v d ps) (hw : ∀ m ∈ d.weights Tryz.prog t, m ≤ reachBytes) :
    ∃ x, good x ∧ AVRep (Cx.bare W.heap.size W.heap.size fun _ _ => True) W (.agg ((F.c x).map AC.pv)) v := by
  unfold Value.okWide at hval
  rw [ht] at hval
  obtain ⟨cs, rfl, _, _⟩ := hval
  obtain ⟨fuel, hf⟩ := hd
  obtain ⟨x, hx, hr⟩ := ho fuel _ _ _ hf hw
  exact ⟨x, hx, cs, rfl, all2_cells (fun b o hb => .inl ⟨hb, trivial⟩) hr⟩
def CallG.Fits (x : CallG) : Prop := (-9223372036854775808 ≤ x.kind ∧ x.kind ≤ 9223372036854775807) ∧ (-9223372036854775808 ≤ x.op ∧ x.op ≤ 9223372036854775807) ∧ x.name.size ≤ 140737488351232 ∧ x.a.Fits ∧ x.b.Fits ∧ x.c.Fits
theorem open_CallG {H : Type} {enc : TypeId × Value → H} {W : World} (n : Nat) : OpenAt enc Tryz.prog W n 29 flCallG CallG.Fits := by
  intro cs d ps h hw
  obtain ⟨xs, n, rfl, hx, hlen, hxl, hxs⟩ := DataW.trod_struct Tryz.underlying29 h
  cases hx
  have hwt : DataW.weights Tryz.prog 29 (.agg (xs.map (·.1))) = DataW.weightsEach Tryz.prog [3, 22, 9, 27, 27, 27] (xs.map (·.1)) := by
    rw [DataW.weights, Tryz.underlying29]; rfl
  rw [hwt] at hw
  obtain ⟨d0, p0, t0, w0⟩ := field_at hxs hxl hw (i := 0) rfl (c := 1) (by kernel_rfl)
  obtain ⟨d1, p1, t1, w1⟩ := field_at hxs hxl hw (i := 1) rfl (c := 1) (by kernel_rfl)
  obtain ⟨d2, p2, t2, w2⟩ := field_at hxs hxl hw (i := 2) rfl (c := 1) (by kernel_rfl)
  obtain ⟨d3, p3, t3, w3⟩ := field_at hxs hxl hw (i := 3) rfl (c := 5) (by kernel_rfl)
  obtain ⟨d4, p4, t4, w4⟩ := field_at hxs hxl hw (i := 4) rfl (c := 5) (by kernel_rfl)
  obtain ⟨d5, p5, t5, w5⟩ := field_at hxs hxl hw (i := 5) rfl (c := 5) (by kernel_rfl)
  rw [show Tryz.prog.cellsOf 29 = 18 by kernel_rfl] at hlen
  obtain ⟨x0, g0, r0⟩ := (fun _ => open_int Tryz.underlying3) n _ _ _ t0 w0
  obtain ⟨x1, g1, r1⟩ := (fun _ => open_int Tryz.underlying22) n _ _ _ t1 w1
  obtain ⟨x2, g2, r2⟩ := (fun _ => open_str Tryz.underlying9) n _ _ _ t2 w2
  obtain ⟨x3, g3, r3⟩ := open_val n _ _ _ t3 w3
  obtain ⟨x4, g4, r4⟩ := open_val n _ _ _ t4 w4
  obtain ⟨x5, g5, r5⟩ := open_val n _ _ _ t5 w5
  exact ⟨⟨x0, x1, x2, x3, x4, x5⟩, ⟨g0, g1, g2, g3, g4, g5⟩, all2_part (off := 0) (s := 1) r0 (all2_part (off := 1) (s := 1) r1 (all2_part (off := 2) (s := 1) r2 (all2_part (off := 3) (s := 5) r3 (all2_part (off := 8) (s := 5) r4 (all2_part (off := 13) (s := 5) r5 (all2_end (o := 18) hlen))))))⟩

def Arr3Val.Fits (x : Arr3Val) : Prop := x.x0.Fits ∧ x.x1.Fits ∧ x.x2.Fits
theorem open_Arr3Val {H : Type} {enc : TypeId × Value → H} {W : World} (n : Nat) : OpenAt enc Tryz.prog W n 37 flArr3Val Arr3Val.Fits := by
  intro cs d ps h hw
  obtain ⟨xs, n, rfl, hx, hlen, hxl, hxs⟩ := DataW.trod_array Tryz.underlying37 h
  cases hx
  have hwt : DataW.weights Tryz.prog 37 (.agg (xs.map (·.1))) = DataW.weightsAll Tryz.prog 27 (xs.map (·.1)) := by
    rw [DataW.weights, Tryz.underlying37]
  rw [hwt] at hw
  obtain ⟨d0, p0, t0, w0⟩ := elem_at hxs hxl hw (i := 0) (by decide) (c := 5) (o := 0) (by kernel_rfl) rfl
  obtain ⟨d1, p1, t1, w1⟩ := elem_at hxs hxl hw (i := 1) (by decide) (c := 5) (o := 5) (by kernel_rfl) rfl
  obtain ⟨d2, p2, t2, w2⟩ := elem_at hxs hxl hw (i := 2) (by decide) (c := 5) (o := 10) (by kernel_rfl) rfl
  rw [show Tryz.prog.cellsOf 37 = 15 by kernel_rfl] at hlen
  obtain ⟨x0, g0, r0⟩ := open_val n _ _ _ t0 w0
  obtain ⟨x1, g1, r1⟩ := open_val n _ _ _ t1 w1
  obtain ⟨x2, g2, r2⟩ := open_val n _ _ _ t2 w2
  exact ⟨⟨x0, x1, x2⟩, ⟨g0, g1, g2⟩, all2_part (off := 0) (s := 5) r0 (all2_part (off := 5) (s := 5) r1 (all2_part (off := 10) (s := 5) r2 (all2_end (o := 15) hlen)))⟩
end Abs
end Go.Proofs.YtjfcgdablmjmnaaGreatDoor
