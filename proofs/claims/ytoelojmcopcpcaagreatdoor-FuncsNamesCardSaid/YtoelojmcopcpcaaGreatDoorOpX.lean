/-
  Arguments of one cell, opened.
-/
import Derived.Test.YtoelojmcopcpcaaGreatDoorOpV
import Derived.Test.YtoelojmcopcpcaaGreatDoorFnZ
namespace Go.Proofs.YtoelojmcopcpcaaGreatDoor
set_option linter.unusedSimpArgs false
set_option linter.unusedVariables false
namespace Abs
set_option maxRecDepth 1000000
open Go.RowKit

section
variable {H : Type} {enc : TypeId × Value → H} {P : Program} {W : World}
theorem open_int {n : Nat} {t : TypeId} (ht : P.underlying t = some (.int .i64)) : OpenAt enc P W n t (flI .i64) fun k => -9223372036854775808 ≤ k ∧ k ≤ 9223372036854775807 := by
  intro cs d ps h hw
  obtain ⟨k, rfl, hx, b⟩ := DataW.trod_int ht h
  exact ⟨k, bounds_i64 b, ⟨rfl, rfl⟩, trivial⟩
theorem open_bool {n : Nat} {t : TypeId} (ht : P.underlying t = some .bool) : OpenAt enc P W n t flB fun _ => True := by
  intro cs d ps h hw
  obtain ⟨k, rfl, hx⟩ := DataW.trod_bool ht h
  exact ⟨k, trivial, ⟨rfl, rfl⟩, trivial⟩
/-- A slice as one cell. -/
def flL {α : Type} (F : Fl α) : Fl (List α) := Fl.of (fun l => [pL F l]) 1 (by decide) (fun _ => rfl)
theorem open_sl {α : Type} (F : Fl α) {good : α → Prop} {t e : TypeId} (ht : P.underlying t = some (.slice e)) (hc : P.cellsOf e = F.sz) {b : Nat} (hbt : P.bytesOf e = b) (he : ∀ n, OpenAt enc P W n e F good) (n : Nat) :
    OpenAt enc P W n t (flL F) fun l => l.length * b ≤ 140737488351232 ∧ ∀ y ∈ l, good y := by
  intro cs d ps h hw
  obtain ⟨l, u, rfl, g, nb, r⟩ := open_list (F := F) ht hc (N := n) (fun j _ => he j) h hw
  exact ⟨l, ⟨hbt ▸ nb, g⟩, r, trivial⟩
theorem all2_part {R : PV → Value → Prop} {a b : List PV} {cs : List Value} {off s : Nat} (h1 : All2 R a ((cs.drop off).take s)) (h2 : All2 R b (cs.drop (off + s))) : All2 R (a ++ b) (cs.drop off) := by
  have := All2.append h1 h2
  rwa [← List.drop_drop, List.take_append_drop] at this
theorem all2_end {R : PV → Value → Prop} {cs : List Value} {o : Nat} (h : cs.length = o) : All2 R [] (cs.drop o) := by
  rw [List.drop_eq_nil_of_le (by omega)]; trivial
theorem elem_at {e : TypeId} {m k : Nat} {cs : List Value} {xs : List (DataW H × List MemPlace)}
    (h : ∀ i, i < m → DataW.trod enc P W 0 (fun _ => true) true k e ((cs.drop (i * P.cellsOf e)).take (P.cellsOf e)) = xs[i]?)
    (hl : xs.length = m) (hw : ∀ x ∈ DataW.weightsAll P e (xs.map (·.1)), x ≤ reachBytes) {i : Nat} (hi : i < m) {c o : Nat} (hc : P.cellsOf e = c) (ho : i * c = o) :
    ∃ d ps, DataW.trod enc P W 0 (fun _ => true) true k e ((cs.drop o).take c) = some (d, ps) ∧ ∀ x ∈ d.weights P e, x ≤ reachBytes := by
  have hi' : i < xs.length := by omega
  have h1 := h i hi
  rw [List.getElem?_eq_getElem hi', hc, ho] at h1
  exact ⟨_, _, h1, fun x hx => hw x (weightsAll_mem (List.mem_map.2 ⟨_, List.getElem_mem hi', rfl⟩) hx)⟩
end
section
variable {H : Type} {enc : TypeId × Value → H} {W : World}
theorem okWide_not_agg {P : Program} {W : World} {r : Reach} {b : Nat} {t : TypeId} {u} (ht : P.underlying t = some u) (hu : match u with | .int _ | .bool | .string | .slice _ => True | _ => False) {v : Value} (h : Value.okWide P W r b t v) : v.cells = #[v] := by
  unfold Value.okWide at h
  rw [ht] at h
  cases v with
  | agg cs =>
    exfalso
    cases u <;> first | exact hu.elim | (simp only [Cell.okWide, ht, Cell.ok] at h)
  | _ => rfl
/-- An argument of one cell. -/
theorem open_arg1 {α : Type} {F : Fl α} {good : α → Prop} {t : TypeId} {f : α → PV} (hF : ∀ x, F.c x = [f x]) {v : Value} (hu : v.cells = #[v]) (ho : ∀ n, OpenAt enc Tryz.prog W n t F good)
    {d : DataW H} {ps : List MemPlace} (hd : DataW.Trod enc Tryz.prog W 0 (fun _ => true) true t v d ps) (hw : ∀ m ∈ d.weights Tryz.prog t, m ≤ reachBytes) :
    ∃ x, good x ∧ AVRep (Cx.bare W.heap.size W.heap.size fun _ _ => True) W (.cell (.pv (f x))) v := by
  obtain ⟨fuel, hf⟩ := hd
  rw [hu] at hf
  obtain ⟨x, hx, hr⟩ := ho fuel _ _ _ hf hw
  rw [hF] at hr
  exact ⟨x, hx, PRep.mono (fun b o hb => ⟨.inl ⟨hb, trivial⟩, rfl⟩) hr.1⟩
theorem open_argI {t : TypeId} (ht : Tryz.prog.underlying t = some (.int .i64)) {v : Value} (hval : Value.okWide Tryz.prog W .any 0 t v) {d : DataW H} {ps : List MemPlace} (hd : DataW.Trod enc Tryz.prog W 0 (fun _ => true) true t v d ps) (hw : ∀ m ∈ d.weights Tryz.prog t, m ≤ reachBytes) :
    ∃ x : Int, (-9223372036854775808 ≤ x ∧ x ≤ 9223372036854775807) ∧ AVRep (Cx.bare W.heap.size W.heap.size fun _ _ => True) W (.cell (vi x)) v := open_arg1 (fun _ => rfl) (okWide_not_agg ht trivial hval) (fun _ => open_int ht) hd hw
theorem open_argB {t : TypeId} (ht : Tryz.prog.underlying t = some .bool) {v : Value} (hval : Value.okWide Tryz.prog W .any 0 t v) {d : DataW H} {ps : List MemPlace} (hd : DataW.Trod enc Tryz.prog W 0 (fun _ => true) true t v d ps) (hw : ∀ m ∈ d.weights Tryz.prog t, m ≤ reachBytes) :
    ∃ x : Bool, True ∧ AVRep (Cx.bare W.heap.size W.heap.size fun _ _ => True) W (.cell (vB x)) v := open_arg1 (fun _ => rfl) (okWide_not_agg ht trivial hval) (fun _ => open_bool ht) hd hw
theorem open_argS {t : TypeId} (ht : Tryz.prog.underlying t = some .string) {v : Value} (hval : Value.okWide Tryz.prog W .any 0 t v) {d : DataW H} {ps : List MemPlace} (hd : DataW.Trod enc Tryz.prog W 0 (fun _ => true) true t v d ps) (hw : ∀ m ∈ d.weights Tryz.prog t, m ≤ reachBytes) :
    ∃ x : ByteArray, x.size ≤ 140737488351232 ∧ AVRep (Cx.bare W.heap.size W.heap.size fun _ _ => True) W (.cell (vS x)) v := open_arg1 (fun _ => rfl) (okWide_not_agg ht trivial hval) (fun _ => open_str ht) hd hw
theorem open_argL {α : Type} (F : Fl α) {good : α → Prop} {t e : TypeId} (ht : Tryz.prog.underlying t = some (.slice e)) (hc : Tryz.prog.cellsOf e = F.sz) {b : Nat} (hbt : Tryz.prog.bytesOf e = b) (he : ∀ n, OpenAt enc Tryz.prog W n e F good)
    {v : Value} (hval : Value.okWide Tryz.prog W .any 0 t v) {d : DataW H} {ps : List MemPlace} (hd : DataW.Trod enc Tryz.prog W 0 (fun _ => true) true t v d ps) (hw : ∀ m ∈ d.weights Tryz.prog t, m ≤ reachBytes) :
    ∃ x : List α, (x.length * b ≤ 140737488351232 ∧ ∀ y ∈ x, good y) ∧ AVRep (Cx.bare W.heap.size W.heap.size fun _ _ => True) W (.cell (vL F x)) v := open_arg1 (F := flL F) (fun _ => rfl) (okWide_not_agg ht trivial hval) (fun n => open_sl F ht hc hbt he n) hd hw
end
end Abs
end Go.Proofs.YtoelojmcopcpcaaGreatDoor
