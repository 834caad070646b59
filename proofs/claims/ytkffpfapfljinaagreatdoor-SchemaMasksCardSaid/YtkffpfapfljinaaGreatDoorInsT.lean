/-
  slices.Insert of one element, walked at each of its instances: behind the last element or before one, with room or without.
-/
import Derived.Test.YtkffpfapfljinaaGreatDoorAbsS
import Derived.Test.YtkffpfapfljinaaGreatDoorFacts
import Derived.Shelf.Spec.SlicesInsert
namespace Go.Proofs.YtkffpfapfljinaaGreatDoor
namespace Abs
open Go.RowKit Go.Lib
set_option linter.unusedVariables false
set_option linter.unusedSimpArgs false
theorem qlh {α : Type} (A V D Z1 Z2 : List α) {p k q : Nat} (hA : A.length = p) (hV : V.length = k) (hD : D.length = q) (hZ : Z1.length = k + q) :
  ((A ++ Z1 ++ Z2).take p ++ V ++ (A ++ Z1 ++ Z2).drop (p + k)).take (p + k) ++ D ++ ((A ++ Z1 ++ Z2).take p ++ V ++ (A ++ Z1 ++ Z2).drop (p + k)).drop (p + k + q) = A ++ V ++ D ++ Z2 := by
 have h1 : (A ++ Z1 ++ Z2).take p = A := by rw [List.append_assoc, List.take_left' hA]
 have h2 : (A ++ Z1 ++ Z2).drop (p + k) = (Z1 ++ Z2).drop k := by rw [List.append_assoc, ← List.drop_drop, List.drop_left' hA]
 have hl : (A ++ V).length = p + k := by rw [List.length_append, hA, hV]
 rw [h1, h2, List.take_left' hl, ← List.drop_drop, List.drop_left' hl, List.drop_drop, List.drop_left' hZ]
theorem qli {α : Type} (L D V Z : List α) {p k : Nat} (hL : p + k ≤ L.length) :
  (L.take (p + k) ++ D ++ Z).take p ++ V ++ (L.take (p + k) ++ D ++ Z).drop (p + k) = L.take p ++ V ++ D ++ Z := by
 have h1 : (L.take (p + k) ++ D ++ Z).take p = L.take p := by
  rw [List.append_assoc, List.take_append_of_le_length (by rw [List.length_take]; omega), List.take_take, Nat.min_eq_left (by omega)]
 have h2 : (L.take (p + k) ++ D ++ Z).drop (p + k) = D ++ Z := by
  rw [List.append_assoc, List.drop_left' (by rw [List.length_take]; omega)]
 rw [h1, h2]; simp
def q9f (n b c : Nat) (row : List Value) (w : World) (e : Ending) (w' : World) : Prop :=
 ∃ q, e = .returned (.slice (some ⟨b, 0, none⟩) (n + 1) c) ∧ w' = (w.drewN q).setRow b row.toArray
theorem qgi (w : World) (R R' : Array Value) (T : TypeId) (f : Nat × Nat) : (w.alloc (.cells R T f)).setRow w.heap.size R' = w.alloc (.cells R' T f) := by
 unfold World.setRow World.alloc
 simp only [World.mk.injEq, and_true, true_and]
 refine Array.ext_getElem? fun j => ?_
 rw [Array.getElem?_modify, Array.getElem?_push, Array.getElem?_push]
 by_cases hj : j = w.heap.size
 ·subst hj; simp
 ·simp [hj, Ne.symm hj]
theorem qgj (w : World) (R0 R1 R2 : Array Value) (T : TypeId) (f : Nat × Nat) : ((w.alloc (.cells R0 T f)).drew.setRow w.heap.size R1).drew.setRow w.heap.size R2 = (w.drewN 2).alloc (.cells R2 T f) := by
 have h1 : ((w.alloc (.cells R0 T f)).drew.setRow w.heap.size R1) = (w.drew.alloc (.cells R1 T f)) := qgi w.drew R0 R1 T f
 rw [h1]
 exact qgi w.drew.drew R1 R2 T f
def q5l (k n : Nat) (row : List Value) (w : World) (e : Ending) (w' : World) : Prop :=
 ∃ (q cap : Nat) (tl : Array Value) (T : TypeId), n + 1 ≤ cap ∧ tl.size = (cap - (n + 1)) * k ∧ e = .returned (.slice (some ⟨w.heap.size, 0, none⟩) (n + 1) cap) ∧ w' = (w.drewN q).alloc (.cells (row.toArray ++ tl) T (0, 0))
set_option maxHeartbeats 4000000 in
set_option maxRecDepth 100000 in
/-- Behind the last element, with room. -/
theorem qpy (b n c vb voff vc : Nat) (cur : Array Value) (T : TypeId) (vs : List Value) (w : World) (hg : w.heap[b]? = some (.cells cur T (0, 0))) (hroom : n + 1 ≤ c) (hc63 : n + 1 ≤ 9223372036854775807) (hfit : c * 3 ≤ cur.size)
  (hvl : vs.length = 3) (hvs : ∀ (j : Nat) v, vs[j]? = some v → w.cell? ⟨vb, voff + j, none⟩ = some v) (h1v : ∀ v ∈ vs, v.oneCell' = true) :
  Calls Tryz.prog 72 #[.slice (some ⟨b, 0, none⟩) n c, .int .i64 n, .slice (some ⟨vb, voff, none⟩) 1 vc] w fun e w' =>
   e = .returned (.slice (some ⟨b, 0, none⟩) (n + 1) c) ∧ w' = w.setRow b (cur.toList.take (n * 3) ++ vs ++ cur.toList.drop (n * 3 + 3)).toArray := by
 have u3 := run_underlying Tryz.underlying3
 have u4 := run_underlying Tryz.underlying4
 have u44 := run_underlying Tryz.underlying44
 obtain ⟨i0, hu, hi0, hz0, hb0⟩ := q2k (show elem? Tryz.prog 44 = some (46, 3, 56) by kernel_rfl)
 have hr : ∀ ty, (Builtin.append_ #[44, 44] ty #[.slice (some ⟨b, 0, none⟩) n c, .slice (some ⟨vb, voff, none⟩) 1 vc]).run Tryz.prog w =
   .ok (.slice (some ⟨b, 0, none⟩) (n + 1) c) (w.setRow b (cur.toList.take (n * 3) ++ vs ++ cur.toList.drop (n * 3 + 3)).toArray) := fun ty => by
  have := run_append_room' (P := Tryz.prog) (w := w) 44 ty _ T i0 hu hi0 b n c cur hg ⟨vb, voff, none⟩ 1 vc vs (by rw [hz0]; omega) (fun j v hj => by rw [Addr.add_lit]; exact hvs j v hj) h1v hroom (by rw [hz0]; omega)
  rw [hz0, hvl] at this
  exact this
 go_enter Tryz.func72, Tryz.ntmps72
 go_wp2_with (at_builtin; refine Lib.wpList_append_run _ rfl _ _ _ _ rfl _ _ rfl rfl _ _ (hr _) ?_)
 go_ret
 exact ⟨rfl, by simp⟩
set_option maxHeartbeats 4000000 in
set_option maxRecDepth 100000 in
/-- Behind the last element, without room. -/
theorem qpx (base : Option Addr) (n c vb voff vc : Nat) (olds vs : List Value) (w : World) (hnil : base = none → n = 0 ∧ c = 0) (hroom : c < n + 1) (hnc : n ≤ c) (hbig : (n + 1) * 56 ≤ 140737488355328)
  (hol : olds.length = n * 3) (hos : ∀ a, base = some a → ∀ (j : Nat) v, olds[j]? = some v → w.cell? (a.add j) = some v)
  (hvl : vs.length = 3) (hvs : ∀ (j : Nat) v, vs[j]? = some v → w.cell? ⟨vb, voff + j, none⟩ = some v) (h1v : ∀ v ∈ vs, v.oneCell' = true) :
  Calls Tryz.prog 72 #[.slice base n c, .int .i64 n, .slice (some ⟨vb, voff, none⟩) 1 vc] w fun e w' =>
   q5l 3 n (olds ++ vs) w e w' := by
 have u3 := run_underlying Tryz.underlying3
 have u4 := run_underlying Tryz.underlying4
 have u44 := run_underlying Tryz.underlying44
 obtain ⟨i0, hu, hi0, hz0, hb0⟩ := q2k (show elem? Tryz.prog 44 = some (46, 3, 56) by kernel_rfl)
 have hzv : i0.zero = some (Value.agg #[.int .i64 0, .slice none 0 0, .slice none 0 0]) := by
  have : (Tryz.prog.info? 46).bind (·.zero) = some (Value.agg #[.int .i64 0, .slice none 0 0, .slice none 0 0]) := by kernel_rfl
  rw [hi0] at this; exact this
 have hge := grownCap_ge w (n + 1) c (46)
 have hr : ∀ ty, (Builtin.append_ #[44, 44] ty #[.slice base n c, .slice (some ⟨vb, voff, none⟩) 1 vc]).run Tryz.prog w =
   .ok (.slice (some ⟨w.heap.size, 0, none⟩) (n + 1) (grownCap w (n + 1) c 46)) (w.drew.alloc (.cells ((olds ++ vs).toArray ++ Builtin.zeroCells (Value.agg #[.int .i64 0, .slice none 0 0, .slice none 0 0]).cells (grownCap w (n + 1) c 46 - (n + 1))) 46)) := fun ty => by
  cases base with
  | none =>
   obtain ⟨rfl, rfl⟩ := hnil rfl
   obtain rfl : olds = [] := List.eq_nil_of_length_eq_zero (by simpa using hol)
   have := run_append_nil (P := Tryz.prog) w 44 ty 46 i0 _ hu hi0 hzv ⟨vb, voff, none⟩ 1 vc vs (by rw [hz0]; omega) (fun j v hj => by rw [Addr.add_lit]; exact hvs j v hj) (by decide) (by decide) (by rw [hb0]; decide)
   simpa using this
  | some a =>
   have := run_append_grow (P := Tryz.prog) w 44 ty 46 i0 _ hu hi0 hzv a n c olds (by rw [hz0]; omega) (hos a rfl) ⟨vb, voff, none⟩ 1 vc vs (by rw [hz0]; omega) (fun j v hj => by rw [Addr.add_lit]; exact hvs j v hj) hroom (by omega) (by rw [hb0]; exact growslice_fits hroom hbig)
   simpa using this
 go_enter Tryz.func72, Tryz.ntmps72
 cases base with
 | none =>
  obtain ⟨rfl, rfl⟩ := hnil rfl
  go_wp2_with (at_builtin; refine Lib.wpList_append_run _ rfl _ _ _ _ rfl _ _ rfl rfl _ _ (hr _) ?_)
  all_goals (go_ret; exact ⟨1, _, _, _, hge, size_zeroCells _ _, rfl, rfl⟩)
 | some a =>
  obtain ⟨ab, ao, asp⟩ := a
  go_wp2_with (at_builtin; refine Lib.wpList_append_run _ rfl _ _ _ _ rfl _ _ rfl rfl _ _ (hr _) ?_)
  all_goals (go_ret; exact ⟨1, _, _, _, hge, size_zeroCells _ _, rfl, rfl⟩)
set_option maxHeartbeats 4000000 in
set_option maxRecDepth 100000 in
/-- Before an element, without room. -/
theorem qpz (b n i vb voff vc : Nat) (olds vs : List Value) (w : World) (hi : i < n) (hbig : (n + 1) * 56 ≤ 140737488355328)
  (hol : olds.length = n * 3) (hos : ∀ (j : Nat) v, olds[j]? = some v → w.cell? ⟨b, j, none⟩ = some v) (h1o : ∀ v ∈ olds, v.oneCell' = true)
  (hvl : vs.length = 3) (hvs : ∀ (j : Nat) v, vs[j]? = some v → w.cell? ⟨vb, voff + j, none⟩ = some v) (h1v : ∀ v ∈ vs, v.oneCell' = true) :
  Calls Tryz.prog 72 #[.slice (some ⟨b, 0, none⟩) n n, .int .i64 i, .slice (some ⟨vb, voff, none⟩) 1 vc] w fun e w' =>
   q5l 3 n (olds.take (i * 3) ++ vs ++ olds.drop (i * 3)) w e w' := by
 have u3 := run_underlying Tryz.underlying3
 have u4 := run_underlying Tryz.underlying4
 have u44 := run_underlying Tryz.underlying44
 obtain ⟨i0, hu, hi0, hz0, hb0⟩ := q2k (show elem? Tryz.prog 44 = some (46, 3, 56) by kernel_rfl)
 have hzv : i0.zero = some (Value.agg #[.int .i64 0, .slice none 0 0, .slice none 0 0]) := by
  have : (Tryz.prog.info? 46).bind (·.zero) = some (Value.agg #[.int .i64 0, .slice none 0 0, .slice none 0 0]) := by kernel_rfl
  rw [hi0] at this; exact this
 have hsz : (Tryz.prog.info? 46).map (·.size) = some 3 := by rw [hi0]; exact congrArg some hz0
 have hz2 : ¬ ((i : Int) = (n : Int)) := by omega
 have hz3 : (n : Int) < (n : Int) + 1 := by omega
 have hz4 : ((n : Int) + 1 > (n : Int)) := by omega
 have hbw : b < w.heap.size := block_lt_of_cell (hos 0 _ (List.getElem?_eq_getElem (by omega)))
 have hvw : vb < w.heap.size := block_lt_of_cell (hvs 0 _ (List.getElem?_eq_getElem (by omega)))
 have hkk : (n : Int) + 1 - (i : Int) = ((n + 1 - i : Nat) : Int) := by omega
 have hik : i + (n + 1 - i) = n + 1 := by omega
 have hge := grownCap_ge w (n + 1) n (46)
 have hG63 : grownCap w (n + 1) n 46 ≤ 9223372036854775807 := by
  have := grownCap_le_maxLen w (n + 1) n (46) (by unfold maxLen; omega)
  unfold maxLen at this
  omega
 have hold : (Builtin.firstCells i0.size i (.slice (some ⟨b, 0, none⟩) i n)).run Tryz.prog w.drew = .ok (olds.take (i * 3)).toArray w.drew :=
  run_firstCells_some w.drew i0.size i ⟨b, 0, none⟩ i n (olds.take (i * 3)) (by rw [hz0, List.length_take]; omega) (fun j v hj => by
   rw [Addr.add_lit, Nat.zero_add]
   rw [List.getElem?_take] at hj
   split at hj
   ·exact hos j v hj
   ·cases hj)
 obtain ⟨G, hG⟩ : ∃ G, G = grownCap w (n + 1) n 46 := ⟨_, rfl⟩
 obtain ⟨R0, hR0⟩ : ∃ R : Array Value, R = (olds.take (i * 3)).toArray ++ Builtin.zeroCells (Value.agg #[.int .i64 0, .slice none 0 0, .slice none 0 0]).cells (n + 1 - i) ++ Builtin.zeroCells (Value.agg #[.int .i64 0, .slice none 0 0, .slice none 0 0]).cells (G - (n + 1)) := ⟨_, rfl⟩
 have hrz : ∀ ty, (Builtin.append_ #[44, 3] ty #[.slice (some ⟨b, 0, none⟩) i n, .int .i64 ((n : Int) + 1 - (i : Int))]).run Tryz.prog w =
   .ok (.slice (some ⟨w.heap.size, 0, none⟩) (n + 1) G) (w.drew.alloc (.cells R0 46 (0, 0))) := fun ty => by
  have h := Lib.run_append_grow_zeros w 44 3 ty 46 i0 _ .i64 .i64 hu Tryz.underlying3 hi0 hzv (some ⟨b, 0, none⟩) i n (olds.take (i * 3)) hold (n + 1 - i) (by omega) (by omega) (by omega) (by omega) (by rw [hb0]; omega) (by rw [hb0, hik]; exact growslice_fits (by omega) hbig)
  rw [hik] at h
  rw [hkk, hR0, hG]
  exact h
 rw [← hG] at hge hG63
 have hR0l : R0.size = G * 3 := by
  rw [hR0]
  simp only [Array.size_append, size_zeroCells, List.size_toArray, List.length_take, hol, Value.cells]
  show min (i * 3) (n * 3) + (n + 1 - i) * 3 + (G - (n + 1)) * 3 = _
  omega
 obtain ⟨R1, hR1⟩ : ∃ R : Array Value, R = (R0.toList.take (i * 3) ++ vs ++ R0.toList.drop (i * 3 + vs.length)).toArray := ⟨_, rfl⟩
 have hR1l : R1.size = G * 3 := by
  rw [hR1]
  simp [hR0l, hvl]
  omega
 obtain ⟨R2, hR2⟩ : ∃ R : Array Value, R = (R1.toList.take ((i + 1) * 3) ++ olds.drop (i * 3) ++ R1.toList.drop ((i + 1) * 3 + (olds.drop (i * 3)).length)).toArray := ⟨_, rfl⟩
 have hdl : (olds.drop (i * 3)).length = (n - i) * 3 := by rw [List.length_drop, hol, Nat.sub_mul]
 have gs : ∀ (W : World) (R R' : Array Value), W.heap[w.heap.size]? = some (.cells R 46 (0, 0)) → (W.setRow w.heap.size R').heap[w.heap.size]? = some (.cells R' 46 (0, 0)) := fun W R R' h => setRow_heap W _ R R' _ (0, 0) h
 have cO : ∀ (W : World), (∀ k, k ≠ w.heap.size → W.heap[k]? = w.heap[k]?) → ∀ k o, k < w.heap.size → W.cell? ⟨k, o, none⟩ = w.cell? ⟨k, o, none⟩ := fun W h k o hk => by unfold World.cell?; simp only; rw [h k (by omega)]
 have hcpA : ∀ (W : World) ty dc, W.heap = (w.heap.push (.cells R0 46 (0, 0))) → (Builtin.copy_ #[44, 44] ty #[.slice (some ⟨w.heap.size, i * 3, none⟩) (n + 1 - i) dc, .slice (some ⟨vb, voff, none⟩) 1 vc]).run Tryz.prog W = .ok (goInt 1) (W.setRow w.heap.size R1) := fun W ty dc hW => by
  have hm : Nat.min 1 (n + 1 - i) = 1 := by simp only [Nat.min_def]; split <;> omega
  have := q5h (P := Tryz.prog) W 44 44 ty 46 3 w.heap.size (i * 3) (n + 1 - i) dc ⟨vb, voff, none⟩ 1 vc R0 46 vs hu hsz (by rw [hW]; simp) (by rw [hm, hvl]) (fun j v hj => by
   rw [Addr.add_lit, cO W (fun k hk => by rw [hW, Array.getElem?_push]; simp [hk]) _ _ hvw]; exact hvs j v hj) (by rw [hR0l, hvl, ← Nat.succ_mul]; exact Nat.mul_le_mul_right _ (by omega)) h1v
  rw [this, hm, hR1]; rfl
 have hcpB : ∀ (W : World) ty dc sc, W.heap = ((w.drew.alloc (.cells R0 46 (0, 0))).setRow w.heap.size R1).heap → (Builtin.copy_ #[44, 44] ty #[.slice (some ⟨w.heap.size, (i + 1) * 3, none⟩) (n + 1 - (i + 1)) dc, .slice (some ⟨b, i * 3, none⟩) (n - i) sc]).run Tryz.prog W = .ok (goInt ((n - i : Nat) : Int)) (W.setRow w.heap.size R2) := fun W ty dc sc hW => by
  have hm : Nat.min (n - i) (n + 1 - (i + 1)) = n - i := by simp only [Nat.min_def]; split <;> omega
  have hh : ∀ k, k ≠ w.heap.size → W.heap[k]? = w.heap[k]? := fun k hk => by
   rw [hW, setRow_other _ _ _ _ hk]
   show (w.heap.push _)[k]? = _
   rw [Array.getElem?_push]; simp [hk]
  have hg1 : W.heap[w.heap.size]? = some (.cells R1 46 (0, 0)) := by
   rw [hW]; exact gs _ R0 _ (by show (w.heap.push _)[w.heap.size]? = _; simp)
  have := q5h (P := Tryz.prog) W 44 44 ty 46 3 w.heap.size ((i + 1) * 3) (n + 1 - (i + 1)) dc ⟨b, i * 3, none⟩ (n - i) sc R1 46 (olds.drop (i * 3)) hu hsz hg1 (by rw [hm, hdl]) (fun j v hj => by
   rw [Addr.add_lit, cO W hh _ _ hbw]; exact hos _ v (by rwa [List.getElem?_drop] at hj)) (by rw [hR1l, hdl, ← Nat.add_mul]; exact Nat.mul_le_mul_right _ (by omega)) (fun v hv => h1o v (List.mem_of_mem_drop hv))
  rw [this, hm, hR2]
 have hfin : R2 = (olds.take (i * 3) ++ vs ++ olds.drop (i * 3)).toArray ++ Builtin.zeroCells (Value.agg #[.int .i64 0, .slice none 0 0, .slice none 0 0]).cells (G - (n + 1)) := by
  rw [hR2, hR1, hR0]
  apply Array.ext'
  simp only [Array.toList_append, List.toList_toArray]
  rw [hvl, hdl, show (i + 1) * 3 = i * 3 + 3 by omega]
  exact qlh _ vs _ _ _ (by rw [List.length_take, hol]; omega) hvl hdl (by rw [Array.length_toList, size_zeroCells]; show (n + 1 - i) * 3 = _; omega)
 have hw1 : IntKind.i64.wrap ((i : Int) + 1) = (i : Int) + 1 := by rw [IntKind.wrap_i64]; omega
 have hb1 : (0 : Int) ≤ (i : Int) + 1 := by omega
 have hin : i ≤ n := by omega
 have htn : ((i : Int) + 1).toNat = i + 1 := by omega
 have hb3 : (i : Int) ≤ (n : Int) := by omega
 have hGi : ¬ (G = i) := by omega
 have hGim : ¬ (G = i + 1) := by omega
 have hci : ¬ (n = i) := by omega
 have HR0 := Lib.hid hR0
 have HR1 := Lib.hid hR1
 have HR2 := Lib.hid hR2
 have HG := Lib.hid hG
 have HF := Lib.hid hfin
 have hmx : Tryz.prog.follows .mixedOrders = true := by kernel_rfl
 clear hkk hik hold hR0 hR1 hR2 hG hfin
 go_enter Tryz.func72, Tryz.ntmps72
 go_wp2_with (at_builtin; refine Lib.wpList_append_run _ rfl _ _ _ _ rfl _ _ rfl rfl _ _ (hrz _) ?_)
 rw [hcpA _ _ _ rfl]
 go_wp2_with fail
 go_region_law_o (refine step_copy_runI rfl _ _ 44 44 rfl (.slice (some ⟨w.heap.size, (i + 1) * 3, none⟩) (n + 1 - (i + 1)) (G - (i + 1))) (.slice (some ⟨b, i * 3, none⟩) (n - i) (n - i)) (by simp [Act.eval, Act.put]) (by simp [Act.eval, Act.put]) (hcpB _ _ _ _ rfl) ?_)
 go_wp2_with fail
 go_ret
 refine ⟨2, G, Builtin.zeroCells (Value.agg #[.int .i64 0, .slice none 0 0, .slice none 0 0]).cells (G - (n + 1)), 46, hge, size_zeroCells _ _, rfl, ?_⟩
 rw [HF.out]
 exact qgj w R0 R1 _ _ _
set_option maxHeartbeats 4000000 in
set_option maxRecDepth 100000 in
/-- Before an element, with room. -/
theorem qq0 (b n c i vb voff vc : Nat) (cur : Array Value) (T : TypeId) (vs : List Value) (w : World) (hi : i < n) (hroom : n + 1 ≤ c) (hc63 : n + 1 ≤ 9223372036854775807) (hfit : c * 3 ≤ cur.size) (hvb : vb ≠ b)
  (hg : w.heap[b]? = some (.cells cur T (0, 0))) (h1o : ∀ v ∈ cur.toList.take (n * 3), v.oneCell' = true)
  (hvl : vs.length = 3) (hvs : ∀ (j : Nat) v, vs[j]? = some v → w.cell? ⟨vb, voff + j, none⟩ = some v) (h1v : ∀ v ∈ vs, v.oneCell' = true) :
  Calls Tryz.prog 72 #[.slice (some ⟨b, 0, none⟩) n c, .int .i64 i, .slice (some ⟨vb, voff, none⟩) 1 vc] w fun e w' =>
   q9f n b c (cur.toList.take (i * 3) ++ vs ++ (cur.toList.take (n * 3)).drop (i * 3) ++ cur.toList.drop ((n + 1) * 3)) w e w' := by
 have u3 := run_underlying Tryz.underlying3
 have u4 := run_underlying Tryz.underlying4
 have u44 := run_underlying Tryz.underlying44
 obtain ⟨i0, hu, hi0, hz0, hb0⟩ := q2k (show elem? Tryz.prog 44 = some (46, 3, 56) by kernel_rfl)
 have hsz : (Tryz.prog.info? 46).map (·.size) = some 3 := by rw [hi0]; exact congrArg some hz0
 have hsO : ∀ w, (Go.sizeOf 46).run Tryz.prog w = .ok 3 w := fun w => by simp [Go.sizeOf, typeInfo, hi0, hz0]
 have hz2 : ¬ ((i : Int) = (n : Int)) := by omega
 have hz3 : ¬ ((c : Int) < (n : Int) + 1) := by omega
 have hv0 := hvs 0 _ (List.getElem?_eq_getElem (by omega))
 rw [Nat.add_zero] at hv0
 have hov : ∀ lb cb, (callFunc 119 #[.slice (some ⟨vb, voff, none⟩) 1 vc, .slice (some ⟨b, (i + 1) * 3, none⟩) lb cb]).run Tryz.prog w = .ok (.value (.bool false)) w := fun lb cb => by
  rw [run_callFunc_extern Tryz.func119 (by kernel_rfl) (by kernel_rfl) (by kernel_rfl) (e := Extern.SlicesOverlaps.overlaps #[44, 44] #[4]) (by kernel_rfl),
   qll w 44 4 46 hu 3 hsO ⟨vb, voff, none⟩ ⟨b, (i + 1) * 3, none⟩ 1 vc lb cb hvb hv0 hg (by omega)]
  rfl
 obtain ⟨D, hD⟩ : ∃ D : List Value, D = (cur.toList.take (n * 3)).drop (i * 3) := ⟨_, rfl⟩
 have hdl : D.length = (n - i) * 3 := by rw [hD, List.length_drop, List.length_take, Array.length_toList]; omega
 obtain ⟨R1, hR1⟩ : ∃ R : Array Value, R = (cur.toList.take ((i + 1) * 3) ++ D ++ cur.toList.drop ((i + 1) * 3 + D.length)).toArray := ⟨_, rfl⟩
 have hR1l : R1.size = cur.size := by
  rw [hR1]
  simp only [List.size_toArray, List.length_append, List.length_take, List.length_drop, Array.length_toList, hdl]
  omega
 obtain ⟨R2, hR2⟩ : ∃ R : Array Value, R = (R1.toList.take (i * 3) ++ vs ++ R1.toList.drop (i * 3 + vs.length)).toArray := ⟨_, rfl⟩
 have hcpA : ∀ (W : World) ty dc sc, W.heap = w.heap → (Builtin.copy_ #[44, 44] ty #[.slice (some ⟨b, (i + 1) * 3, none⟩) (n + 1 - (i + 1)) dc, .slice (some ⟨b, i * 3, none⟩) (n + 1 - i) sc]).run Tryz.prog W = .ok (goInt ((n - i : Nat) : Int)) (W.setRow b R1) := fun W ty dc sc hW => by
  have hm : Nat.min (n + 1 - i) (n + 1 - (i + 1)) = n - i := by simp only [Nat.min_def]; split <;> omega
  have := q5h (P := Tryz.prog) W 44 44 ty 46 3 b ((i + 1) * 3) (n + 1 - (i + 1)) dc ⟨b, i * 3, none⟩ (n + 1 - i) sc cur T D hu hsz (by rw [hW]; exact hg) (by rw [hm, hdl]) (fun j v hj => by
   have hlt := (List.getElem?_eq_some_iff.1 hj).1
   rw [hD, List.getElem?_drop, List.getElem?_take, if_pos (by omega)] at hj
   rw [Addr.add_lit]
   unfold World.cell?
   simp only [hW, hg, Option.isSome_none]
   simpa using hj) (by rw [hdl, ← Nat.add_mul]; exact Nat.le_trans (Nat.mul_le_mul_right _ (by omega)) hfit) (fun v hv => h1o v (by rw [hD] at hv; exact List.mem_of_mem_drop hv))
  rw [this, hm, hR1]
 have hcpB : ∀ (W : World) ty dc, W.heap = (w.setRow b R1).heap → (Builtin.copy_ #[44, 44] ty #[.slice (some ⟨b, i * 3, none⟩) (n + 1 - i) dc, .slice (some ⟨vb, voff, none⟩) 1 vc]).run Tryz.prog W = .ok (goInt 1) (W.setRow b R2) := fun W ty dc hW => by
  have hm : Nat.min 1 (n + 1 - i) = 1 := by simp only [Nat.min_def]; split <;> omega
  have := q5h (P := Tryz.prog) W 44 44 ty 46 3 b (i * 3) (n + 1 - i) dc ⟨vb, voff, none⟩ 1 vc R1 T vs hu hsz (by rw [hW]; exact setRow_heap w b cur R1 T (0, 0) hg) (by rw [hm, hvl]) (fun j v hj => by
   rw [Addr.add_lit]
   have := hvs j v hj
   unfold World.cell? at this ⊢
   simp only [hW, setRow_other w b vb R1 hvb]
   exact this) (by rw [hR1l, hvl, ← Nat.succ_mul]; exact Nat.le_trans (Nat.mul_le_mul_right _ (by omega)) hfit) h1v
  rw [this, hm, hR2]; rfl
 have hfin : R2 = (cur.toList.take (i * 3) ++ vs ++ D ++ cur.toList.drop ((n + 1) * 3)).toArray := by
  rw [hR2, hR1]
  simp only [List.toList_toArray]
  rw [hvl, hdl, show (i + 1) * 3 = i * 3 + 3 by omega, show i * 3 + 3 + (n - i) * 3 = (n + 1) * 3 by omega]
  congr 1
  exact qli cur.toList D vs (cur.toList.drop ((n + 1) * 3)) (p := i * 3) (k := 3) (by rw [Array.length_toList]; omega)
 have hw1 : IntKind.i64.wrap ((i : Int) + 1) = (i : Int) + 1 := by rw [IntKind.wrap_i64]; omega
 have hw2 : IntKind.i64.wrap ((n : Int) + 1) = (n : Int) + 1 := by rw [IntKind.wrap_i64]; omega
 have hb1 : (0 : Int) ≤ (i : Int) + 1 := by omega
 have hin : i ≤ n := by omega
 have htn : ((i : Int) + 1).toNat = i + 1 := by omega
 have hb2 : ¬ (c = i + 1) := by omega
 have hb3 : (i : Int) ≤ (n : Int) + 1 := by omega
 have hb4 : ¬ (c = i) := by omega
 have hmx : Tryz.prog.follows .mixedOrders = true := by kernel_rfl
 have HR1 := Lib.hid hR1
 have HR2 := Lib.hid hR2
 have HF := Lib.hid hfin
 have HD := Lib.hid hD
 clear hR1 hR2 hfin hD
 go_enter Tryz.func72, Tryz.ntmps72
 go_wp2_with (simp only [hov])
 go_region_law_o (refine step_copy_runI rfl _ _ 44 44 rfl (.slice (some ⟨b, (i + 1) * 3, none⟩) (n + 1 - (i + 1)) (c - (i + 1))) (.slice (some ⟨b, i * 3, none⟩) (n + 1 - i) (c - i)) (by simp [Act.eval, Act.put]) (by simp [Act.eval, Act.put]) (hcpA _ _ _ _ rfl) ?_)
 go_wp2_with fail
 rw [hcpB (w.drew.setRow b R1) _ _ rfl]
 go_wp2_with fail
 go_ret
 refine ⟨1, rfl, ?_⟩
 rw [← HD.out, ← HF.out]
 exact setRow_setRow _ _ _ _
set_option maxHeartbeats 4000000 in
set_option maxRecDepth 100000 in
/-- Behind the last element, with room. -/
theorem qpu (b n c vb voff vc : Nat) (cur : Array Value) (T : TypeId) (vs : List Value) (w : World) (hg : w.heap[b]? = some (.cells cur T (0, 0))) (hroom : n + 1 ≤ c) (hc63 : n + 1 ≤ 9223372036854775807) (hfit : c * 1 ≤ cur.size)
  (hvl : vs.length = 1) (hvs : ∀ (j : Nat) v, vs[j]? = some v → w.cell? ⟨vb, voff + j, none⟩ = some v) (h1v : ∀ v ∈ vs, v.oneCell' = true) :
  Calls Tryz.prog 71 #[.slice (some ⟨b, 0, none⟩) n c, .int .i64 n, .slice (some ⟨vb, voff, none⟩) 1 vc] w fun e w' =>
   e = .returned (.slice (some ⟨b, 0, none⟩) (n + 1) c) ∧ w' = w.setRow b (cur.toList.take (n * 1) ++ vs ++ cur.toList.drop (n * 1 + 1)).toArray := by
 have u3 := run_underlying Tryz.underlying3
 have u4 := run_underlying Tryz.underlying4
 have u44 := run_underlying Tryz.underlying32
 obtain ⟨i0, hu, hi0, hz0, hb0⟩ := q2k (show elem? Tryz.prog 32 = some (9, 1, 16) by kernel_rfl)
 have hr : ∀ ty, (Builtin.append_ #[32, 32] ty #[.slice (some ⟨b, 0, none⟩) n c, .slice (some ⟨vb, voff, none⟩) 1 vc]).run Tryz.prog w =
   .ok (.slice (some ⟨b, 0, none⟩) (n + 1) c) (w.setRow b (cur.toList.take (n * 1) ++ vs ++ cur.toList.drop (n * 1 + 1)).toArray) := fun ty => by
  have := run_append_room' (P := Tryz.prog) (w := w) 32 ty _ T i0 hu hi0 b n c cur hg ⟨vb, voff, none⟩ 1 vc vs (by rw [hz0]; omega) (fun j v hj => by rw [Addr.add_lit]; exact hvs j v hj) h1v hroom (by rw [hz0]; omega)
  rw [hz0, hvl] at this
  exact this
 go_enter Tryz.func71, Tryz.ntmps71
 go_wp2_with (at_builtin; refine Lib.wpList_append_run _ rfl _ _ _ _ rfl _ _ rfl rfl _ _ (hr _) ?_)
 go_ret
 exact ⟨rfl, by simp⟩
set_option maxHeartbeats 4000000 in
set_option maxRecDepth 100000 in
/-- Behind the last element, without room. -/
theorem qpt (base : Option Addr) (n c vb voff vc : Nat) (olds vs : List Value) (w : World) (hnil : base = none → n = 0 ∧ c = 0) (hroom : c < n + 1) (hnc : n ≤ c) (hbig : (n + 1) * 16 ≤ 140737488355328)
  (hol : olds.length = n * 1) (hos : ∀ a, base = some a → ∀ (j : Nat) v, olds[j]? = some v → w.cell? (a.add j) = some v)
  (hvl : vs.length = 1) (hvs : ∀ (j : Nat) v, vs[j]? = some v → w.cell? ⟨vb, voff + j, none⟩ = some v) (h1v : ∀ v ∈ vs, v.oneCell' = true) :
  Calls Tryz.prog 71 #[.slice base n c, .int .i64 n, .slice (some ⟨vb, voff, none⟩) 1 vc] w fun e w' =>
   q5l 1 n (olds ++ vs) w e w' := by
 have u3 := run_underlying Tryz.underlying3
 have u4 := run_underlying Tryz.underlying4
 have u44 := run_underlying Tryz.underlying32
 obtain ⟨i0, hu, hi0, hz0, hb0⟩ := q2k (show elem? Tryz.prog 32 = some (9, 1, 16) by kernel_rfl)
 have hzv : i0.zero = some (Value.string ⟨#[]⟩) := by
  have : (Tryz.prog.info? 9).bind (·.zero) = some (Value.string ⟨#[]⟩) := by kernel_rfl
  rw [hi0] at this; exact this
 have hge := grownCap_ge w (n + 1) c (9)
 have hr : ∀ ty, (Builtin.append_ #[32, 32] ty #[.slice base n c, .slice (some ⟨vb, voff, none⟩) 1 vc]).run Tryz.prog w =
   .ok (.slice (some ⟨w.heap.size, 0, none⟩) (n + 1) (grownCap w (n + 1) c 9)) (w.drew.alloc (.cells ((olds ++ vs).toArray ++ Builtin.zeroCells (Value.string ⟨#[]⟩).cells (grownCap w (n + 1) c 9 - (n + 1))) 9)) := fun ty => by
  cases base with
  | none =>
   obtain ⟨rfl, rfl⟩ := hnil rfl
   obtain rfl : olds = [] := List.eq_nil_of_length_eq_zero (by simpa using hol)
   have := run_append_nil (P := Tryz.prog) w 32 ty 9 i0 _ hu hi0 hzv ⟨vb, voff, none⟩ 1 vc vs (by rw [hz0]; omega) (fun j v hj => by rw [Addr.add_lit]; exact hvs j v hj) (by decide) (by decide) (by rw [hb0]; decide)
   simpa using this
  | some a =>
   have := run_append_grow (P := Tryz.prog) w 32 ty 9 i0 _ hu hi0 hzv a n c olds (by rw [hz0]; omega) (hos a rfl) ⟨vb, voff, none⟩ 1 vc vs (by rw [hz0]; omega) (fun j v hj => by rw [Addr.add_lit]; exact hvs j v hj) hroom (by omega) (by rw [hb0]; exact growslice_fits hroom hbig)
   simpa using this
 go_enter Tryz.func71, Tryz.ntmps71
 cases base with
 | none =>
  obtain ⟨rfl, rfl⟩ := hnil rfl
  go_wp2_with (at_builtin; refine Lib.wpList_append_run _ rfl _ _ _ _ rfl _ _ rfl rfl _ _ (hr _) ?_)
  all_goals (go_ret; exact ⟨1, _, _, _, hge, size_zeroCells _ _, rfl, rfl⟩)
 | some a =>
  obtain ⟨ab, ao, asp⟩ := a
  go_wp2_with (at_builtin; refine Lib.wpList_append_run _ rfl _ _ _ _ rfl _ _ rfl rfl _ _ (hr _) ?_)
  all_goals (go_ret; exact ⟨1, _, _, _, hge, size_zeroCells _ _, rfl, rfl⟩)
set_option maxHeartbeats 4000000 in
set_option maxRecDepth 100000 in
/-- Before an element, without room. -/
theorem qpv (b n i vb voff vc : Nat) (olds vs : List Value) (w : World) (hi : i < n) (hbig : (n + 1) * 16 ≤ 140737488355328)
  (hol : olds.length = n * 1) (hos : ∀ (j : Nat) v, olds[j]? = some v → w.cell? ⟨b, j, none⟩ = some v) (h1o : ∀ v ∈ olds, v.oneCell' = true)
  (hvl : vs.length = 1) (hvs : ∀ (j : Nat) v, vs[j]? = some v → w.cell? ⟨vb, voff + j, none⟩ = some v) (h1v : ∀ v ∈ vs, v.oneCell' = true) :
  Calls Tryz.prog 71 #[.slice (some ⟨b, 0, none⟩) n n, .int .i64 i, .slice (some ⟨vb, voff, none⟩) 1 vc] w fun e w' =>
   q5l 1 n (olds.take (i * 1) ++ vs ++ olds.drop (i * 1)) w e w' := by
 have u3 := run_underlying Tryz.underlying3
 have u4 := run_underlying Tryz.underlying4
 have u44 := run_underlying Tryz.underlying32
 obtain ⟨i0, hu, hi0, hz0, hb0⟩ := q2k (show elem? Tryz.prog 32 = some (9, 1, 16) by kernel_rfl)
 have hzv : i0.zero = some (Value.string ⟨#[]⟩) := by
  have : (Tryz.prog.info? 9).bind (·.zero) = some (Value.string ⟨#[]⟩) := by kernel_rfl
  rw [hi0] at this; exact this
 have hsz : (Tryz.prog.info? 9).map (·.size) = some 1 := by rw [hi0]; exact congrArg some hz0
 have hz2 : ¬ ((i : Int) = (n : Int)) := by omega
 have hz3 : (n : Int) < (n : Int) + 1 := by omega
 have hz4 : ((n : Int) + 1 > (n : Int)) := by omega
 have hbw : b < w.heap.size := block_lt_of_cell (hos 0 _ (List.getElem?_eq_getElem (by omega)))
 have hvw : vb < w.heap.size := block_lt_of_cell (hvs 0 _ (List.getElem?_eq_getElem (by omega)))
 have hkk : (n : Int) + 1 - (i : Int) = ((n + 1 - i : Nat) : Int) := by omega
 have hik : i + (n + 1 - i) = n + 1 := by omega
 have hge := grownCap_ge w (n + 1) n (9)
 have hG63 : grownCap w (n + 1) n 9 ≤ 9223372036854775807 := by
  have := grownCap_le_maxLen w (n + 1) n (9) (by unfold maxLen; omega)
  unfold maxLen at this
  omega
 have hold : (Builtin.firstCells i0.size i (.slice (some ⟨b, 0, none⟩) i n)).run Tryz.prog w.drew = .ok (olds.take (i * 1)).toArray w.drew :=
  run_firstCells_some w.drew i0.size i ⟨b, 0, none⟩ i n (olds.take (i * 1)) (by rw [hz0, List.length_take]; omega) (fun j v hj => by
   rw [Addr.add_lit, Nat.zero_add]
   rw [List.getElem?_take] at hj
   split at hj
   ·exact hos j v hj
   ·cases hj)
 obtain ⟨G, hG⟩ : ∃ G, G = grownCap w (n + 1) n 9 := ⟨_, rfl⟩
 obtain ⟨R0, hR0⟩ : ∃ R : Array Value, R = (olds.take (i * 1)).toArray ++ Builtin.zeroCells (Value.string ⟨#[]⟩).cells (n + 1 - i) ++ Builtin.zeroCells (Value.string ⟨#[]⟩).cells (G - (n + 1)) := ⟨_, rfl⟩
 have hrz : ∀ ty, (Builtin.append_ #[32, 3] ty #[.slice (some ⟨b, 0, none⟩) i n, .int .i64 ((n : Int) + 1 - (i : Int))]).run Tryz.prog w =
   .ok (.slice (some ⟨w.heap.size, 0, none⟩) (n + 1) G) (w.drew.alloc (.cells R0 9 (0, 0))) := fun ty => by
  have h := Lib.run_append_grow_zeros w 32 3 ty 9 i0 _ .i64 .i64 hu Tryz.underlying3 hi0 hzv (some ⟨b, 0, none⟩) i n (olds.take (i * 1)) hold (n + 1 - i) (by omega) (by omega) (by omega) (by omega) (by rw [hb0]; omega) (by rw [hb0, hik]; exact growslice_fits (by omega) hbig)
  rw [hik] at h
  rw [hkk, hR0, hG]
  exact h
 rw [← hG] at hge hG63
 have hR0l : R0.size = G * 1 := by
  rw [hR0]
  simp only [Array.size_append, size_zeroCells, List.size_toArray, List.length_take, hol, Value.cells]
  show min (i * 1) (n * 1) + (n + 1 - i) * 1 + (G - (n + 1)) * 1 = _
  omega
 obtain ⟨R1, hR1⟩ : ∃ R : Array Value, R = (R0.toList.take (i * 1) ++ vs ++ R0.toList.drop (i * 1 + vs.length)).toArray := ⟨_, rfl⟩
 have hR1l : R1.size = G * 1 := by
  rw [hR1]
  simp [hR0l, hvl]
  omega
 obtain ⟨R2, hR2⟩ : ∃ R : Array Value, R = (R1.toList.take ((i + 1) * 1) ++ olds.drop (i * 1) ++ R1.toList.drop ((i + 1) * 1 + (olds.drop (i * 1)).length)).toArray := ⟨_, rfl⟩
 have hdl : (olds.drop (i * 1)).length = (n - i) * 1 := by rw [List.length_drop, hol, Nat.sub_mul]
 have gs : ∀ (W : World) (R R' : Array Value), W.heap[w.heap.size]? = some (.cells R 9 (0, 0)) → (W.setRow w.heap.size R').heap[w.heap.size]? = some (.cells R' 9 (0, 0)) := fun W R R' h => setRow_heap W _ R R' _ (0, 0) h
 have cO : ∀ (W : World), (∀ k, k ≠ w.heap.size → W.heap[k]? = w.heap[k]?) → ∀ k o, k < w.heap.size → W.cell? ⟨k, o, none⟩ = w.cell? ⟨k, o, none⟩ := fun W h k o hk => by unfold World.cell?; simp only; rw [h k (by omega)]
 have hcpA : ∀ (W : World) ty dc, W.heap = (w.heap.push (.cells R0 9 (0, 0))) → (Builtin.copy_ #[32, 32] ty #[.slice (some ⟨w.heap.size, i * 1, none⟩) (n + 1 - i) dc, .slice (some ⟨vb, voff, none⟩) 1 vc]).run Tryz.prog W = .ok (goInt 1) (W.setRow w.heap.size R1) := fun W ty dc hW => by
  have hm : Nat.min 1 (n + 1 - i) = 1 := by simp only [Nat.min_def]; split <;> omega
  have := q5h (P := Tryz.prog) W 32 32 ty 9 1 w.heap.size (i * 1) (n + 1 - i) dc ⟨vb, voff, none⟩ 1 vc R0 9 vs hu hsz (by rw [hW]; simp) (by rw [hm, hvl]) (fun j v hj => by
   rw [Addr.add_lit, cO W (fun k hk => by rw [hW, Array.getElem?_push]; simp [hk]) _ _ hvw]; exact hvs j v hj) (by rw [hR0l, hvl, ← Nat.succ_mul]; exact Nat.mul_le_mul_right _ (by omega)) h1v
  rw [this, hm, hR1]; rfl
 have hcpB : ∀ (W : World) ty dc sc, W.heap = ((w.drew.alloc (.cells R0 9 (0, 0))).setRow w.heap.size R1).heap → (Builtin.copy_ #[32, 32] ty #[.slice (some ⟨w.heap.size, (i + 1) * 1, none⟩) (n + 1 - (i + 1)) dc, .slice (some ⟨b, i * 1, none⟩) (n - i) sc]).run Tryz.prog W = .ok (goInt ((n - i : Nat) : Int)) (W.setRow w.heap.size R2) := fun W ty dc sc hW => by
  have hm : Nat.min (n - i) (n + 1 - (i + 1)) = n - i := by simp only [Nat.min_def]; split <;> omega
  have hh : ∀ k, k ≠ w.heap.size → W.heap[k]? = w.heap[k]? := fun k hk => by
   rw [hW, setRow_other _ _ _ _ hk]
   show (w.heap.push _)[k]? = _
   rw [Array.getElem?_push]; simp [hk]
  have hg1 : W.heap[w.heap.size]? = some (.cells R1 9 (0, 0)) := by
   rw [hW]; exact gs _ R0 _ (by show (w.heap.push _)[w.heap.size]? = _; simp)
  have := q5h (P := Tryz.prog) W 32 32 ty 9 1 w.heap.size ((i + 1) * 1) (n + 1 - (i + 1)) dc ⟨b, i * 1, none⟩ (n - i) sc R1 9 (olds.drop (i * 1)) hu hsz hg1 (by rw [hm, hdl]) (fun j v hj => by
   rw [Addr.add_lit, cO W hh _ _ hbw]; exact hos _ v (by rwa [List.getElem?_drop] at hj)) (by rw [hR1l, hdl, ← Nat.add_mul]; exact Nat.mul_le_mul_right _ (by omega)) (fun v hv => h1o v (List.mem_of_mem_drop hv))
  rw [this, hm, hR2]
 have hfin : R2 = (olds.take (i * 1) ++ vs ++ olds.drop (i * 1)).toArray ++ Builtin.zeroCells (Value.string ⟨#[]⟩).cells (G - (n + 1)) := by
  rw [hR2, hR1, hR0]
  apply Array.ext'
  simp only [Array.toList_append, List.toList_toArray]
  rw [hvl, hdl, show (i + 1) * 1 = i * 1 + 1 by omega]
  exact qlh _ vs _ _ _ (by rw [List.length_take, hol]; omega) hvl hdl (by rw [Array.length_toList, size_zeroCells]; show (n + 1 - i) * 1 = _; omega)
 have hw1 : IntKind.i64.wrap ((i : Int) + 1) = (i : Int) + 1 := by rw [IntKind.wrap_i64]; omega
 have hb1 : (0 : Int) ≤ (i : Int) + 1 := by omega
 have hin : i ≤ n := by omega
 have htn : ((i : Int) + 1).toNat = i + 1 := by omega
 have hb3 : (i : Int) ≤ (n : Int) := by omega
 have hGi : ¬ (G = i) := by omega
 have hGim : ¬ (G = i + 1) := by omega
 have hci : ¬ (n = i) := by omega
 simp only [Nat.mul_one] at hcpA hcpB
 have HR0 := Lib.hid hR0
 have HR1 := Lib.hid hR1
 have HR2 := Lib.hid hR2
 have HG := Lib.hid hG
 have HF := Lib.hid hfin
 have hmx : Tryz.prog.follows .mixedOrders = true := by kernel_rfl
 clear hkk hik hold hR0 hR1 hR2 hG hfin
 go_enter Tryz.func71, Tryz.ntmps71
 go_wp2_with (at_builtin; refine Lib.wpList_append_run _ rfl _ _ _ _ rfl _ _ rfl rfl _ _ (hrz _) ?_)
 rw [hcpA _ _ _ rfl]
 go_wp2_with fail
 go_region_law_o (refine step_copy_runI rfl _ _ 32 32 rfl (.slice (some ⟨w.heap.size, i + 1, none⟩) (n + 1 - (i + 1)) (G - (i + 1))) (.slice (some ⟨b, i, none⟩) (n - i) (n - i)) (by simp [Act.eval, Act.put]) (by simp [Act.eval, Act.put]) (hcpB _ _ _ _ rfl) ?_)
 go_wp2_with fail
 go_ret
 refine ⟨2, G, Builtin.zeroCells (Value.string ⟨#[]⟩).cells (G - (n + 1)), 9, hge, size_zeroCells _ _, rfl, ?_⟩
 rw [HF.out]
 exact qgj w R0 R1 _ _ _
set_option maxHeartbeats 4000000 in
set_option maxRecDepth 100000 in
/-- Before an element, with room. -/
theorem qpw (b n c i vb voff vc : Nat) (cur : Array Value) (T : TypeId) (vs : List Value) (w : World) (hi : i < n) (hroom : n + 1 ≤ c) (hc63 : n + 1 ≤ 9223372036854775807) (hfit : c * 1 ≤ cur.size) (hvb : vb ≠ b)
  (hg : w.heap[b]? = some (.cells cur T (0, 0))) (h1o : ∀ v ∈ cur.toList.take (n * 1), v.oneCell' = true)
  (hvl : vs.length = 1) (hvs : ∀ (j : Nat) v, vs[j]? = some v → w.cell? ⟨vb, voff + j, none⟩ = some v) (h1v : ∀ v ∈ vs, v.oneCell' = true) :
  Calls Tryz.prog 71 #[.slice (some ⟨b, 0, none⟩) n c, .int .i64 i, .slice (some ⟨vb, voff, none⟩) 1 vc] w fun e w' =>
   q9f n b c (cur.toList.take (i * 1) ++ vs ++ (cur.toList.take (n * 1)).drop (i * 1) ++ cur.toList.drop ((n + 1) * 1)) w e w' := by
 have u3 := run_underlying Tryz.underlying3
 have u4 := run_underlying Tryz.underlying4
 have u44 := run_underlying Tryz.underlying32
 obtain ⟨i0, hu, hi0, hz0, hb0⟩ := q2k (show elem? Tryz.prog 32 = some (9, 1, 16) by kernel_rfl)
 have hsz : (Tryz.prog.info? 9).map (·.size) = some 1 := by rw [hi0]; exact congrArg some hz0
 have hsO : ∀ w, (Go.sizeOf 9).run Tryz.prog w = .ok 1 w := fun w => by simp [Go.sizeOf, typeInfo, hi0, hz0]
 have hz2 : ¬ ((i : Int) = (n : Int)) := by omega
 have hz3 : ¬ ((c : Int) < (n : Int) + 1) := by omega
 have hv0 := hvs 0 _ (List.getElem?_eq_getElem (by omega))
 rw [Nat.add_zero] at hv0
 have hov : ∀ lb cb, (callFunc 117 #[.slice (some ⟨vb, voff, none⟩) 1 vc, .slice (some ⟨b, i + 1, none⟩) lb cb]).run Tryz.prog w = .ok (.value (.bool false)) w := fun lb cb => by
  rw [run_callFunc_extern Tryz.func117 (by kernel_rfl) (by kernel_rfl) (by kernel_rfl) (e := Extern.SlicesOverlaps.overlaps #[32, 32] #[4]) (by kernel_rfl),
   qll w 32 4 9 hu 1 hsO ⟨vb, voff, none⟩ ⟨b, i + 1, none⟩ 1 vc lb cb hvb hv0 hg (by omega)]
  rfl
 obtain ⟨D, hD⟩ : ∃ D : List Value, D = (cur.toList.take (n * 1)).drop (i * 1) := ⟨_, rfl⟩
 have hdl : D.length = (n - i) * 1 := by rw [hD, List.length_drop, List.length_take, Array.length_toList]; omega
 obtain ⟨R1, hR1⟩ : ∃ R : Array Value, R = (cur.toList.take ((i + 1) * 1) ++ D ++ cur.toList.drop ((i + 1) * 1 + D.length)).toArray := ⟨_, rfl⟩
 have hR1l : R1.size = cur.size := by
  rw [hR1]
  simp only [List.size_toArray, List.length_append, List.length_take, List.length_drop, Array.length_toList, hdl]
  omega
 obtain ⟨R2, hR2⟩ : ∃ R : Array Value, R = (R1.toList.take (i * 1) ++ vs ++ R1.toList.drop (i * 1 + vs.length)).toArray := ⟨_, rfl⟩
 have hcpA : ∀ (W : World) ty dc sc, W.heap = w.heap → (Builtin.copy_ #[32, 32] ty #[.slice (some ⟨b, (i + 1) * 1, none⟩) (n + 1 - (i + 1)) dc, .slice (some ⟨b, i * 1, none⟩) (n + 1 - i) sc]).run Tryz.prog W = .ok (goInt ((n - i : Nat) : Int)) (W.setRow b R1) := fun W ty dc sc hW => by
  have hm : Nat.min (n + 1 - i) (n + 1 - (i + 1)) = n - i := by simp only [Nat.min_def]; split <;> omega
  have := q5h (P := Tryz.prog) W 32 32 ty 9 1 b ((i + 1) * 1) (n + 1 - (i + 1)) dc ⟨b, i * 1, none⟩ (n + 1 - i) sc cur T D hu hsz (by rw [hW]; exact hg) (by rw [hm, hdl]) (fun j v hj => by
   have hlt := (List.getElem?_eq_some_iff.1 hj).1
   rw [hD, List.getElem?_drop, List.getElem?_take, if_pos (by omega)] at hj
   rw [Addr.add_lit]
   unfold World.cell?
   simp only [hW, hg, Option.isSome_none]
   simpa using hj) (by rw [hdl, ← Nat.add_mul]; exact Nat.le_trans (Nat.mul_le_mul_right _ (by omega)) hfit) (fun v hv => h1o v (by rw [hD] at hv; exact List.mem_of_mem_drop hv))
  rw [this, hm, hR1]
 have hcpB : ∀ (W : World) ty dc, W.heap = (w.setRow b R1).heap → (Builtin.copy_ #[32, 32] ty #[.slice (some ⟨b, i * 1, none⟩) (n + 1 - i) dc, .slice (some ⟨vb, voff, none⟩) 1 vc]).run Tryz.prog W = .ok (goInt 1) (W.setRow b R2) := fun W ty dc hW => by
  have hm : Nat.min 1 (n + 1 - i) = 1 := by simp only [Nat.min_def]; split <;> omega
  have := q5h (P := Tryz.prog) W 32 32 ty 9 1 b (i * 1) (n + 1 - i) dc ⟨vb, voff, none⟩ 1 vc R1 T vs hu hsz (by rw [hW]; exact setRow_heap w b cur R1 T (0, 0) hg) (by rw [hm, hvl]) (fun j v hj => by
   rw [Addr.add_lit]
   have := hvs j v hj
   unfold World.cell? at this ⊢
   simp only [hW, setRow_other w b vb R1 hvb]
   exact this) (by rw [hR1l, hvl, ← Nat.succ_mul]; exact Nat.le_trans (Nat.mul_le_mul_right _ (by omega)) hfit) h1v
  rw [this, hm, hR2]; rfl
 have hfin : R2 = (cur.toList.take (i * 1) ++ vs ++ D ++ cur.toList.drop ((n + 1) * 1)).toArray := by
  rw [hR2, hR1]
  simp only [List.toList_toArray]
  rw [hvl, hdl, show (i + 1) * 1 = i * 1 + 1 by omega, show i * 1 + 1 + (n - i) * 1 = (n + 1) * 1 by omega]
  congr 1
  exact qli cur.toList D vs (cur.toList.drop ((n + 1) * 1)) (p := i * 1) (k := 1) (by rw [Array.length_toList]; omega)
 have hw1 : IntKind.i64.wrap ((i : Int) + 1) = (i : Int) + 1 := by rw [IntKind.wrap_i64]; omega
 have hw2 : IntKind.i64.wrap ((n : Int) + 1) = (n : Int) + 1 := by rw [IntKind.wrap_i64]; omega
 have hb1 : (0 : Int) ≤ (i : Int) + 1 := by omega
 have hin : i ≤ n := by omega
 have htn : ((i : Int) + 1).toNat = i + 1 := by omega
 have hb2 : ¬ (c = i + 1) := by omega
 have hb3 : (i : Int) ≤ (n : Int) + 1 := by omega
 have hb4 : ¬ (c = i) := by omega
 have hmx : Tryz.prog.follows .mixedOrders = true := by kernel_rfl
 simp only [Nat.mul_one] at hcpA hcpB
 have HR1 := Lib.hid hR1
 have HR2 := Lib.hid hR2
 have HF := Lib.hid hfin
 have HD := Lib.hid hD
 clear hR1 hR2 hfin hD
 go_enter Tryz.func71, Tryz.ntmps71
 go_wp2_with (simp only [hov])
 go_region_law_o (refine step_copy_runI rfl _ _ 32 32 rfl (.slice (some ⟨b, i + 1, none⟩) (n + 1 - (i + 1)) (c - (i + 1))) (.slice (some ⟨b, i, none⟩) (n + 1 - i) (c - i)) (by simp [Act.eval, Act.put]) (by simp [Act.eval, Act.put]) (hcpA _ _ _ _ rfl) ?_)
 go_wp2_with fail
 rw [hcpB (w.drew.setRow b R1) _ _ rfl]
 go_wp2_with fail
 go_ret
 refine ⟨1, rfl, ?_⟩
 rw [← HD.out, ← HF.out]
 exact setRow_setRow _ _ _ _
section
variable {E : World → Prop} {E0 : Nat} {G : Nat → Option (List PV)}
structure InsRoads (P : Program) (f : FuncId) (k y : Nat) : Prop where
 end_room : ∀ (b n c vb voff vc : Nat) (cur : Array Value) (T : TypeId) (vs : List Value) (w : World), w.heap[b]? = some (.cells cur T (0, 0)) → n + 1 ≤ c → n + 1 ≤ 9223372036854775807 → c * k ≤ cur.size → vs.length = k → (∀ (j : Nat) v, vs[j]? = some v → w.cell? ⟨vb, voff + j, none⟩ = some v) → (∀ v ∈ vs, v.oneCell' = true) →
  Calls P f #[.slice (some ⟨b, 0, none⟩) n c, .int .i64 n, .slice (some ⟨vb, voff, none⟩) 1 vc] w fun e w' => e = .returned (.slice (some ⟨b, 0, none⟩) (n + 1) c) ∧ w' = w.setRow b (cur.toList.take (n * k) ++ vs ++ cur.toList.drop (n * k + k)).toArray
 end_grow : ∀ (base : Option Addr) (n c vb voff vc : Nat) (olds vs : List Value) (w : World), (base = none → n = 0 ∧ c = 0) → c < n + 1 → n ≤ c → (n + 1) * y ≤ 140737488355328 → olds.length = n * k → (∀ a, base = some a → ∀ (j : Nat) v, olds[j]? = some v → w.cell? (a.add j) = some v) → vs.length = k → (∀ (j : Nat) v, vs[j]? = some v → w.cell? ⟨vb, voff + j, none⟩ = some v) → (∀ v ∈ vs, v.oneCell' = true) →
  Calls P f #[.slice base n c, .int .i64 n, .slice (some ⟨vb, voff, none⟩) 1 vc] w fun e w' => q5l k n (olds ++ vs) w e w'
 grow : ∀ (b n i vb voff vc : Nat) (olds vs : List Value) (w : World), i < n → (n + 1) * y ≤ 140737488355328 → olds.length = n * k → (∀ (j : Nat) v, olds[j]? = some v → w.cell? ⟨b, j, none⟩ = some v) → (∀ v ∈ olds, v.oneCell' = true) → vs.length = k → (∀ (j : Nat) v, vs[j]? = some v → w.cell? ⟨vb, voff + j, none⟩ = some v) → (∀ v ∈ vs, v.oneCell' = true) →
  Calls P f #[.slice (some ⟨b, 0, none⟩) n n, .int .i64 i, .slice (some ⟨vb, voff, none⟩) 1 vc] w fun e w' => q5l k n (olds.take (i * k) ++ vs ++ olds.drop (i * k)) w e w'
 shift : ∀ (b n c i vb voff vc : Nat) (cur : Array Value) (T : TypeId) (vs : List Value) (w : World), i < n → n + 1 ≤ c → n + 1 ≤ 9223372036854775807 → c * k ≤ cur.size → vb ≠ b → w.heap[b]? = some (.cells cur T (0, 0)) → (∀ v ∈ cur.toList.take (n * k), v.oneCell' = true) → vs.length = k → (∀ (j : Nat) v, vs[j]? = some v → w.cell? ⟨vb, voff + j, none⟩ = some v) → (∀ v ∈ vs, v.oneCell' = true) →
  Calls P f #[.slice (some ⟨b, 0, none⟩) n c, .int .i64 i, .slice (some ⟨vb, voff, none⟩) 1 vc] w fun e w' => q9f n b c (cur.toList.take (i * k) ++ vs ++ (cur.toList.take (n * k)).drop (i * k) ++ cur.toList.drop ((n + 1) * k)) w e w'
theorem Still.drewN (w : World) (q : Nat) : Still w (w.drewN q) := ⟨rfl, rfl, rfl, rfl⟩
theorem qgf {α β : Type} {R : α → β → Prop} : ∀ (n : Nat) {l : List α} {m : List β}, All2 R l m → All2 R (l.take n) (m.take n)
 | 0, _, _, _ => by simp [All2]
 | n + 1, [], [], _ => by simp [All2]
 | n + 1, _ :: _, _ :: _, h => ⟨h.1, qgf n h.2⟩
 | n + 1, [], _ :: _, h => h.elim
 | n + 1, _ :: _, [], h => h.elim
theorem qgc {α β : Type} {R : α → β → Prop} : ∀ (n : Nat) {l : List α} {m : List β}, All2 R l m → All2 R (l.drop n) (m.drop n)
 | 0, _, _, h => by simpa using h
 | n + 1, [], [], _ => by simp [All2]
 | n + 1, _ :: _, _ :: _, h => by simpa using qgc n h.2
 | n + 1, [], _ :: _, h => h.elim
 | n + 1, _ :: _, [], h => h.elim
def insL {α : Type} (xs : List α) (i : Nat) (x : α) : List α := xs.take i ++ [x] ++ xs.drop i
theorem q47 {α : Type} (xs : List α) (i : Nat) (x : α) : (insL xs i x).length = xs.length + 1 := by
 unfold insL; simp; omega
theorem insL_f {α : Type} (F : Fl α) (xs : List α) (i : Nat) (x : α) : F.f (insL xs i x) = (F.f xs).take (i * F.sz) ++ F.c x ++ (F.f xs).drop (i * F.sz) := by
 unfold insL
 rw [F.append, F.append, F.one, F.take, F.drop]
section
variable {α : Type} (F : Fl α) {P : Program} {f : FuncId} {y : Nat}
theorem qkd {X : Cx} {id : Nat} {ob : AObj} {cs : List PV} {sz n c : Nat} {l : Nat × Nat} (hidl : id < X.σ.length) (hp : ¬ X.pend id) (hob : ob = .arr cs sz 0) (hl : X.loc id = some l) (hn : n * sz ≤ cs.length) (hc : n ≤ c) (hs : X.σ[id]? = some (some ob)) (hcap : c * sz ≤ l.2) :
  q4e X id cs.length 0 n (.slice (some ⟨l.1, 0, none⟩) n c) := by
 subst hob
 refine ⟨rfl, hp, hidl, fun ob e => ?_⟩
 rw [hs] at e
 obtain rfl := Option.some.inj (Option.some.inj e)
 exact ⟨Nat.le_refl _, fun _ => ⟨l, hl, by omega, _, c, rfl, hc, rfl, fun _ => ⟨rfl, rfl, by omega⟩⟩⟩
theorem ins_ok (R : InsRoads P f F.sz y) (hb : Base E E0 G) {σ : Sto} {id : Nat} {nb full : Bool} {xs : List α} (x : α) (i : Nat) (hix : i ≤ xs.length) (hbig : (xs.length + 1) * y ≤ 140737488355328) (hsmall : xs.length + 1 ≤ 9223372036854775807) (ho : σ[id]? = some (some (arO nb F.sz 0 (F.f xs)))) :
  Ok E E0 P f [.cell (vO F id xs), .cell (vi (i : Int)), .cell (.pv (.sl full 1 (F.c x)))] σ (c1 (vO F id (insL xs i x))) (σ.set id (some (arO nb F.sz 0 (F.f (insL xs i x))))) := by
 intro X w args hσ hn hi hv
 subst hσ
 match args, hv with
 | [u, ui, uv], ⟨hu, hui, huv, _⟩ =>
 have hp := hn id
 have hE := hb.step
 -- the index, the element
 obtain ⟨rfl, _⟩ : ui = .int .i64 (i : Int) ∧ _ := hui
 have huv' : PRep X.prot w (.sl full 1 (F.c x)) uv := huv
 unfold PRep at huv'
 obtain ⟨vb, voff, vc, rfl, hvc, _, hcs⟩ : ∃ b off cap, uv = .slice (some ⟨b, off, none⟩) 1 cap ∧ 1 ≤ cap ∧ (full = true → cap = 1) ∧ qm X.prot w b off (F.c x) := by
  rcases huv' with ⟨_, h, _⟩ | h | ⟨h, _⟩
  ·cases h
  ·exact h
  ·cases h
 obtain ⟨us, v1, v2⟩ := qbd hcs
 have hvl : us.length = F.sz := by rw [← v1.length, F.len]
 have h1v := q9p v1
 have hpos := F.pos
 have hfl : (F.f xs).length = xs.length * F.sz := F.length xs
 have hflI : (F.f (insL xs i x)).length = (xs.length + 1) * F.sz := by rw [F.length, q47]
 have hne : F.f (insL xs i x) ≠ [] := F.ne fun h => by
  have := congrArg List.length h
  rw [q47] at this
  simp at this
 have hob' : arO nb F.sz 0 (F.f (insL xs i x)) = .arr (F.f (insL xs i x)) F.sz 0 := (q2b nb F.sz 0 _).resolve_right fun h => hne h.1
 have hidl : id < X.σ.length := hu.2.2.1
 have hset : ∀ ob : AObj, (X.σ.set id (some ob))[id]? = some (some ob) := fun ob => by rw [List.getElem?_set_self hidl]
 rw [hob']
 -- a new row
 have moved : ∀ {ob : AObj} {row : List Value} {e : Ending} {w' : World}, X.σ[id]? = some (some ob) → ob.ver < (AObj.arr (F.f (insL xs i x)) F.sz 0).ver → All2 (PRep X.prot w) (F.f (insL xs i x)) row → q5l F.sz xs.length row w e w' →
   ∃ X' v, e = .returned v ∧ X'.σ = X.σ.set id (some (.arr (F.f (insL xs i x)) F.sz 0)) ∧ (∀ id, ¬ X'.pend id) ∧ Inv E E0 X' w' ∧ Ext X w X' w' ∧ TRep X' w' (c1 (vO F id (insL xs i x))) v := by
  rintro ob row e w' hob hver hrow ⟨q, cap, tl, T, hcap, htl, rfl, rfl⟩
  obtain ⟨si, se⟩ := q4x hi hE (Still.drewN w q)
  have hrl : row.length = (xs.length + 1) * F.sz := by rw [← hrow.length, hflI]
  have hob2 : q25 X (w.drewN q) (.arr (F.f (insL xs i x)) F.sz 0) (row.toArray ++ tl) := by
   refine qba (hrow.imp fun _ _ => PRep.mono se.prot) (fun j u e => ?_)
   have hlt : j < row.length := (List.getElem?_eq_some_iff.1 e).1
   rw [Array.getElem?_append_left (by simpa using hlt)]
   simpa using e
  have mi := qeh si hE hob hver rfl hp _ T hob2
  have me := qb8 si hob hver (row.toArray ++ tl) T
  refine ⟨X.move id (.arr (F.f (insL xs i x)) F.sz 0) ((w.drewN q).heap.size, (row.toArray ++ tl).size), _, rfl, rfl, hn, mi, se.trans me, ?_⟩
  have hsz : (row.toArray ++ tl).size = cap * F.sz := by
   rw [Array.size_append, List.size_toArray, hrl, htl, ← Nat.add_mul]; congr 1; omega
  have := qkd (X := X.move id (.arr (F.f (insL xs i x)) F.sz 0) ((w.drewN q).heap.size, (row.toArray ++ tl).size)) (id := id) (n := (insL xs i x).length) (c := cap) (l := ((w.drewN q).heap.size, (row.toArray ++ tl).size)) (by simpa [Cx.move] using hidl) hp rfl (by simp [Cx.move]) (by rw [hflI, q47]; exact Nat.le_refl _) (by rw [q47]; exact hcap) (hset _) (by simp only [hsz]; exact Nat.le_refl _)
  rw [q47] at this
  unfold vO
  rw [q47]
  exact this
 rcases q2b nb F.sz 0 (F.f xs) with e0 | ⟨e1, e0⟩
 ·rw [e0] at ho
  have hlv : live X.σ id (F.f xs).length = some (.arr (F.f xs) F.sz 0) := by unfold live; rw [ho]; simp [AObj.ver]
  obtain ⟨_, hob, l, hloc, hbd, a0, cap, hv, hm, hsp, hcap⟩ := q67 (X := X) hu hlv
  subst hv
  have hver : (AObj.arr (F.f xs) F.sz 0).ver < (AObj.arr (F.f (insL xs i x)) F.sz 0).ver := by
   simp only [AObj.ver]; rw [hfl, hflI, Nat.succ_mul]; omega
  obtain ⟨l', hl', hB, cur, T, hg, hz2, hr0⟩ := hi.ob id _ hob hp rfl
  rw [hloc] at hl'
  obtain rfl : l = l' := by simpa using hl'
  have hvb : vb ≠ l.1 := fun e => by
   subst e
   obtain ⟨u0, _, hpr, _⟩ := qm.get hcs 0 _ (List.getElem?_eq_getElem (by rw [F.len]; exact hpos))
   rcases hpr with ⟨h, _⟩ | ⟨_, _, h⟩
   ·omega
   ·have := h id _ l hob hp hloc rfl
    simp [AObj.fr] at this
  obtain ⟨a1, cap1, olds, g1, _, g2, g3⟩ := qer hi (X := X) hu hlv
  obtain ⟨rfl, rfl⟩ : a0 = a1 ∧ cap = cap1 := by simpa using g1
  have hdt : ((F.f xs).drop 0).take (xs.length * F.sz) = F.f xs := by rw [List.drop_zero, ← hfl, List.take_length]
  rw [hdt] at g2
  have hol : olds.length = xs.length * F.sz := by rw [← g2.length]; exact hfl
  have hrow : ∀ {row : List Value}, row = olds.take (i * F.sz) ++ us ++ olds.drop (i * F.sz) → All2 (PRep X.prot w) (F.f (insL xs i x)) row := fun e => by
   rw [e, insL_f]
   exact ((qgf _ g2).append v1).append (qgc _ g2)
  by_cases hroom : xs.length + 1 ≤ cap
  ·-- in its place
   obtain ⟨b1, b2, b3⟩ := hcap (by omega)
   have ha0 : a0 = ⟨l.1, 0, none⟩ := by cases a0; simp_all
   subst ha0
   have hfit : cap * F.sz ≤ cur.size := by rw [hz2]; omega
   have hnz : (xs.length + 1) * F.sz ≤ cur.size := Nat.le_trans (Nat.mul_le_mul_right _ hroom) hfit
   have hns : (xs.length + 1) * F.sz = xs.length * F.sz + F.sz := Nat.succ_mul _ _
   have hii : i * F.sz ≤ xs.length * F.sz := Nat.mul_le_mul_right _ hix
   have hcur : cur.toList.take (xs.length * F.sz) = olds := by
    refine List.ext_getElem? fun j => ?_
    rcases Nat.lt_or_ge j (xs.length * F.sz) with hj | hj
    ·have hjo : j < olds.length := by omega
     have := g3 j _ (List.getElem?_eq_getElem hjo)
     rw [Addr.add_lit, Nat.zero_add] at this
     unfold World.cell? at this
     simp only [hg, Option.isSome_none] at this
     rw [List.getElem?_take, if_pos hj, List.getElem?_eq_getElem hjo]
     simpa using this
    ·rw [List.getElem?_eq_none (by rw [List.length_take]; omega), List.getElem?_eq_none (by omega)]
   have place : ∀ {e : Ending} {w' : World}, q9f xs.length l.1 cap (olds.take (i * F.sz) ++ us ++ olds.drop (i * F.sz) ++ cur.toList.drop ((xs.length + 1) * F.sz)) w e w' →
     ∃ X' v, e = .returned v ∧ X'.σ = X.σ.set id (some (.arr (F.f (insL xs i x)) F.sz 0)) ∧ (∀ id, ¬ X'.pend id) ∧ Inv E E0 X' w' ∧ Ext X w X' w' ∧ TRep X' w' (c1 (vO F id (insL xs i x))) v := by
    rintro e w' ⟨q, rfl, rfl⟩
    obtain ⟨si, se⟩ := q4x hi hE (Still.drewN w q)
    have hg' : (w.drewN q).heap[l.1]? = some (.cells cur T (0, 0)) := hg
    have hr1 := hrow rfl
    have hrl : (olds.take (i * F.sz) ++ us ++ olds.drop (i * F.sz)).length = (xs.length + 1) * F.sz := by rw [← hr1.length, hflI]
    have hsize : (olds.take (i * F.sz) ++ us ++ olds.drop (i * F.sz) ++ cur.toList.drop ((xs.length + 1) * F.sz)).toArray.size = l.2 := by
     rw [List.size_toArray, List.length_append, hrl, List.length_drop, Array.length_toList (xs := cur)]; omega
    have hext : Ext X (w.drewN q) { X with σ := X.σ.set id (some (.arr (F.f (insL xs i x)) F.sz 0)) } ((w.drewN q).setRow l.1 (olds.take (i * F.sz) ++ us ++ olds.drop (i * F.sz) ++ cur.toList.drop ((xs.length + 1) * F.sz)).toArray) :=
     q6h si hob hp hloc (by omega) rfl (fun k => by omega) (Nat.le_refl _) (q7j _ l.1 _ hB) (fun b o hbo => qf7 _ l.1 cur _ T hg' b o (hbo.imp (fun h => h) fun h => absurd h (Nat.not_lt_zero _)))
    have hinv := q6i (ob' := .arr (F.f (insL xs i x)) F.sz 0) si hob hp hloc rfl hext (hE _ _ si.env (q7j _ l.1 _ (Nat.le_trans hi.e0 hB))) (by simp) (fun b hb => setRow_other _ l.1 b _ hb) _ T (setRow_heap _ l.1 cur _ T (0, 0) hg') hsize (fun j c' hj => by
     simp only [AObj.cells, List.getElem?_map, Option.map_eq_some_iff] at hj
     obtain ⟨p, hj, rfl⟩ := hj
     obtain ⟨u, g1, g2⟩ := hr1.get _ p hj
     have hjl := (List.getElem?_eq_some_iff.1 g1).1
     refine ⟨u, ?_, PRep.mono (se.trans hext).prot g2⟩
     rw [List.getElem?_toArray, List.getElem?_append_left hjl]
     exact g1)
    refine ⟨{ X with σ := X.σ.set id (some (.arr (F.f (insL xs i x)) F.sz 0)) }, _, rfl, rfl, hn, hinv, se.trans hext, ?_⟩
    have := qkd (X := { X with σ := X.σ.set id (some (.arr (F.f (insL xs i x)) F.sz 0)) }) (id := id) (n := (insL xs i x).length) (c := cap) (l := l) (by simpa using hidl) hp rfl hloc (by rw [hflI, q47]; exact Nat.le_refl _) (by rw [q47]; exact hroom) (hset _) (by omega)
    rw [q47] at this
    unfold vO
    rw [q47]
    exact this
   have hn63 : xs.length + 1 ≤ 9223372036854775807 := hsmall
   by_cases hin : i = xs.length
   ·subst hin
    refine (R.end_room l.1 xs.length cap vb voff vc cur T us w hg hroom hn63 hfit hvl v2 h1v).mono ?_
    rintro e w' ⟨rfl, rfl⟩
    refine place ⟨0, rfl, ?_⟩
    rw [hcur, ← hol, List.take_length, List.drop_length, List.append_nil, hol, hns]; rfl
   ·refine (R.shift l.1 xs.length cap i vb voff vc cur T us w (by omega) hroom hn63 hfit hvb hg (by rw [hcur]; exact q9p g2) hvl v2 h1v).mono ?_
    intro e w' h
    refine place ?_
    rw [hcur] at h
    rw [show olds.take (i * F.sz) = cur.toList.take (i * F.sz) by rw [← hcur, List.take_take, Nat.min_eq_left hii]]
    exact h
  ·obtain rfl : cap = xs.length := by omega
   by_cases hin : i = xs.length
   ·subst hin
    refine (R.end_grow (some a0) xs.length xs.length vb voff vc olds us w (fun h => by cases h) (by omega) (Nat.le_refl _) hbig hol (fun a h => by cases h; exact g3) hvl v2 h1v).mono ?_
    intro e w' h
    refine moved hob hver (hrow ?_) h
    rw [← hol, List.take_length, List.drop_length, List.append_nil]
   ·obtain ⟨b1, b2, b3⟩ := hcap (by omega)
    have ha0 : a0 = ⟨l.1, 0, none⟩ := by cases a0; simp_all
    subst ha0
    refine (R.grow l.1 xs.length i vb voff vc olds us w (by omega) hbig hol (fun j v h => by have := g3 j v h; rwa [Addr.add_lit, Nat.zero_add] at this) (q9p g2) hvl v2 h1v).mono ?_
    intro e w' h
    exact moved hob hver (hrow rfl) h
 ·rw [e0] at ho
  have hxs : xs = [] := Classical.byContradiction fun h => F.ne h e1
  subst hxs
  have hlv : live X.σ id (F.f []).length = some (.nilarr F.sz) := by unfold live; rw [ho]; simp [AObj.ver, F.nil]
  obtain ⟨_, hob, hv, _⟩ := q8m (X := X) hu hlv
  subst hv
  obtain rfl : i = 0 := by simpa using hix
  refine (R.end_grow none 0 0 vb voff vc [] us w (fun _ => ⟨rfl, rfl⟩) (by omega) (Nat.le_refl _) hbig (by simp) (fun a h => by cases h) hvl v2 h1v).mono ?_
  intro e w' h
  have hver : (AObj.nilarr F.sz).ver < (AObj.arr (F.f (insL [] 0 x)) F.sz 0).ver := by simp only [AObj.ver]; rw [hflI]; simpa using hpos
  refine moved hob hver ?_ h
  have : F.f (insL [] 0 x) = F.c x := F.one x
  rw [this]; simpa using v1
end
end
end Abs
end Go.Proofs.YtkffpfapfljinaaGreatDoor
