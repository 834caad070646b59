/-
  slices.SortFunc at an array of one's own, elements of one cell.
  slices.Insert on an array of one's own: copies of elements of several cells, slices that cannot overlap.
  A drawn region whose text is read in another order.
  A call that sees the caller's variables, at a store that is told.
-/
import Derived.Test.YtkffpfapfljinaaGreatDoorAbsN
import Derived.Shelf.SlSortCmp.NoneTotal
import Derived.Lib.Overlaps
import Derived.Lib.AppendZerosOnto
import Derived.Laws.CopyRow
namespace Go.Proofs.YtkffpfapfljinaaGreatDoor
set_option linter.unusedSimpArgs false
set_option linter.unusedVariables false
namespace Abs
open Go.RowKit Go.Shelf Go.Lib Go.Sort
def OkQ (E : World → Prop) (E0 : Nat) (P : Program) (f : FuncId) (args : List AV) (σ : Sto) (v : Value) : Prop :=
 ∀ (X : Cx) (w : World) (vs : List Value), X.σ = σ → (∀ id, ¬ X.pend id) → Inv E E0 X w → All2 (ql X w) args vs →
  Calls P f vs.toArray w fun e w' => e = .returned v ∧ ∃ q os, w' = Sort.grow (w.drewN q) os
def q5i {α : Type} [Inhabited α] (cf : α → α → Int) (ds : List α) : List α := (pdq (ltOf cf) ds.toArray 0 ds.length (Lib.bitLen ds.length) true true).toList
section
variable {α : Type} [Inhabited α] {cf : α → α → Int}
theorem q7l (hO : SWO (ltOf cf)) (ds : List α) : (q5i cf ds).Perm ds ∧ (q5i cf ds).Pairwise fun x y => ltOf cf y x = false := by
 have h := pdq_sorts (ltOf cf) hO ds.toArray 0 ds.toArray.size (Lib.bitLen ds.toArray.size) true true (Nat.zero_le _) (Nat.le_refl _) (Or.inl rfl)
 have hz : ds.toArray.size = ds.length := by simp
 rw [hz] at h
 unfold q5i
 generalize pdq (ltOf cf) ds.toArray 0 ds.length (Lib.bitLen ds.length) true true = D at h ⊢
 obtain ⟨⟨h1, _, h2⟩, h3⟩ := h
 have hD : D.size = ds.length := h1.trans hz
 have e1 : D.extract 0 ds.length = D := by rw [← hD]; exact Array.extract_size
 have e2 : ds.toArray.extract 0 ds.length = ds.toArray := by rw [← hz]; exact Array.extract_size
 rw [e1, e2] at h2
 refine ⟨h2, ?_⟩
 rw [List.pairwise_iff_getElem]
 intro i j hi hj hij
 have hi' : i < D.size := by simpa using hi
 have hj' : j < D.size := by simpa using hj
 have := h3 i j (Nat.zero_le _) hij (by omega)
 rw [getElem!_pos _ j hj', getElem!_pos _ i hi'] at this
 simpa using this
end
def rowC {α : Type} (enc : α → Value) (d : List α) : List PV := d.map fun x => .sc (enc x)
theorem qbj {α : Type} (enc : α → Value) (d : List α) : (rowC enc d).length = d.length := by simp [rowC]
section
variable {α : Type} [Inhabited α] {E : World → Prop} {E0 : Nat} {P : Program} {X : Cx} {w : World} {enc : α → Value} {ds : List α} {id : Nat} {l : Nat × Nat}
theorem qsf (hi : Inv E E0 X w) (ho : X.σ[id]? = some (some (.arr (rowC enc ds) 1 0))) (hp : ¬ X.pend id) (hl : X.loc id = some l) : Holds enc w l.1 0 ds.toArray := by
 obtain ⟨l0, hl0, hB, cs, Ty, hg, hz, hr⟩ := hi.ob id _ ho hp rfl
 rw [hl] at hl0
 obtain rfl : l = l0 := by simpa using hl0
 intro j hj
 have hj' : j < ds.length := by simpa using hj
 obtain ⟨u, hu, hcr⟩ := hr j (.pv (.sc (enc ds[j]))) (by simp [AObj.cells, rowC, hj'])
 obtain rfl : u = enc ds[j] := hcr.1
 refine ⟨?_, ?_⟩
 ·unfold World.cell?
  simp only
  rw [hg]
  simp only [Nat.zero_add]
  rw [hu, getElem!_pos _ j hj]; rfl
 ·unfold World.frozen?
  simp only
  rw [hg]
  simp
theorem qt7 (w : World) (b : Nat) (d : Array α) {cs : Array Value} {Ty : TypeId} {f : Nat × Nat} (hg : w.heap[b]? = some (.cells cs Ty f)) : (putRow enc w b 0 d).heap[b]? = some (.cells (putCells enc 0 d cs) Ty f) := by
 unfold putRow mapBlock
 simp only [Array.getElem?_modify, if_true, hg, Option.map_some, onCells]
theorem qt8 (w : World) (b : Nat) (d : Array α) {k : Nat} (h : k ≠ b) : (putRow enc w b 0 d).heap[k]? = w.heap[k]? := by
 unfold putRow mapBlock
 simp only [Array.getElem?_modify, if_neg (Ne.symm h)]
def qbn (X : Cx) (id : Nat) (enc : α → Value) (d : List α) (n : Nat) : Cx := { X with σ := X.σ.set id (some (.arr (rowC enc d) 1 0)), hs := n }
theorem qlo (hi : Inv E E0 X w) (hE : ∀ w w', E w → Below E0 w w' → E w') (h1 : OneCell enc) (ho : X.σ[id]? = some (some (.arr (rowC enc ds) 1 0))) (hp : ¬ X.pend id) (hl : X.loc id = some l) (n : Nat) (os : Array Obj) (d : Array α) (hs : d.size = ds.length) :
  Inv E E0 (qbn X id enc d.toList (sortWorld enc w l.1 0 n d os).heap.size) (sortWorld enc w l.1 0 n d os) ∧ Ext X w (qbn X id enc d.toList (sortWorld enc w l.1 0 n d os).heap.size) (sortWorld enc w l.1 0 n d os) := by
 obtain ⟨l0, hl0, hB, cs, Ty, hg, hz, hr⟩ := hi.ob id _ ho hp rfl
 rw [hl] at hl0
 obtain rfl : l = l0 := by simpa using hl0
 have g1 : (putRow enc (Sort.ahead w n) l.1 0 d).heap[l.1]? = some (.cells (putCells enc 0 d cs) Ty (0, 0)) := qt7 _ _ _ hg
 have g2 : ∀ k, k ≠ l.1 → (putRow enc (Sort.ahead w n) l.1 0 d).heap[k]? = w.heap[k]? := fun k h => qt8 _ _ _ h
 have hz1 : (putRow enc (Sort.ahead w n) l.1 0 d).heap.size = w.heap.size := by rw [size_putRow]; rfl
 have hBel : ∀ B, B ≤ l.1 → Below B w (putRow enc (Sort.ahead w n) l.1 0 d) := fun B h => ⟨rfl, rfl, rfl, Nat.le_of_eq hz1.symm, fun k hk => g2 k (by omega)⟩
 have hlen : d.toList.length = ds.length := by simpa using hs
 have hx := q6h (w' := putRow enc (Sort.ahead w n) l.1 0 d) hi ho hp hl (ob' := .arr (rowC enc d.toList) 1 0) (by simp [AObj.ver, qbj, hs]) rfl (fun _ => by simp [AObj.cells, qbj, hs]) (Nat.le_refl _) (hBel _ hB) (fun b o hbo => by
  unfold World.cell?
  simp only
  rw [g2 b (hbo.resolve_right (Nat.not_lt_zero _))])
 have hi1 := q6i hi ho hp hl (ob' := .arr (rowC enc d.toList) 1 0) rfl hx (hE _ _ hi.env (hBel _ (Nat.le_trans hi.e0 hB))) hz1 g2 (putCells enc 0 d cs) Ty g1 (by simp [putCells, hz]) (fun i c hc => by
  simp only [AObj.cells, rowC, List.map_map, List.getElem?_map, Option.map_eq_some_iff, Function.comp] at hc
  obtain ⟨x, hx1, rfl⟩ := hc
  have hid : i < d.toList.length := (List.getElem?_eq_some_iff.1 hx1).1
  have hids : i < ds.length := by omega
  obtain ⟨u, hu, _⟩ := hr i (.pv (.sc (enc ds[i]))) (by simp [AObj.cells, rowC, hids])
  refine ⟨enc x, ?_, rfl, h1 x⟩
  unfold putCells
  rw [Array.getElem?_mapIdx, hu, Option.map_some, if_pos ⟨Nat.zero_le _, by simp at hid; omega⟩, Nat.sub_zero]
  congr 2
  have hid' : i < d.size := by simpa using hid
  rw [getElem!_pos _ i hid']
  simpa [hid'] using hx1)
 have hgr : Below (putRow enc (Sort.ahead w n) l.1 0 d).heap.size (putRow enc (Sort.ahead w n) l.1 0 d) (sortWorld enc w l.1 0 n d os) := by
  unfold sortWorld
  exact ⟨rfl, rfl, rfl, by rw [size_grow]; omega, fun k hk => heap_grow_old _ _ hk⟩
 have hE2 : E (sortWorld enc w l.1 0 n d os) := hE _ _ hi1.env (hgr.mono (by rw [hz1]; exact Nat.le_trans hi.e0 hi.b0))
 exact ⟨q3n hi1 hgr hE2, hx.trans (q2m hi1 hgr)⟩
omit [Inhabited α] in
theorem qsg (ho : X.σ[id]? = some (some (.arr (rowC enc ds) 1 0))) {u : Value} (h : CRep X w (.own id ds.length 0 ds.length) u) (hne : ds ≠ []) : ∃ l cap, X.loc id = some l ∧ u = .slice (some ⟨l.1, 0, none⟩) ds.length cap := by
 obtain ⟨k0, k1, k2, k3⟩ := h
 obtain ⟨k4, k5⟩ := k3 _ ho
 obtain ⟨l, hl, hle, a, cap, hu, hcap, hsp, hat⟩ := k5 (by simp [AObj.ver, qbj])
 have hpos : 0 < ds.length := List.length_pos_iff.2 hne
 obtain ⟨a1, a2, a3⟩ := hat (by omega)
 obtain ⟨b, o, s⟩ := a
 simp only at a1 a2 hsp
 subst a1; subst a2; subst hsp
 exact ⟨l, cap, hl, hu⟩
omit [Inhabited α] in
theorem qsh (ho : X.σ[id]? = some (some (.arr (rowC enc ([] : List α)) 1 0))) {u : Value} (h : CRep X w (.own id 0 0 0) u) : ∃ p cap, u = .slice p 0 cap := by
 obtain ⟨k0, k1, k2, k3⟩ := h
 obtain ⟨k4, k5⟩ := k3 _ ho
 obtain ⟨l, hl, hle, a, cap, hu, hcap, hsp, hat⟩ := k5 (by simp [AObj.ver, qbj])
 exact ⟨_, cap, hu⟩
end
def cmpC (g : FuncId) (caps : List (Nat × Nat × Nat)) : AC := match caps with | [] => .pv (.sc (.func (.func g) #[] #[])) | caps => .fn g caps
section
variable {α : Type} [Inhabited α] {E : World → Prop} {E0 : Nat} {P : Program} {ρ : Ren} {G : Nat → Option (List PV)}
theorem qhh {X : Cx} {w : World} {g : FuncId} {caps : List (Nat × Nat × Nat)} {u : Value} (h : CRep X w (cmpC g caps) u) : ∃ us, u = .func (.func g) #[] us ∧ All2 (ql X w) (q4g caps) us.toList := by
 cases caps with
 | nil =>
  obtain ⟨rfl, _⟩ : u = .func (.func g) #[] #[] ∧ _ := h
  exact ⟨#[], rfl, trivial⟩
 | cons c r =>
  obtain ⟨us, hu, ha⟩ := h
  refine ⟨us, hu, ?_⟩
  unfold q4g
  revert ha
  generalize us.toList = ul
  generalize c :: r = cs
  induction cs generalizing ul with
  | nil => intro ha; cases ul with | nil => trivial | cons _ _ => exact ha.elim
  | cons x t ih => intro ha; cases ul with | nil => exact ha.elim | cons _ _ => exact ⟨ha.1, ih _ ha.2⟩
theorem quw (L : SlLaysF.n6 P ρ) (hb : Base E E0 G) {enc : α → Value} (h1 : OneCell enc) {cf : α → α → Int} (hO : SWO (ltOf cf)) {g : FuncId} {caps : List (Nat × Nat × Nat)} {σ : Sto} {id : Nat} {ds : List α}
  (eg : ∀ args w, (callFunc g args).run P w = .ok (.enter g args) w) (ho : σ[id]? = some (some (.arr (rowC enc ds) 1 0))) (hsz : ds.length < 4611686018427387904)
  (hc : ∀ d : List α, d.length = ds.length → ∀ x y, OkQ E E0 P g (.cell (.pv (.sc (enc x))) :: .cell (.pv (.sc (enc y))) :: q4g caps) (σ.set id (some (.arr (rowC enc d) 1 0))) (.int .i64 (cf x y))) :
  Ok E E0 P (ρ.f 6) [.cell (.own id ds.length 0 ds.length), .cell (cmpC g caps)] σ (.tup []) (σ.set id (some (.arr (rowC enc (q5i cf ds)) 1 0))) := by
 intro X w vs hσ hn hi hv
 subst hσ
 match vs, hv with
 | [u, v], ⟨hu, hv, _⟩ =>
 obtain ⟨us, rfl, hus⟩ := qhh hv
 by_cases hne : ds = []
 ·subst hne
  obtain ⟨p, cap, rfl⟩ := qsh (w := w) ho hu
  refine (AnyF.slices_SortFunc_none { L with } p cap _ w).mono ?_
  rintro e w' ⟨rfl, rfl⟩
  refine ⟨X, .tuple #[], rfl, ?_, hn, hi, Ext.refl _ _, #[], rfl, trivial⟩
  rw [(q7l hO []).1.eq_nil]
  exact (q7k ho).symm
 ·obtain ⟨l, cap, hl, rfl⟩ := qsg (w := w) ho hu hne
  have hp := hn id
  have hH := qsf hi ho hp hl
  have hblk : l.1 < w.heap.size := by
   obtain ⟨l0, hl0, hB, cs, Ty, hg, hz, hr⟩ := hi.ob id _ ho hp rfl
   rw [hl] at hl0
   obtain rfl : l = l0 := by simpa using hl0
   rcases Nat.lt_or_ge l.1 w.heap.size with h' | h'
   ·exact h'
   ·simp [Array.getElem?_eq_none h'] at hg
  have hsz' : ds.toArray.size = ds.length := by simp
  have hcmp : CmpLays1 P g us enc cf l.1 0 ds.toArray.size w := by
   intro n os d hd x y
   have hd' : d.size = ds.length := by simpa using hd
   obtain ⟨q1, q2⟩ := qlo hi hb.step h1 ho hp hl n os d hd'
   have := hc d.toList (by simpa using hd') x y (qbn X id enc d.toList (sortWorld enc w l.1 0 n d os).heap.size) (sortWorld enc w l.1 0 n d os) (enc x :: enc y :: us.toList) rfl hn q1 ⟨⟨rfl, h1 x⟩, ⟨rfl, h1 y⟩, (hus.imp fun _ _ k => ql.ext q2 k)⟩
   have harr : (enc x :: enc y :: us.toList).toArray = #[enc x, enc y] ++ us := by apply Array.ext'; simp
   rw [harr] at this
   exact this
  have hS := Any.slices_SortFunc_eq L enc h1 cf hO g us l.1 0 cap ds.toArray w eg hcmp hH hblk (by simpa using hsz)
  rw [hsz'] at hS
  refine hS.mono ?_
  rintro e w' ⟨rfl, n, os, rfl⟩
  have hlen : (pdq (ltOf cf) ds.toArray 0 ds.length (Lib.bitLen ds.length) true true).size = ds.length := by
   have := (q7l hO ds).1.length_eq
   simpa [q5i] using this
  obtain ⟨q1, q2⟩ := qlo hi hb.step h1 ho hp hl n os _ hlen
  exact ⟨qbn X id enc (pdq (ltOf cf) ds.toArray 0 ds.length (Lib.bitLen ds.length) true true).toList (sortWorld enc w l.1 0 n (pdq (ltOf cf) ds.toArray 0 ds.length (Lib.bitLen ds.length) true true) os).heap.size, .tuple #[], rfl, rfl, hn, q1, q2, #[], rfl, trivial⟩
theorem qce {nb : Bool} {sz fr : Nat} {cs : List PV} (h : cs ≠ []) : arO nb sz fr cs = .arr cs sz fr := (q2b nb sz fr cs).resolve_right fun k => h k.1
theorem qlp (L : SlLaysF.n6 P ρ) {g : FuncId} {caps : List (Nat × Nat × Nat)} {σ : Sto} {id : Nat} {nb : Bool} (ho : σ[id]? = some (some (arO nb 1 0 []))) :
  Ok E E0 P (ρ.f 6) [.cell (.own id 0 0 0), .cell (cmpC g caps)] σ (.tup []) σ := by
 intro X w vs hσ hn hi hv
 subst hσ
 match vs, hv with
 | [u, v], ⟨hu, hv, _⟩ =>
 obtain ⟨us, rfl, hus⟩ := qhh hv
 have hslice : ∃ p cap, u = .slice p 0 cap := by
  obtain ⟨k0, k1, k2, k3⟩ := hu
  obtain ⟨k4, k5⟩ := k3 _ ho
  have k6 := k5 (by rw [qgo]; rfl)
  rcases q2b nb 1 0 [] with e | ⟨_, e⟩
  ·rw [e] at k6
   obtain ⟨l, hl, hle, a, cap, hu, _⟩ := k6
   exact ⟨_, cap, hu⟩
  ·rw [e] at k6
   exact ⟨none, 0, k6.1⟩
 obtain ⟨p, cap, rfl⟩ := hslice
 refine (AnyF.slices_SortFunc_none { L with } p cap _ w).mono ?_
 rintro e w' ⟨rfl, rfl⟩
 exact ⟨X, .tuple #[], rfl, rfl, hn, hi, Ext.refl _ _, #[], rfl, trivial⟩
theorem quv (L : SlLaysF.n6 P ρ) (hb : Base E E0 G) {enc : α → Value} (h1 : OneCell enc) {cf : α → α → Int} (hO : SWO (ltOf cf)) {g : FuncId} {caps : List (Nat × Nat × Nat)} {σ : Sto} {id : Nat} {nb : Bool} {ds : List α}
  (eg : ∀ args w, (callFunc g args).run P w = .ok (.enter g args) w) (ho : σ[id]? = some (some (arO nb 1 0 (rowC enc ds)))) (hsz : ds.length < 4611686018427387904)
  (hc : ∀ d : List α, d.length = ds.length → ∀ x y, OkQ E E0 P g (.cell (.pv (.sc (enc x))) :: .cell (.pv (.sc (enc y))) :: q4g caps) (σ.set id (some (arO nb 1 0 (rowC enc d)))) (.int .i64 (cf x y))) :
  Ok E E0 P (ρ.f 6) [.cell (.own id ds.length 0 ds.length), .cell (cmpC g caps)] σ (.tup []) (σ.set id (some (arO nb 1 0 (rowC enc (q5i cf ds))))) := by
 have ne : ∀ {d : List α}, d ≠ [] → rowC enc d ≠ [] := fun h k => h (by simpa [rowC] using k)
 by_cases hne : ds = []
 ·subst hne
  rw [(q7l hO []).1.eq_nil, q7k ho]
  exact qlp L ho
 ·have hs : q5i cf ds ≠ [] := fun k => hne (by have := (q7l hO ds).1; rw [k] at this; exact this.nil_eq.symm)
  rw [qce (ne hs)]
  rw [qce (ne hne)] at ho
  exact quw L hb h1 hO eg ho hsz fun d hd x y => by
   have hd0 : d ≠ [] := fun k => hne (by rw [k] at hd; exact List.length_eq_zero_iff.1 hd.symm)
   have := hc d hd x y
   rwa [qce (ne hd0)] at this
end
section
variable {E : World → Prop} {E0 : Nat} {P : Program} {G : Nat → Option (List PV)} {m : Nat} {K : Ex → List TV → Sto → Prop} {s : MS} {ρ β : Type} {e : Option β} {kk : β → Option ρ} {x : ρ}
theorem q55 {σ : Sto} {c c' : AC} (h : c = c') : Conv E E0 σ c c' := by subst h; exact fun _ _ _ _ _ k => k
theorem q5j {α : Type} (F : Fl α) {id : Nat} {xs ys : List α} (h : ys.length = xs.length) : vO F id xs = vO F id ys := by
 unfold vO
 rw [F.length, F.length, h]
theorem q4c {α : Type} (xs : List α) (i : Int) (z : α) : (upd xs i z).length = xs.length := by unfold upd; simp
theorem qgn {nb : Bool} {sz fr : Nat} {cs : List PV} (h : cs ≠ []) : arO nb sz fr cs = arO false sz fr cs := by
 rw [(q2b nb sz fr cs).resolve_right fun k => h k.1, (q2b false sz fr cs).resolve_right fun k => h k.1]
theorem qfk {α : Type} (F : Fl α) (hb : Base E E0 G) (n id : Nat) (nb : Bool) {xs : List α} {i : Int} {y : α} (hx : idx xs i = some y) (z : α) (k : J E E0 P G m K (mSto (adv P G n s) q1d ((adv P G n s).σ.set id (some (arO nb F.sz 0 (F.f (upd xs i z)))))))
  (h : mPre (qfh P G) (adv P G n s) = some (false, .ptr id (F.f xs).length (i.toNat * F.sz), true, false, some (F.c z), F.sz) := by kernel_rfl)
  (ho : (adv P G n s).σ[id]? = some (some (arO nb F.sz 0 (F.f xs))) := by kernel_rfl) : J E E0 P G m K s := by
 obtain ⟨g1, g2, g3⟩ := F.idx hx
 have hpos := F.pos
 have hl : 0 < xs.length := by omega
 have ne : ∀ {l : List α}, l.length = xs.length → F.f l ≠ [] := fun e h => by
  have := F.length ‹_›
  rw [h, e] at this
  have := Nat.mul_pos hl hpos
  simp at *
  omega
 refine qfj F hb n id hx z ?_ h (by rw [ho, qgn (ne rfl)])
 rw [← qgn (nb := nb) (ne (q4c xs i z))]
 exact k
theorem q83 (hb : Base E E0 G) (n : Nat) {g : FuncId} {ws : List AV} {σ1 : β → Sto} {enc : β → TV} (hq : e.bind kk = some x) (hp : ∀ y, e = some y → Ok E E0 P g ws (adv P G n s).σ (enc y) (σ1 y)) (k : ∀ y, e = some y → kk y = some x → J E E0 P G m K (mSto (adv P G n s) (enc y) (σ1 y)))
  (h : mPre (q5r P G) (adv P G n s) = some (false, g, ws) := by kernel_rfl) : J E E0 P G m K s := by
 obtain ⟨y, hy, hk⟩ := Option.bind_eq_some_iff.1 hq
 obtain ⟨D, ops, l, l2, hr, h⟩ := q2r h
 obtain ⟨rfl, o, h1, h2⟩ := qa1 h
 exact q2n hb n hr h1 (fun R => qh0 h2 (hp y hy)) (k y hy hk)
theorem callUE (hb : Base E E0 G) (n : Nat) {g : FuncId} {ws : List AV} {v : TV} (hp : Pure E E0 P g ws v) (k : J E E0 P G m K (mPut (adv P G n s) v)) (h : mPre (qcm P G) (adv P G n s) = some (g, ws) := by kernel_rfl) : J E E0 P G m K s :=
 q6 hb n (e := some ()) (kk := fun _ => some ()) (x := ()) (enc := fun _ => v) rfl (fun _ _ => hp) (fun _ _ _ => k) h
theorem fnO2 (hb : Base E E0 G) {f : FuncId} {fn : Func} {c : Code} {args : List AV} {ρ : Type} {enc : ρ → TV} {σ : Sto} {σ1 : ρ → Sto} {e : Option ρ} (hf : P.funcs[f]? = some fn) (hc : fn.body = some c)
  (h : ∀ r, e = some r → J E E0 P G σ.length (KO P fn enc r (σ1 r)) ⟨none, [c], [], q22 args fn.ntmps, σ⟩) : ∀ r, e = some r → Ok E E0 P f args σ (enc r) (σ1 r) := fun r hq => ok_L hf hc (h r hq)
theorem q2s (hb : Base E E0 G) (n : Nat) (ks ids : List Nat) (k : Nat) {fn : Func} {ρ : Type} {enc : ρ → TV} {σ1 : ρ → Sto} {r x : ρ} (hq : x = r) (hs : q5n k (σ1 x)) (h : qf3 P fn ks ids k (adv P G n s) = some (enc x, σ1 x) := by kernel_rfl) (hm : Nat.ble m k = true := by kernel_rfl)
  (hu : (q4o ks (adv P G n s).T).all (TV.under k) = true := by kernel_rfl) : J E E0 P G m (KO P fn enc r (σ1 r)) s := by
 subst hq
 exact q4u hb n ks ids k rfl hs h hm hu
end
end Abs
end Go.Proofs.YtkffpfapfljinaaGreatDoor
namespace Go.Proofs.YtkffpfapfljinaaGreatDoor
namespace Abs
open Go.RowKit
set_option linter.unusedVariables false
set_option linter.unusedSimpArgs false
theorem q5h {P : Program} (w : World) (dT sT ty elem : TypeId) (k g o dLen dCap : Nat) (a : Addr) (sLen sCap : Nat) (cur : Array Value) (t : TypeId) (cs : List Value)
  (hu : P.underlying dT = some (.slice elem)) (hs : (P.info? elem).map (·.size) = some k)
  (hg : w.heap[g]? = some (.cells cur t (0, 0))) (hn : cs.length = Nat.min sLen dLen * k)
  (hsrc : ∀ j v, cs[j]? = some v → w.cell? (a.add j) = some v) (hfit : o + cs.length ≤ cur.size) (h1 : ∀ v ∈ cs, v.oneCell' = true) :
  (Builtin.copy_ #[dT, sT] ty #[.slice (some ⟨g, o, none⟩) dLen dCap, .slice (some a) sLen sCap]).run P w =
   .ok (goInt (Nat.min sLen dLen : Nat)) (w.setRow g (cur.toList.take o ++ cs ++ cur.toList.drop (o + cs.length)).toArray) := by
 have hst := run_storeCells_at P g o t cs 0 cur w hg (by simpa using hfit) h1
 cases hq : P.info? elem with
 | none => simp [hq] at hs
 | some i =>
  have hi : i.size = k := by simpa [hq] using hs
  have hf := run_firstCells_some (P := P) w i.size (Nat.min sLen dLen) a sLen sCap cs (by rw [hi]; exact hn) hsrc
  simp only [Nat.add_zero] at hst
  simp [Builtin.copy_, run_underlying hu, Builtin.lenOf, sizeOf, typeInfo, hq, hf, hst]
theorem qll {P : Program} (w : World) (tS tR e : TypeId) (ht : P.underlying tS = some (.slice e)) (k : Nat) (hz : ∀ w, (Go.sizeOf e).run P w = .ok k w)
  (a b : Addr) (la ca lb cb : Nat) (hne : a.block ≠ b.block) {va : Value} (ha : w.cell? a = some va) {cur : Array Value} {T : TypeId} (hb : w.heap[b.block]? = some (.cells cur T (0, 0))) (h0 : 0 < cur.size) :
  (Extern.SlicesOverlaps.overlaps #[tS, tS] #[tR] #[.slice (some a) la ca, .slice (some b) lb cb]).run P w = .ok (.bool false) w := by
 have hnb : (a.block != b.block) = true := by simpa using hne
 have hnb' : (a.block == b.block) = false := by simpa using hne
 unfold World.cell? at ha
 split at ha
 ·rename_i c Ta f hc
  split at ha
  ·cases ha
  have hca : c.size ≠ 0 := fun h => by
   have := (Array.getElem?_eq_some_iff.1 ha).1
   omega
  have hsa : w.shape? a.block = some (Ta, c.size) := by unfold World.shape?; rw [hc]
  have hsb : w.shape? b.block = some (T, cur.size) := by unfold World.shape?; rw [hb]
  have hfb : ∀ o s, w.frozen? ⟨b.block, o, s⟩ = false := fun o s => by unfold World.frozen?; simp [hb]
  have hfb' : w.frozen? b = false := hfb b.off b.spot
  change Sem.run P (α := Value) (do
   let some t := (#[tS, tS] : Array TypeId)[0]? | stuck "slices.overlaps: no parameter types"
   let .slice elem ← underlying t | stuck "slices.overlaps: slice type expected"
   let size ← sizeOf elem
   match (some a : Option Addr), (some b : Option Addr) with
   | some a, some b =>
    if la = 0 ∨ lb = 0 ∨ size = 0 then pure (Value.bool false)
    else if a.block != b.block && (← frozen a) && (← frozen b) then unsupported .addressObserved
    else do
     if a.block != b.block then do
      noView a; noView b
      if ← mayBeOne a b then return Value.bool ((← choose (.extern "sameAddr.stringBytes" 2)) == 1)
     pure (Value.bool (a.block == b.block && a.off < b.off + lb * size && b.off < a.off + la * size))
   | _, _ => pure (Value.bool false)) w = _
  by_cases hc0 : la = 0 ∨ lb = 0 ∨ k = 0
  ·simp [run_underlying ht, hz, hc0]
  ·obtain ⟨n, hn⟩ : ∃ n, cur.size = n + 1 := ⟨cur.size - 1, by omega⟩
   obtain ⟨n', hn'⟩ : ∃ n, c.size = n + 1 := ⟨c.size - 1, by omega⟩
   rw [hn] at hsb
   rw [hn'] at hsa
   cases hfa : w.frozen? a <;> cases hfe : w.frozen? { block := a.block, off := n' + 1 } <;>
    simp [run_underlying ht, hz, hc0, hnb, hnb', frozen, noView, viewAt, mayBeOne, stringish, shape, Sem.run, hsa, hsb, hfa, hfe, hfb, hfb']
 ·cases ha
end Abs
end Go.Proofs.YtkffpfapfljinaaGreatDoor
namespace Go.Proofs.YtkffpfapfljinaaGreatDoor
namespace Abs
open Go.RowKit
set_option linter.unusedVariables false
set_option linter.unusedSimpArgs false
def q8w (f : Nat → Nat) (o : Oper) : Oper := { o with after := o.after.map fun e => { e with on := f e.on }, guard := o.guard.map fun g => (f g.1, g.2) }
def q1x (π : List Nat) (ops : List Oper) : List Oper := π.map fun i => q8w (fun j => π.idxOf j) (ops.getD i default)
def q40 (π : List Nat) (n : Nat) : Bool := π.length == n && ((List.range n).all fun i => π.any (Nat.beq i)) && (π.all fun i => Nat.blt i n) && (List.range n).all fun p => Nat.beq (π.idxOf (π.getD p 0)) p
theorem q8v {π : List Nat} {n : Nat} (h : q40 π n = true) : π.length = n := by
 unfold q40 at h
 simp only [Bool.and_eq_true, beq_iff_eq] at h
 exact h.1.1.1
theorem qki {π : List Nat} {n i : Nat} (h : q40 π n = true) (hi : i < n) : i ∈ π := by
 unfold q40 at h
 simp only [Bool.and_eq_true, List.all_eq_true, List.mem_range, List.any_eq_true] at h
 obtain ⟨x, hx, e⟩ := h.1.1.2 i hi
 rw [Nat.eq_of_beq_eq_true e]; exact hx
theorem qkh {π : List Nat} {n i : Nat} (h : q40 π n = true) (hi : i ∈ π) : i < n := by
 unfold q40 at h
 simp only [Bool.and_eq_true, List.all_eq_true] at h
 have := Nat.le_of_ble_eq_true (h.1.2 i hi)
 omega
theorem qsv {π : List Nat} {n p : Nat} (h : q40 π n = true) (hp : p < π.length) : π.idxOf π[p] = p := by
 have hl := q8v h
 unfold q40 at h
 simp only [Bool.and_eq_true, List.all_eq_true, List.mem_range] at h
 have := Nat.eq_of_beq_eq_true (h.2 p (by omega))
 simpa [List.getD, hp] using this
section
variable {π : List Nat} {ops : List Oper} (h : q40 π ops.length = true)
include h
theorem qix {i : Nat} (hi : i < ops.length) : π.idxOf i < ops.length := by
 have := List.idxOf_lt_length_of_mem (qki h hi)
 rwa [q8v h] at this
theorem qiw {i : Nat} (hi : ops.length ≤ i) : π.idxOf i = ops.length := by
 rw [← q8v h]
 exact List.idxOf_eq_length fun hm => by have := qkh h hm; omega
theorem qdp {i : Nat} (hi : i < ops.length) : π[π.idxOf i]? = some i := by
 have hm := qki h hi
 rw [List.getElem?_eq_getElem (List.idxOf_lt_length_of_mem hm), List.getElem_idxOf]
theorem qq1 {i j : Nat} (hi : i < ops.length) (hj : j < ops.length) (e : π.idxOf i = π.idxOf j) : i = j := by
 have h1 := qdp h hi
 have h2 := qdp h hj
 rw [e, h2] at h1
 exact (Option.some.inj h1).symm
theorem qbe : (q1x π ops).length = ops.length := by unfold q1x; rw [List.length_map, q8v h]
theorem qex {i : Nat} (hi : i < ops.length) : (q1x π ops)[π.idxOf i]? = some (q8w (fun j => π.idxOf j) ops[i]) := by
 unfold q1x
 rw [List.getElem?_map, qdp h hi, Option.map_some]
 simp [List.getD, hi]
theorem qsw (i : Nat) : ((q1x π ops)[π.idxOf i]?).bind (·.dst) = (ops[i]?).bind (·.dst) := by
 rcases Nat.lt_or_ge i ops.length with hi | hi
 ·rw [qex h hi, List.getElem?_eq_getElem hi]; rfl
 ·rw [qiw h hi, List.getElem?_eq_none (by rw [qbe h]; exact Nat.le_refl _), List.getElem?_eq_none hi]
theorem qsy (tmps : Array Value) (j : Nat) : yielded (q1x π ops).toArray tmps (π.idxOf j) = yielded ops.toArray tmps j := by
 unfold yielded
 rw [List.getElem?_toArray, List.getElem?_toArray, qsw h]
theorem qsx (tmps : Array Value) (o : Oper) : Region.wanted (q8w (fun j => π.idxOf j) o) (yielded (q1x π ops).toArray tmps) = Region.wanted o (yielded ops.toArray tmps) := by
 unfold Region.wanted q8w
 cases o.guard with
 | none => rfl
 | some g => simp only [Option.map_some]; rw [qsy h]
theorem qmy {P : Program} {Q : Exit → Act → World → Prop} : ∀ (fuel : Nat) (listed listed' : Array Bool) (a : Act) (w : World), listed.size = ops.length → listed'.size = ops.length → (∀ i, i < ops.length → listed'.getD (π.idxOf i) false = listed.getD i false) →
  wpAny P .any (q1x π ops).toArray Q fuel listed' a w → wpAny P .any ops.toArray Q fuel listed a w := by
 have look : ∀ {listed listed' : Array Bool}, listed.size = ops.length → listed'.size = ops.length → (∀ i, i < ops.length → listed'.getD (π.idxOf i) false = listed.getD i false) → ∀ i, listed'.getD (π.idxOf i) false = listed.getD i false := by
  intro listed listed' hs hs' hl i
  rcases Nat.lt_or_ge i ops.length with hi | hi
  ·exact hl i hi
  ·rw [qiw h hi]
   simp [Array.getD, hs, hs', Nat.not_lt.2 hi]
 have ready : ∀ {listed listed' : Array Bool}, listed.size = ops.length → listed'.size = ops.length → (∀ i, i < ops.length → listed'.getD (π.idxOf i) false = listed.getD i false) → ∀ i, i < ops.length → (i ∈ Region.ready .any ops.toArray listed ↔ π.idxOf i ∈ Region.ready .any (q1x π ops).toArray listed') := by
  intro listed listed' hs hs' hl i hi
  have hL := look hs hs' hl
  have hi' := qix h hi
  unfold Region.ready
  simp only [List.mem_filter, List.mem_range, List.size_toArray, qbe h, hi, hi', true_and, List.getElem?_toArray, qex h hi, List.getElem?_eq_getElem hi, Option.map_some, Option.getD_some, Bool.and_eq_true, Bool.not_eq_true']
  rw [q2p hs hi true false, q2p hs' hi' true false, hl i hi]
  refine and_congr_right fun _ => ?_
  simp only [q8w, Array.all_map]
  refine iff_of_eq (congrArg (· = true) ?_)
  congr 1
  funext e
  simp only [Function.comp]
  rw [hL]
  rfl
 intro fuel
 induction fuel with
 | zero =>
  intro listed listed' a w hs hs' hl ⟨h1, h2⟩
  refine ⟨List.eq_nil_iff_forall_not_mem.2 fun i hi => ?_, h2⟩
  have hlt : i < ops.length := by
   have := (List.mem_filter.1 hi).1
   simpa using this
  have := (ready hs hs' hl i hlt).1 hi
  rw [h1] at this; cases this
 | succ fuel ih =>
  intro listed listed' a w hs hs' hl ⟨h1, h2⟩
  refine ⟨fun hr => h1 (List.eq_nil_iff_forall_not_mem.2 fun p hp => ?_), fun i hi => ?_⟩
  ·have hlt : p < ops.length := by
    have := (List.mem_filter.1 hp).1
    simpa [qbe h] using this
   have hpp : p < π.length := by rw [q8v h]; exact hlt
   have hpi : π[p] < ops.length := qkh h (List.getElem_mem hpp)
   have e : π.idxOf π[p] = p := qsv h hpp
   have := (ready hs hs' hl _ hpi).2 (by rw [e]; exact hp)
   rw [hr] at this; cases this
  ·have hlt : i < ops.length := by
    have := (List.mem_filter.1 hi).1
    simpa using this
   have hp := (ready hs hs' hl i hlt).1 hi
   have h3 := h2 _ hp
   have next : ∀ a w, wpAny P .any (q1x π ops).toArray Q fuel (listed'.setIfInBounds (π.idxOf i) true) a w → wpAny P .any ops.toArray Q fuel (listed.setIfInBounds i true) a w := by
    intro a w hk
    refine ih _ _ a w (by simpa using hs) (by simpa using hs') (fun j hj => ?_) hk
    by_cases e : i = j
    ·subst e
     have := qix h hlt
     simp [Array.getD, hs, hs', hlt, this]
    ·rw [getD_set_ne false e, getD_set_ne false (fun k => e (qq1 h hlt hj k))]
     exact hl j hj
   unfold wpOp at h3 ⊢
   simp only [List.getElem?_toArray, qex h hlt, List.getElem?_eq_getElem hlt] at h3 ⊢
   rw [qsx h] at h3
   split
   ·rename_i hw
    rw [if_pos hw] at h3
    rcases h3 with h3 | h3
    ·left
     have h4 : ops[i].wp P a w (wpAny P .any (q1x π ops).toArray Q fuel (listed'.setIfInBounds (π.idxOf i) true)) Q := h3
     exact Oper.wp_mono next h4
    ·right; exact h3
   ·rename_i hw
    rw [if_neg hw] at h3
    exact next _ _ h3
end
section
variable {E : World → Prop} {E0 : Nat} {P : Program} {G : Nat → Option (List PV)} {m : Nat} {K : Ex → List TV → Sto → Prop} {s : MS}
def qhr (P : Program) (t : MS) (π : List Nat) (n1 : Nat) (fl : List Nat) : Bool :=
 match t.reg with
 | none => match t.c with
  | .region _ ops true :: _ => q40 π ops.toList.length && Nat.ble n1 (q1x π ops.toList).length && q56 fl (q1x π ops.toList) n1
  | _ => false
 | some _ => false
def mDrawP (t : MS) (π : List Nat) (n1 : Nat) (fl : List Nat) : MS :=
 match t.c with
 | .region _ ops _ :: r => ⟨some (true, (q1x π ops.toList).toArray, (q1x π ops.toList).take n1, (q1x π ops.toList).drop n1, fl), r, t.ctx, t.T, t.σ⟩
 | _ => t
theorem qn8 (hb : Base E E0 G) (hmix : P.follows .mixedOrders = true) {id : Nat} {ops : Array Oper} {T : List TV} {σ : Sto} (π : List Nat) (n1 : Nat) (fl : List Nat) (h1 : q40 π ops.toList.length = true) (h2 : n1 ≤ (q1x π ops.toList).length) (h3 : q56 fl (q1x π ops.toList) n1 = true)
  (h : asqD E E0 P G (q1x π ops.toList).toArray ((q1x π ops.toList).take n1) T σ fun T1 σ1 => FlOK P G fl (q1x π ops.toList) n1 T1 ∧ asq E E0 P G (q1x π ops.toList).toArray ((q1x π ops.toList).drop n1) T1 σ1 (K .normal)) : awp E E0 P m (.region id ops true) T σ K := by
 intro X w a q1 q2 q3 q4 q5
 have key := qgk (m := m) (T := T) (σ := σ) (K := K) hb fl n1 h2 h3 h X w a q1 q2 q3 q4 q5
 rw [qbe h1] at key
 have := qmy h1 ops.toList.length (Array.replicate ops.toList.length false) (Array.replicate ops.toList.length false) a { w with drawn := w.drawn + 1 } (by simp) (by simp) (fun i hi => by simp [Array.getD]) key
 refine wp_region_any hmix ?_
 simpa using this
theorem qhp (hb : Base E E0 G) (hmix : P.follows .mixedOrders = true) (n : Nat) (π : List Nat) (n1 : Nat) (fl : List Nat) (k : J E E0 P G m K (mDrawP (adv P G n s) π n1 fl)) (h : qhr P (adv P G n s) π n1 fl = true := by kernel_rfl) : J E E0 P G m K s := by
 refine q3g hb n ?_
 generalize adv P G n s = t at *
 obtain ⟨reg, c, ctx, T, σ⟩ := t
 unfold qhr at h
 split at h
 ·rename_i e; simp only at e; subst e
  split at h
  ·rename_i i ops r e; simp only at e; subst e
   simp only [Bool.and_eq_true] at h
   obtain ⟨⟨h1, h2⟩, h3⟩ := h
   exact qn8 hb hmix π n1 fl h1 (Nat.le_of_ble_eq_true h2) h3 (q80 (k _ fun _ _ q => q) fun T1 σ1 q => ⟨qi4 q.1, q.2⟩)
  ·cases h
 ·cases h
end
end Abs
end Go.Proofs.YtkffpfapfljinaaGreatDoor
namespace Go.Proofs.YtkffpfapfljinaaGreatDoor
set_option linter.unusedSimpArgs false
set_option linter.unusedVariables false
namespace Abs
open Go.RowKit
variable {E : World → Prop} {E0 : Nat} {P : Program} {G : Nat → Option (List PV)} {m : Nat} {K : Ex → List TV → Sto → Prop} {s : MS} {ρ β : Type} {e : Option β} {kk : β → Option ρ} {x : ρ}
theorem q45 (hb : Base E E0 G) (n : Nat) {g : FuncId} {ws : List AV} {σ : Sto} {σ1 : β → Sto} {enc : β → TV} (hq : e.bind kk = some x) (hp : ∀ y, e = some y → Ok E E0 P g ws σ (enc y) (σ1 y)) (k : ∀ y, e = some y → kk y = some x → J E E0 P G m K (mSto (adv P G n s) (enc y) (σ1 y)))
  (hs : (adv P G n s).σ = σ := by kernel_rfl) (h : mPre (q5r P G) (adv P G n s) = some (false, g, ws) := by kernel_rfl) : J E E0 P G m K s :=
 q83 hb n hq (fun y hy => hs ▸ hp y hy) k h
end Abs
end Go.Proofs.YtkffpfapfljinaaGreatDoor
