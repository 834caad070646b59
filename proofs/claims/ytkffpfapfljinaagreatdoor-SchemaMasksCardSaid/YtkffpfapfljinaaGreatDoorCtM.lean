/-
  slices.SortFunc of places by the keys at them (value.Map).
-/
import Derived.Test.YtkffpfapfljinaaGreatDoorCtS
import Derived.Test.YtkffpfapfljinaaGreatDoorCtB
import Derived.Deep.QuietTactic
import Derived.BigQuiet
namespace Go.Proofs.YtkffpfapfljinaaGreatDoor
namespace Abs
open Go.RowKit Go.Lib Go.Sort
set_option maxHeartbeats 2000000
set_option linter.unusedVariables false
set_option linter.unusedSimpArgs false
theorem qr2 (pb kb ko kn cap : Nat) (a b : ByteArray) (i j : Nat) (w : World) (h0 : w.cell? ⟨pb, 0, none⟩ = some (.slice (some ⟨kb, ko, none⟩) kn cap)) (hi : i < kn) (hj : j < kn)
  (ha : w.cell? ⟨kb, ko + i, none⟩ = some (.string a)) (hb : w.cell? ⟨kb, ko + j, none⟩ = some (.string b)) :
  Calls Tryz.prog 107 #[.int .i64 (i : Int), .int .i64 (j : Int), .pointer (some ⟨pb, 0, none⟩)] w fun e w' => e = .returned (.int .i64 (cmpS a b)) ∧ ∃ q os, w' = Sort.grow (w.drewN q) os := by
 have hcmp := fun W => Tryz.strings_Compare a b W
 go_enter Tryz.func107, Tryz.ntmps107
 go_wp2
 go_quiet ((go_at_call 108; exact Calls.quiet_of_same (hcmp _)))
 go_wp2_with fail
 go_ret
 exact ⟨rfl, _, #[], by rw [Sort.grow_empty]⟩
abbrev Plc (keys : List ByteArray) := {i : Nat // i < keys.length}
def cmpP (keys : List ByteArray) (a b : Plc keys) : Int := cmpS (keys[a.1]'a.2) (keys[b.1]'b.2)
def encP (keys : List ByteArray) (a : Plc keys) : Value := .int .i64 (a.1 : Int)
theorem swoP (keys : List ByteArray) : SWO (ltOf (cmpP keys)) where
 irrefl x := swoS.irrefl _
 trans x y z h k := swoS.trans _ _ _ h k
 ntrans x y z h k := swoS.ntrans _ _ _ h k
def plcs (keys : List ByteArray) (xs : List Int) (h : ∀ x ∈ xs, 0 ≤ x ∧ x < keys.length) : List (Plc keys) := xs.attach.map fun x => ⟨x.1.toNat, by have := h x.1 x.2; omega⟩
theorem qkn (keys : List ByteArray) (xs : List Int) (h : ∀ x ∈ xs, 0 ≤ x ∧ x < keys.length) : (plcs keys xs h).map (fun a => (a.1 : Int)) = xs := by
 unfold plcs
 rw [List.map_map]
 refine Eq.trans ?_ (List.attach_map_subtype_val xs)
 exact List.map_congr_left fun x _ => by
  have := h x.1 x.2
  show ((x.1.toNat : Nat) : Int) = x.1
  omega
theorem qkm (keys : List ByteArray) (xs : List Int) (h : ∀ x ∈ xs, 0 ≤ x ∧ x < keys.length) : (plcs keys xs h).length = xs.length := by simp [plcs]
def q5d (keys : List ByteArray) (xs : List Int) : Option (List Int) :=
 if xs = [] then some []
 else if h : 0 < keys.length ∧ xs.length < 4611686018427387904 ∧ ∀ x ∈ xs, 0 ≤ x ∧ x < keys.length then
  some ((@q5i (Plc keys) ⟨⟨0, h.1⟩⟩ (cmpP keys) (plcs keys xs h.2.2)).map fun a => (a.1 : Int))
 else none
theorem qr0 {keys : List ByteArray} {xs ys : List Int} (e : q5d keys xs = some ys) : ys.length = xs.length := by
 unfold q5d at e
 split at e
 ·rename_i h; simp at e; subst e; rw [h]
 ·split at e
  ·rename_i h
   obtain rfl := Option.some.inj e
   rw [List.length_map, (@q7l (Plc keys) ⟨⟨0, h.1⟩⟩ _ (swoP keys) _).1.length_eq, qkm]
  ·cases e
section
variable {E : World → Prop} {E0 : Nat} {G : Nat → Option (List PV)}
theorem qr1 {σ : Sto} {b : Nat} {keys : List ByteArray} (hk : σ[b]? = some (some (.box [vL flS keys]))) (x y : Plc keys) :
  OkQ E E0 Tryz.prog 107 (.cell (.pv (.sc (encP keys x))) :: .cell (.pv (.sc (encP keys y))) :: q4g [(b, 0, 0)]) σ (.int .i64 (cmpP keys x y)) := by
 intro X w vs hσ hn hi hv
 subst hσ
 match vs, hv with
 | [u, v, p], ⟨hu, hv, hp, _⟩ =>
 have eu : u = _ := hu.1
 have ev : v = _ := hv.1
 subst eu; subst ev
 have hlv : live X.σ b 0 = some (.box [vL flS keys]) := by unfold live; rw [hk]; rfl
 obtain ⟨q1, q2, l, hl, rfl⟩ := q68 hp hlv
 obtain ⟨sv, h0, hsv⟩ := q7c hi q2 q1 hl 0 (vL flS keys) rfl
 have hsv' : PRep X.prot w (.sl false keys.length (flS.f keys)) sv := hsv
 unfold PRep at hsv'
 have hx := x.2
 have hy := y.2
 rcases hsv' with ⟨_, e, _⟩ | ⟨kb, ko, cap, rfl, _, _, hc⟩ | ⟨e, _⟩
 ·omega
 ·obtain ⟨u, ha, _, hu⟩ := hc.get x.1 (.sc (.string keys[x.1])) (by simp [flS, strP, hx])
  obtain ⟨v, hb, _, hv⟩ := hc.get y.1 (.sc (.string keys[y.1])) (by simp [flS, strP, hy])
  have eu : u = _ := hu.1
  have ev : v = _ := hv.1
  subst eu; subst ev
  exact qr2 l.1 kb ko keys.length cap keys[x.1] keys[y.1] x.1 y.1 w h0 hx hy ha hb
 ·omega
theorem vO_I (id : Nat) (xs : List Int) : vO (flI .i64) id xs = .own id xs.length 0 xs.length := by
 unfold vO
 rw [(flI .i64).length]
 simp [flI]
theorem qlg (keys : List ByteArray) (d : List (Plc keys)) : rowC (encP keys) d = (flI .i64).f (d.map fun a => (a.1 : Int)) := by simp [rowC, flI, encP, pI]
theorem quu (hb : Base E E0 G) (_he : ∀ w, E w → EnvV w) {σ : Sto} (id : Nat) (nb : Bool) (b : Nat) (keys : List ByteArray) (xs : List Int) (ho : σ[id]? = some (some (arO nb (flI .i64).sz 0 ((flI .i64).f xs)))) (hk : σ[b]? = some (some (.box [vL flS keys]))) (y : List Int) (e : q5d keys xs = some y) :
  Ok E E0 Tryz.prog 106 [.cell (vO (flI .i64) id xs), .cell (.fn 107 [(b, 0, 0)])] σ (.tup []) (σ.set id (some (arO nb (flI .i64).sz 0 ((flI .i64).f y)))) := by
 have hne : ∀ o, (σ.set id o)[b]? = σ[b]? := fun o => by
  rw [List.getElem?_set_ne]
  intro k
  subst k
  rw [ho] at hk
  simp only [Option.some.injEq] at hk
  rcases q2b nb (flI .i64).sz 0 ((flI .i64).f xs) with e | ⟨_, e⟩ <;> rw [e] at hk <;> cases hk
 unfold q5d at e
 split at e
 ·rename_i hx
  simp at e; subst e; subst hx
  rw [q7k ho]
  exact qlp Tryz.laysSlF6_f106 (g := 107) (caps := [(b, 0, 0)]) ho
 ·split at e
  ·rename_i h
   obtain rfl := Option.some.inj e
   have h1 := qkn keys xs h.2.2
   have h2 := qkm keys xs h.2.2
   generalize plcs keys xs h.2.2 = ds at h1 h2 ⊢
   letI : Inhabited (Plc keys) := ⟨⟨0, h.1⟩⟩
   rw [vO_I, ← qlg, ← h2]
   rw [← h1, ← qlg] at ho
   exact quv Tryz.laysSlF6_f106 hb (enc := encP keys) (fun _ => rfl) (swoP keys) (g := 107) (caps := [(b, 0, 0)]) (ds := ds) (enters_of Tryz.func107 (by kernel_rfl) rfl) ho (by omega) (fun d _ x y => qr1 (by rw [hne]; exact hk) x y)
  ·cases e
end
end Abs
end Go.Proofs.YtkffpfapfljinaaGreatDoor
