/-
  Cells of a struct in a slot, in other words; an array of one's own that may be nil.
-/
import Derived.Test.YtkffpfapfljinaaGreatDoorAbsN
namespace Go.Proofs.YtkffpfapfljinaaGreatDoor
set_option linter.unusedSimpArgs false
set_option linter.unusedVariables false
namespace Abs
open Go.RowKit
section
variable {E : World → Prop} {E0 : Nat} {P : Program} {G : Nat → Option (List PV)} {m : Nat} {T T' : List TV} {σ σ' : Sto} {K : Ex → List TV → Sto → Prop} {r : List Code}
theorem All2.set1 {α β : Type} {R : α → β → Prop} : ∀ {l : List α} {m : List β} (j : Nat) {c c' : α}, All2 R l m → l[j]? = some c → (∀ u, R c u → R c' u) → All2 R (l.set j c') m
 | [], [], _, _, _, _, h, _ => by simp at h
 | [], _ :: _, _, _, _, h, _, _ => h.elim
 | _ :: _, [], _, _, _, h, _, _ => h.elim
 | x :: l, y :: m, 0, c, c', h, hj, f => by
  simp at hj; subst hj
  exact ⟨f y h.1, h.2⟩
 | x :: l, y :: m, j + 1, c, c', h, hj, f => ⟨h.1, All2.set1 j h.2 (by simpa using hj) f⟩
theorem L_ownA (k j sz : Nat) {cs : List AC} {c : Code} (hk : T[k]? = some (.one (.agg cs))) (hj : cs[j]? = some vN) (hT : T.set k (.one (.agg (cs.set j (.own σ.length 0 0 0)))) = T') (hσ : σ ++ [some (.nilarr sz)] = σ')
  (h : awpL E E0 P m (c :: r) T' σ' K) : awpL E E0 P m (c :: r) T σ K := by
 subst hT hσ
 intro X w a h1 h2 h3 h4 h5
 subst h1
 have hs : ∀ (id : Nat) (ob : AObj), X.σ[id]? = some (some ob) → ∃ ob0, X.σ[id]? = some (some ob0) ∧ ob0.ver = ob.ver ∧ ob.kind = ob0.kind ∧ ob0.cells.length = ob.cells.length ∧ ob0.fr = ob.fr ∧ ∀ (w' : World) (X' : Cx), Ext X w X' w' → (X'.σ[X.σ.length]? = some (some (.nilarr sz)) ∧ ¬ X'.pend X.σ.length) → ∀ cs, q25 X' w' ob0 cs → q25 X' w' ob cs :=
  fun id ob e => ⟨ob, e, rfl, rfl, rfl, rfl, fun _ _ _ _ _ h => h⟩
 have hx := qb9 h4 h3 sz rfl fun id ob e => ⟨ob, e, rfl, rfl, rfl, rfl⟩
 have hi := qej h4 h3 sz rfl hs
 have := h { X with σ := X.σ ++ [some (.nilarr sz)], loc := fun i => if i = X.σ.length then none else X.loc i } w a rfl (by simp; omega) h3 hi ⟨by simp [h5.len], fun i t u e1 e2 => ?_, h5.defers⟩
 ·exact wp_mono this fun _ _ _ q => q48 (hx.b h3 h2) q
 ·rw [List.getElem?_set] at e1
  split at e1
  ·rename_i hki
   subst hki
   split at e1
   ·simp at e1; subst e1
    obtain ⟨us, hu, ha⟩ := TRep.ext hx (h5.rep k _ u hk e2)
    exact ⟨us, hu, All2.set1 j ha hj fun u hu => qeq (w' := w) (id := X.σ.length) (sz := sz) hu (by simp) (h3 _)⟩
   ·cases e1
  ·exact TRep.ext hx (h5.rep i t u e1 e2)
theorem L_pad {c : Code} (h : awpL E E0 P m (c :: r) T (σ ++ [none]) K) : awpL E E0 P m (c :: r) T σ K := by
 intro X w a h1 h2 h3 h4 h5
 subst h1
 have split : ∀ (id : Nat) (ob : AObj), (X.σ ++ [none])[id]? = some (some ob) → X.σ[id]? = some (some ob) := fun id ob e => by
  have hid : id < X.σ.length := by
   rcases Nat.lt_or_ge id X.σ.length with k | k
   ·exact k
   ·rw [List.getElem?_append_right k] at e
    cases hh : id - X.σ.length with
    | zero => rw [hh] at e; simp at e
    | succ j => rw [hh] at e; simp at e
  rwa [List.getElem?_append_left hid] at e
 have hx : Ext X w { X with σ := X.σ ++ [none] } w := by
  refine ⟨rfl, rfl, Below.refl _ _, by simp, fun b o h => ⟨?_, rfl⟩, fun _ _ h => h, fun id ob' hid _ e => ⟨ob', split id ob' e, Nat.le_refl _, fun _ => ⟨rfl, rfl, rfl⟩⟩⟩
  rcases h with h | ⟨k1, k2, k3⟩
  ·exact .inl h
  ·exact .inr ⟨k1, k2, fun id ob l e hp hl hb => k3 id ob l (split id ob e) (h3 id) hl hb⟩
 have hi : Inv E E0 { X with σ := X.σ ++ [none] } w := by
  refine ⟨h4.hs, h4.b0, h4.e0, h4.env, fun id ob e _ hbr => ?_, fun id id' ob ob' l l' e e' _ _ g g' hb => ?_, h4.glob, fun id ob e _ hbr => ?_⟩
  ·obtain ⟨l, hl', hB, cs, Ty, hg, hz, hr⟩ := h4.ob id ob (split id ob e) (h3 id) hbr
   exact ⟨l, hl', hB, cs, Ty, hg, hz, fun i c hc => (hr i c hc).imp fun u hu => ⟨hu.1, CRep.ext hx hu.2⟩⟩
  ·exact h4.inj id id' ob ob' l l' (split id ob e) (split id' ob' e') (h3 id) (h3 id') g g' hb
  ·exact h4.bare id ob (split id ob e) (h3 id) hbr
 have := h { X with σ := X.σ ++ [none] } w a rfl (by simp; omega) h3 hi ⟨h5.len, fun i t u e1 e2 => TRep.ext hx (h5.rep i t u e1 e2), h5.defers⟩
 exact wp_mono this fun _ _ _ q => q48 (hx.b h3 h2) q
end
section
variable {E : World → Prop} {E0 : Nat} {P : Program} {G : Nat → Option (List PV)} {m : Nat} {K : Ex → List TV → Sto → Prop} {s : MS} {α ρ : Type} {x : ρ}
theorem padE (hb : Base E E0 G) (n : Nat) (k : J E E0 P G m K (mFrm (adv P G n s) (adv P G n s).T ((adv P G n s).σ ++ [none])))
  (hk : q3j (adv P G n s) = true := by kernel_rfl) : J E E0 P G m K s :=
 q52 hb n hk (fun d r h => L_pad h) k
theorem wkE (hb : Base E E0 G) (F : Fl α) (n id : Nat) {fr : Nat} {xs : List α} {e : Option ρ} (hq : (bif (decide ((xs.length : Int) = 0)) then none else e) = some x) (k : e = some x → J E E0 P G m K (mFrm (adv P G n s) (adv P G n s).T ((adv P G n s).σ.set id (some (arO true F.sz fr (F.f xs))))))
  (ho : (adv P G n s).σ[id]? = some (some (arO false F.sz fr (F.f xs))) := by kernel_rfl) (hk : q3j (adv P G n s) = true := by kernel_rfl) : J E E0 P G m K s := by
 by_cases h0 : (xs.length : Int) = 0
 ·rw [decide_eq_true h0, cond_true] at hq; cases hq
 rw [decide_eq_false h0, cond_false] at hq
 have hne : F.f xs ≠ [] := fun h => by
  have := congrArg List.length h
  rw [F.length, List.length_nil] at this
  have hp := F.pos
  rcases Nat.mul_eq_zero.1 this with h | h <;> omega
 have he : arO true F.sz fr (F.f xs) = arO false F.sz fr (F.f xs) := by
  show gr F.sz fr (F.f xs) = .arr (F.f xs) F.sz fr
  cases h : F.f xs with
  | nil => exact absurd h hne
  | cons a l => rfl
 refine q52 hb n hk (fun d r h => ?_) (k hq)
 rw [he] at h
 have hs : (adv P G n s).σ.set id (some (arO false F.sz fr (F.f xs))) = (adv P G n s).σ := by
  refine List.ext_getElem? fun i => ?_
  rw [List.getElem?_set]
  split
  ·rename_i hi; subst hi
   split
   ·exact ho.symm
   ·rename_i hl; rw [List.getElem?_eq_none (by omega)]
  ·rfl
 rw [hs] at h
 exact h
end
end Abs
end Go.Proofs.YtkffpfapfljinaaGreatDoor
