/-
  Rules for loops.
-/
import Derived.Test.YtoelojmcopcpcaaGreatDoorAbsT
namespace Go.Proofs.YtoelojmcopcpcaaGreatDoor
namespace Abs
variable {E : World → Prop} {E0 : Nat} {P : Program} {m : Nat} {T : List TV} {σ : Sto} {K : Ex → List TV → Sto → Prop} {r : List Code}
/-- Back to the loop's head: slots and objects that are not wanted any more are forgotten. -/
theorem L_back (ks ids : List Nat) (k : Nat) {T' : List TV} {σ' : Sto} {c : Code} (h : awpL E E0 P m (c :: r) T' σ' K) (hT : keepT ks T = T') (hσ : (killσ ids σ).take k = σ') (hm : m ≤ k) (hu : T'.all (TV.under k) = true) (hs : σ'.all (obUnder k) = true) :
    awpL E E0 P m (c :: r) T σ K := by
  subst hT hσ
  exact L_keep ks (L_kill ids (L_take k hm hu hs h))
/-- A loop of N rounds. -/
theorem L_iter (N : Nat) (F : Nat → List TV) (S : Nat → Sto) {b : Code} (step : ∀ i, i < N → awpL E E0 P m (.loop b :: r) (F (i + 1)) (S (i + 1)) K → awpL E E0 P m (b :: .loop b :: r) (F i) (S i) K)
    (last : awpL E E0 P m (b :: .loop b :: r) (F N) (S N) K) : awpL E E0 P m (.loop b :: r) (F 0) (S 0) K := by
  have key : ∀ j, j ≤ N → awpL E E0 P m (.loop b :: r) (F (N - j)) (S (N - j)) K := by
    intro j
    induction j with
    | zero => intro _; exact L_loop last
    | succ j ih =>
      intro hj
      refine L_loop (step (N - (j + 1)) (by omega) ?_)
      rw [show N - (j + 1) + 1 = N - j by omega]
      exact ih (by omega)
  have := key N (Nat.le_refl _)
  rwa [Nat.sub_self] at this
theorem L_eq {T' : List TV} {σ' : Sto} {l : List Code} (h : awpL E E0 P m l T' σ' K) (hT : T = T') (hσ : σ = σ') : awpL E E0 P m l T σ K := by subst hT hσ; exact h
theorem wrap_in {n : Int} (h1 : -9223372036854775808 ≤ n) (h2 : n ≤ 9223372036854775807) : IntKind.i64.wrap n = n := by
  unfold IntKind.wrap
  simp only [IntKind.bits, IntKind.signed]
  by_cases h : n % 2 ^ 64 ≥ 2 ^ 63
  · simp; omega
  · simp; omega
theorem wrap_succ {i : Nat} (h : i < 9223372036854775807) : IntKind.i64.wrap ((i : Int) + 1) = ((i + 1 : Nat) : Int) := by rw [wrap_in (by omega) (by omega)]; simp
/-- Slots by number; the others are not known. -/
def slotAt (i : Nat) : List (Nat × AC) → AC
  | [] => .any
  | (j, c) :: r => if i = j then c else slotAt i r
def slotsFrom : Nat → Nat → List (Nat × AC) → List TV
  | 0, _, _ => []
  | n + 1, i, l => .one (.cell (slotAt i l)) :: slotsFrom n (i + 1) l
def slots (n : Nat) (l : List (Nat × AC)) : List TV := slotsFrom n 0 l
attribute [simp] slotAt slotsFrom slots
/-- A loop with a measure. -/
theorem L_meas {α : Type} (μ : α → Nat) (F : α → List TV) (S : α → Sto) {b : Code} (step : ∀ a, (∀ a', μ a' < μ a → awpL E E0 P m (.loop b :: r) (F a') (S a') K) → awpL E E0 P m (b :: .loop b :: r) (F a) (S a) K) (a : α) : awpL E E0 P m (.loop b :: r) (F a) (S a) K := by
  have key : ∀ n a, μ a < n → awpL E E0 P m (.loop b :: r) (F a) (S a) K := by
    intro n
    induction n with
    | zero => intro a h; omega
    | succ n ih => intro a h; exact L_loop (step a fun a' h' => ih a' (by omega))
  exact key _ a (Nat.lt_succ_self _)
end Abs
end Go.Proofs.YtoelojmcopcpcaaGreatDoor
