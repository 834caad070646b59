/-
  slices.Clone of types: a copy of nothing, a copy in an array of the caller's own; in the form that printed proofs use.
-/
import Derived.Test.YtkffpfapfljinaaGreatDoorACb
import Derived.Test.YtkffpfapfljinaaGreatDoorCtA
import Derived.Test.YtkffpfapfljinaaGreatDoorAbsS
import Derived.Test.YtkffpfapfljinaaGreatDoorFlA
namespace Go.Proofs.YtkffpfapfljinaaGreatDoor
set_option linter.unusedSimpArgs false
set_option linter.unusedVariables false
namespace Abs
open Go.RowKit
variable {E : World → Prop} {E0 : Nat} {G : Nat → Option (List PV)}
set_option maxRecDepth 100000
set_option maxHeartbeats 1000000
theorem qo0 (hb : Base E E0 G) : Pure E E0 Tryz.prog 127 [slP 0 []] (.one (slP 0 [])) := by
  refine q49 Tryz.func127 rfl ?_
  simp only [q22, Tryz.ntmps127, List.map_cons, List.map_nil, List.length_cons, List.length_nil, Nat.reduceAdd, Nat.reduceSub, List.replicate_succ, List.replicate_zero, List.cons_append, List.nil_append]
  repeat (first
    | refine q1b ?_
    | refine q1m ?_
    | (refine q19 hb (fun R hR => ?_)
       simp
       refine hR _ _ ?_
       clear hR R)
    | (refine q1s hb rfl ?_)
    | (refine q1r hb rfl ?_)
    | refine q1q (fun K1 hK1 hK2 hK3 hK4 => ?_)
    | refine q1h ?_
    | refine q1k ?_
    | refine q1l ?_
    | (refine hK4 _ _ ?_; clear hK1 hK2 hK3 hK4 K1)
    | (refine hK1 _ _ ?_; clear hK1 hK2 hK3 hK4 K1)
    | (refine hK2 _ _ ?_; clear hK1 hK2 hK3 hK4 K1)
    | (refine hK3 _ _ _ (by decide) ?_; clear hK1 hK2 hK3 hK4 K1))
  refine qc4 hb rfl ?_ ?_
  all_goals
    repeat (first
      | refine q1b ?_
      | refine q1m ?_
      | (refine q19 hb (fun R hR => ?_)
         simp
         refine hR _ _ ?_
         clear hR R)
      | (refine q1s hb rfl ?_)
      | (refine q1r hb rfl ?_)
      | refine q1q (fun K1 hK1 hK2 hK3 hK4 => ?_)
      | refine q1h ?_
      | refine q1k ?_
      | refine q1l ?_
      | (refine hK4 _ _ ?_; clear hK1 hK2 hK3 hK4 K1)
      | (refine hK1 _ _ ?_; clear hK1 hK2 hK3 hK4 K1)
      | (refine hK2 _ _ ?_; clear hK1 hK2 hK3 hK4 K1)
      | (refine hK3 _ _ _ (by decide) ?_; clear hK1 hK2 hK3 hK4 K1))
    simp [Ends, Tryz.f127, valA]
theorem qo3 (hb : Base E E0 G) (n : Nat) (cs : List PV) (σ : Sto) (h0 : 0 < n) (hn : n * 56 ≤ 140737488355328) (hc : cs.length = n * 3) :
    Ok E E0 Tryz.prog 127 [slP n cs] σ (.one (.cell (.own σ.length (n * 3) 0 n))) (σ ++ [some (.arr cs 3 0)]) := by
  have h1 : n ≠ 0 := by omega
  have h2 : n ≤ 9223372036854775807 := by omega
  refine ok_L Tryz.func127 rfl ?_
  simp only [q22, Tryz.ntmps127, List.map_cons, List.map_nil, List.length_cons, List.length_nil, Nat.reduceAdd, Nat.reduceSub, List.replicate_succ, List.replicate_zero, List.cons_append, List.nil_append]
  repeat (first
    | refine q1b ?_
    | refine q1m ?_
    | (refine q19 hb (fun R hR => ?_)
       simp [h0, h1, h2, hn, hc]
       refine hR _ _ ?_
       clear hR R)
    | (refine q1s hb rfl ?_)
    | (refine q1r hb rfl ?_)
    | refine q1q (fun K1 hK1 hK2 hK3 hK4 => ?_)
    | refine q1h ?_
    | refine q1k ?_
    | refine q1l ?_
    | (refine hK4 _ _ ?_; clear hK1 hK2 hK3 hK4 K1)
    | (refine hK1 _ _ ?_; clear hK1 hK2 hK3 hK4 K1)
    | (refine hK2 _ _ ?_; clear hK1 hK2 hK3 hK4 K1)
    | (refine hK3 _ _ _ (by decide) ?_; clear hK1 hK2 hK3 hK4 K1))
  simp [Ends, Tryz.f127, valA, h0, h1, hc]
theorem qo2 (hb : Base E E0 G) (_he : ∀ w, E w → EnvV w) (l : List Ty) (h : decide ((l.length : Int) = 0) = true) : Pure E E0 Tryz.prog 127 [.cell (vL flT l)] (c1 (vL flT [])) := by
 obtain rfl : l = [] := List.eq_nil_of_length_eq_zero (by have := of_decide_eq_true h; omega)
 exact qo0 hb
theorem qo1 (hb : Base E E0 G) (_he : ∀ w, E w → EnvV w) (σ : Sto) (l : List Ty) (h : decide ((l.length : Int) = 0) = false) (r : List Ty) (hr : clone 56 l = some r) : Ok E E0 Tryz.prog 127 [.cell (vL flT l)] σ (c1 (vO flT σ.length r)) (σ ++ [some (arO false flT.sz 0 (flT.f r))]) := by
 obtain ⟨rfl, hn⟩ := qhg hr
 have h0 : 0 < r.length := Nat.pos_of_ne_zero fun k => by
  have := of_decide_eq_false h
  omega
 have := qo3 hb r.length (flT.f r) σ h0 hn (flT.length r)
 unfold vO
 rw [flT.length r]
 exact this
end Abs
end Go.Proofs.YtkffpfapfljinaaGreatDoor
