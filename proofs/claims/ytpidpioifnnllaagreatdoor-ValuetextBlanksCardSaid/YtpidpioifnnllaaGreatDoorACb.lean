/-
  Contracts: slices.Clone, convert.copied.
-/
import Derived.Test.YtpidpioifnnllaaGreatDoorACa
namespace Go.Proofs.YtpidpioifnnllaaGreatDoor
set_option linter.unusedSimpArgs false
set_option linter.unusedVariables false
namespace Abs
open Go.RowKit
variable {E : World → Prop} {E0 : Nat} {G : Nat → Option (List PV)}
set_option maxRecDepth 100000
set_option maxHeartbeats 1000000
def slP (n:Nat) (cs:List PV):AV:=.cell (.pv (.sl false n cs))
attribute [simp] slP
theorem qq1 (hb : Base E E0 G) (n : Nat) (cs : List PV) (hn : n * 16 ≤ 140737488355328) (hc : cs.length = n) : Pure E E0 Tryz.prog 136 [slP n cs] (.one (slP n cs)) := by
  rcases Nat.eq_zero_or_pos n with h0 | h0
  · subst h0
    obtain rfl : cs = [] := List.eq_nil_of_length_eq_zero hc
    refine qfq Tryz.func136 rfl ?_
    simp only [q3o, Tryz.ntmps136, List.map_cons, List.map_nil, List.length_cons, List.length_nil, Nat.reduceAdd, Nat.reduceSub, List.replicate_succ, List.replicate_zero, List.cons_append, List.nil_append]
    repeat (first
      | refine qa0 ?_
      | refine qa1 ?_
      | (refine qcn hb (fun R hR => ?_)
         simp
         refine hR _ _ (fun v e => by simp at e) ?_
         clear hR R)
      | (refine qco hb rfl ?_)
      | (refine qcl hb rfl ?_)
      | refine qcj (fun K1 hK1 hK2 hK3 hK4 => ?_)
      | refine q6q ?_
      | refine q9y ?_
      | refine q9z ?_
      | (refine hK4 _ _ ?_; clear hK1 hK2 hK3 hK4 K1)
      | (refine hK1 _ _ ?_; clear hK1 hK2 hK3 hK4 K1)
      | (refine hK2 _ _ ?_; clear hK1 hK2 hK3 hK4 K1)
      | (refine hK3 _ _ _ (by decide) ?_; clear hK1 hK2 hK3 hK4 K1))
    refine L_unk hb rfl ?_ ?_
    all_goals
      repeat (first
        | refine qa0 ?_
        | refine qa1 ?_
        | (refine qcn hb (fun R hR => ?_)
           simp
           refine hR _ _ (fun v e => by simp at e) ?_
           clear hR R)
        | (refine qco hb rfl ?_)
        | (refine qcl hb rfl ?_)
        | refine qcj (fun K1 hK1 hK2 hK3 hK4 => ?_)
        | refine q6q ?_
        | refine q9y ?_
        | refine q9z ?_
        | (refine hK4 _ _ ?_; clear hK1 hK2 hK3 hK4 K1)
        | (refine hK1 _ _ ?_; clear hK1 hK2 hK3 hK4 K1)
        | (refine hK2 _ _ ?_; clear hK1 hK2 hK3 hK4 K1)
        | (refine hK3 _ _ _ (by decide) ?_; clear hK1 hK2 hK3 hK4 K1))
      simp [Ends, Tryz.f136, valA]
  · have h1 : n ≠ 0 := by omega
    have h2 : n ≤ 9223372036854775807 := by omega
    refine qfq Tryz.func136 rfl ?_
    simp only [q3o, Tryz.ntmps136, List.map_cons, List.map_nil, List.length_cons, List.length_nil, Nat.reduceAdd, Nat.reduceSub, List.replicate_succ, List.replicate_zero, List.cons_append, List.nil_append]
    repeat (first
      | refine qa0 ?_
      | refine qa1 ?_
      | (refine qcn hb (fun R hR => ?_)
         simp [h0, h1, h2, hn, hc]
         refine hR _ _ (fun v e => by simp at e) ?_
         clear hR R)
      | (refine qco hb rfl ?_)
      | (refine qcl hb rfl ?_)
      | refine qcj (fun K1 hK1 hK2 hK3 hK4 => ?_)
      | refine q6q ?_
      | refine q9y ?_
      | refine q9z ?_
      | (refine hK4 _ _ ?_; clear hK1 hK2 hK3 hK4 K1)
      | (refine hK1 _ _ ?_; clear hK1 hK2 hK3 hK4 K1)
      | (refine hK2 _ _ ?_; clear hK1 hK2 hK3 hK4 K1)
      | (refine hK3 _ _ _ (by decide) ?_; clear hK1 hK2 hK3 hK4 K1))
    have ht : cs.take n = cs := List.take_of_length_le (by omega)
    simp [Ends, Tryz.f136, valA, h0, h1, hc, ht]
end Abs
end Go.Proofs.YtpidpioifnnllaaGreatDoor
