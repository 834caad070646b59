import Derived.Test.YtagadjpmkggjdaaGreatDoorACa
namespace Go.Proofs.YtagadjpmkggjdaaGreatDoor
set_option linter.unusedSimpArgs false
set_option linter.unusedVariables false
namespace Abs
open Go.RowKit
variable {E : World -> Prop} {E0 : Nat} {G : Nat -> Option (List PV)}
set_option maxRecDepth 100000
set_option maxHeartbeats 1000000
def slP (n:Nat) (cs:List PV):AV:=.cell (.pv (.sl false n cs))
attribute [simp] slP
theorem qdf (hb : Base E E0 G) (n : Nat) (cs : List PV) (hn : n * 16 <= 140737488355328) (hc : cs.length = n) : Pure E E0 Tryz.prog 58 [slP n cs] (.one (slP n cs)) := by
  rcases Nat.eq_zero_or_pos n with h0|h0
  . subst h0
    obtain rfl : cs = [] := List.eq_nil_of_length_eq_zero hc
    refine q58 Tryz.func58 rfl ?_
    simp only [q2p, Tryz.ntmps58, List.map_cons, List.map_nil, List.length_cons, List.length_nil, Nat.reduceAdd, Nat.reduceSub, List.replicate_succ, List.replicate_zero, List.cons_append, List.nil_append]
    repeat (first
      | refine q18 ?_
      | refine q1r ?_
      | (refine q12 hb (fun R hR => ?_)
         simp
         refine hR _ _ ?_
         clear hR R)
      | (refine q1z hb rfl ?_)
      | (refine q1y hb rfl ?_)
      | refine q1x (fun K1 hK1 hK2 hK3 hK4 => ?_)
      | refine q1q ?_
      | refine q1o ?_
      | refine q1p ?_
      | (refine hK4 _ _ ?_;clear hK1 hK2 hK3 hK4 K1)
      | (refine hK1 _ _ ?_;clear hK1 hK2 hK3 hK4 K1)
      | (refine hK2 _ _ ?_;clear hK1 hK2 hK3 hK4 K1)
      | (refine hK3 _ _ _ (by decide) ?_;clear hK1 hK2 hK3 hK4 K1))
    refine qcn hb rfl ?_ ?_
    all_goals
      repeat (first
        | refine q18 ?_
        | refine q1r ?_
        | (refine q12 hb (fun R hR => ?_)
           simp
           refine hR _ _ ?_
           clear hR R)
        | (refine q1z hb rfl ?_)
        | (refine q1y hb rfl ?_)
        | refine q1x (fun K1 hK1 hK2 hK3 hK4 => ?_)
        | refine q1q ?_
        | refine q1o ?_
        | refine q1p ?_
        | (refine hK4 _ _ ?_;clear hK1 hK2 hK3 hK4 K1)
        | (refine hK1 _ _ ?_;clear hK1 hK2 hK3 hK4 K1)
        | (refine hK2 _ _ ?_;clear hK1 hK2 hK3 hK4 K1)
        | (refine hK3 _ _ _ (by decide) ?_;clear hK1 hK2 hK3 hK4 K1))
      simp [Ends, Tryz.f58, valA]
  . have h1 : n ≠ 0 := by omega
    have h2 : n <= 9223372036854775807 := by omega
    refine q58 Tryz.func58 rfl ?_
    simp only [q2p, Tryz.ntmps58, List.map_cons, List.map_nil, List.length_cons, List.length_nil, Nat.reduceAdd, Nat.reduceSub, List.replicate_succ, List.replicate_zero, List.cons_append, List.nil_append]
    repeat (first
      | refine q18 ?_
      | refine q1r ?_
      | (refine q12 hb (fun R hR => ?_)
         simp [h0, h1, h2, hn, hc]
         refine hR _ _ ?_
         clear hR R)
      | (refine q1z hb rfl ?_)
      | (refine q1y hb rfl ?_)
      | refine q1x (fun K1 hK1 hK2 hK3 hK4 => ?_)
      | refine q1q ?_
      | refine q1o ?_
      | refine q1p ?_
      | (refine hK4 _ _ ?_;clear hK1 hK2 hK3 hK4 K1)
      | (refine hK1 _ _ ?_;clear hK1 hK2 hK3 hK4 K1)
      | (refine hK2 _ _ ?_;clear hK1 hK2 hK3 hK4 K1)
      | (refine hK3 _ _ _ (by decide) ?_;clear hK1 hK2 hK3 hK4 K1))
    have ht : cs.take n = cs := List.take_of_length_le (by omega)
    simp [Ends, Tryz.f58, valA, h0, h1, hc, ht]
theorem qhx (hb : Base E E0 G) (n : Nat) (cs : List PV) (hn : n * 80 <= 140737488355328) (hc : cs.length = n * 5) : Pure E E0 Tryz.prog 59 [slP n cs] (.one (slP n cs)) := by
  rcases Nat.eq_zero_or_pos n with h0|h0
  . subst h0
    obtain rfl : cs = [] := List.eq_nil_of_length_eq_zero (by simpa using hc)
    refine q58 Tryz.func59 rfl ?_
    simp only [q2p, Tryz.ntmps59, List.map_cons, List.map_nil, List.length_cons, List.length_nil, Nat.reduceAdd, Nat.reduceSub, List.replicate_succ, List.replicate_zero, List.cons_append, List.nil_append]
    repeat (first
      | refine q18 ?_
      | refine q1r ?_
      | (refine q12 hb (fun R hR => ?_)
         simp
         refine hR _ _ ?_
         clear hR R)
      | (refine q1z hb rfl ?_)
      | (refine q1y hb rfl ?_)
      | refine q1x (fun K1 hK1 hK2 hK3 hK4 => ?_)
      | refine q1q ?_
      | refine q1o ?_
      | refine q1p ?_
      | (refine hK4 _ _ ?_;clear hK1 hK2 hK3 hK4 K1)
      | (refine hK1 _ _ ?_;clear hK1 hK2 hK3 hK4 K1)
      | (refine hK2 _ _ ?_;clear hK1 hK2 hK3 hK4 K1)
      | (refine hK3 _ _ _ (by decide) ?_;clear hK1 hK2 hK3 hK4 K1))
    refine qcn hb rfl ?_ ?_
    all_goals
      repeat (first
        | refine q18 ?_
        | refine q1r ?_
        | (refine q12 hb (fun R hR => ?_)
           simp
           refine hR _ _ ?_
           clear hR R)
        | (refine q1z hb rfl ?_)
        | (refine q1y hb rfl ?_)
        | refine q1x (fun K1 hK1 hK2 hK3 hK4 => ?_)
        | refine q1q ?_
        | refine q1o ?_
        | refine q1p ?_
        | (refine hK4 _ _ ?_;clear hK1 hK2 hK3 hK4 K1)
        | (refine hK1 _ _ ?_;clear hK1 hK2 hK3 hK4 K1)
        | (refine hK2 _ _ ?_;clear hK1 hK2 hK3 hK4 K1)
        | (refine hK3 _ _ _ (by decide) ?_;clear hK1 hK2 hK3 hK4 K1))
      simp [Ends, Tryz.f59, valA]
  . have h1 : n ≠ 0 := by omega
    have h2 : n <= 9223372036854775807 := by omega
    refine q58 Tryz.func59 rfl ?_
    simp only [q2p, Tryz.ntmps59, List.map_cons, List.map_nil, List.length_cons, List.length_nil, Nat.reduceAdd, Nat.reduceSub, List.replicate_succ, List.replicate_zero, List.cons_append, List.nil_append]
    repeat (first
      | refine q18 ?_
      | refine q1r ?_
      | (refine q12 hb (fun R hR => ?_)
         simp [h0, h1, h2, hn, hc]
         refine hR _ _ ?_
         clear hR R)
      | (refine q1z hb rfl ?_)
      | (refine q1y hb rfl ?_)
      | refine q1x (fun K1 hK1 hK2 hK3 hK4 => ?_)
      | refine q1q ?_
      | refine q1o ?_
      | refine q1p ?_
      | (refine hK4 _ _ ?_;clear hK1 hK2 hK3 hK4 K1)
      | (refine hK1 _ _ ?_;clear hK1 hK2 hK3 hK4 K1)
      | (refine hK2 _ _ ?_;clear hK1 hK2 hK3 hK4 K1)
      | (refine hK3 _ _ _ (by decide) ?_;clear hK1 hK2 hK3 hK4 K1))
    have ht : cs.take (n * 5) = cs := List.take_of_length_le (by omega)
    simp [Ends, Tryz.f59, valA, h0, h1, hc, ht]
theorem qhy (hb : Base E E0 G) (n : Nat) (cs : List PV) (σ : Sto) (h0 : 0<n) (hn : n * 80 <= 140737488355328) (hc : cs.length = n * 5) :
    Ok E E0 Tryz.prog 59 [slP n cs] σ (.one (.cell (.own σ.length (n * 5) 0 n))) (σ ++ [some (.arr cs 5 0)]) := by
  have h1 : n ≠ 0 := by omega
  have h2 : n <= 9223372036854775807 := by omega
  refine ok_L Tryz.func59 rfl ?_
  simp only [q2p, Tryz.ntmps59, List.map_cons, List.map_nil, List.length_cons, List.length_nil, Nat.reduceAdd, Nat.reduceSub, List.replicate_succ, List.replicate_zero, List.cons_append, List.nil_append]
  repeat (first
    | refine q18 ?_
    | refine q1r ?_
    | (refine q12 hb (fun R hR => ?_)
       simp [h0, h1, h2, hn, hc]
       refine hR _ _ ?_
       clear hR R)
    | (refine q1z hb rfl ?_)
    | (refine q1y hb rfl ?_)
    | refine q1x (fun K1 hK1 hK2 hK3 hK4 => ?_)
    | refine q1q ?_
    | refine q1o ?_
    | refine q1p ?_
    | (refine hK4 _ _ ?_;clear hK1 hK2 hK3 hK4 K1)
    | (refine hK1 _ _ ?_;clear hK1 hK2 hK3 hK4 K1)
    | (refine hK2 _ _ ?_;clear hK1 hK2 hK3 hK4 K1)
    | (refine hK3 _ _ _ (by decide) ?_;clear hK1 hK2 hK3 hK4 K1))
  simp [Ends, Tryz.f59, valA, h0, h1, hc]
end Abs
end Go.Proofs.YtagadjpmkggjdaaGreatDoor
