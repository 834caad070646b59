import Derived.Test.YtagadjpmkggjdaaGreatDoorACb
import Derived.Test.YtagadjpmkggjdaaGreatDoorCtG
import Derived.Test.YtagadjpmkggjdaaGreatDoorAbsS
import Derived.Test.YtagadjpmkggjdaaGreatDoorFlA
namespace Go.Proofs.YtagadjpmkggjdaaGreatDoor
set_option linter.unusedSimpArgs false
set_option linter.unusedVariables false
namespace Abs
open Go.RowKit
variable {E : World -> Prop} {E0 : Nat} {G : Nat -> Option (List PV)}
set_option maxRecDepth 100000
set_option maxHeartbeats 1000000
theorem qqc (hb : Base E E0 G) : Pure E E0 Tryz.prog 59 [slP 0 []] (.one (slP 0 [])) := by
  refine q58 Tryz.func59 rfl ?_
  simp only [q2p, Tryz.ntmps59, List.map_cons, List.map_nil, List.length_cons, List.length_nil, Nat.reduceAdd, Nat.reduceSub, List.replicate_succ, List.replicate_zero, List.cons_append, List.nil_append]
  repeat (first
    | refine q18 ?_
    | refine q1r ?_
    | (refine q12 hb (fun R hR => ?_)
       simp
       refine hR _ _ ?_
       clear hR R)
    | (refine q1z hb rfl ?_)
    | (refine q1y hb rfl ?_)
    | refine q1x (fun K1 hK1 hK2 hK3 hK4 => ?_)
    | refine q1q ?_
    | refine q1o ?_
    | refine q1p ?_
    | (refine hK4 _ _ ?_;clear hK1 hK2 hK3 hK4 K1)
    | (refine hK1 _ _ ?_;clear hK1 hK2 hK3 hK4 K1)
    | (refine hK2 _ _ ?_;clear hK1 hK2 hK3 hK4 K1)
    | (refine hK3 _ _ _ (by decide) ?_;clear hK1 hK2 hK3 hK4 K1))
  refine qcn hb rfl ?_ ?_
  all_goals
    repeat (first
      | refine q18 ?_
      | refine q1r ?_
      | (refine q12 hb (fun R hR => ?_)
         simp
         refine hR _ _ ?_
         clear hR R)
      | (refine q1z hb rfl ?_)
      | (refine q1y hb rfl ?_)
      | refine q1x (fun K1 hK1 hK2 hK3 hK4 => ?_)
      | refine q1q ?_
      | refine q1o ?_
      | refine q1p ?_
      | (refine hK4 _ _ ?_;clear hK1 hK2 hK3 hK4 K1)
      | (refine hK1 _ _ ?_;clear hK1 hK2 hK3 hK4 K1)
      | (refine hK2 _ _ ?_;clear hK1 hK2 hK3 hK4 K1)
      | (refine hK3 _ _ _ (by decide) ?_;clear hK1 hK2 hK3 hK4 K1))
    simp [Ends, Tryz.f59, valA]
theorem qqd (hb : Base E E0 G) (n : Nat) (cs : List PV) (σ : Sto) (h0 : 0<n) (hn : n * 80 <= 140737488355328) (hc : cs.length = n * 5) :
    Ok E E0 Tryz.prog 59 [slP n cs] σ (.one (.cell (.own σ.length (n * 5) 0 n))) (σ ++ [some (.arr cs 5 0)]) := by
  have h1 : n ≠ 0 := by omega
  have h2 : n <= 9223372036854775807 := by omega
  refine ok_L Tryz.func59 rfl ?_
  simp only [q2p, Tryz.ntmps59, List.map_cons, List.map_nil, List.length_cons, List.length_nil, Nat.reduceAdd, Nat.reduceSub, List.replicate_succ, List.replicate_zero, List.cons_append, List.nil_append]
  repeat (first
    | refine q18 ?_
    | refine q1r ?_
    | (refine q12 hb (fun R hR => ?_)
       simp [h0, h1, h2, hn, hc]
       refine hR _ _ ?_
       clear hR R)
    | (refine q1z hb rfl ?_)
    | (refine q1y hb rfl ?_)
    | refine q1x (fun K1 hK1 hK2 hK3 hK4 => ?_)
    | refine q1q ?_
    | refine q1o ?_
    | refine q1p ?_
    | (refine hK4 _ _ ?_;clear hK1 hK2 hK3 hK4 K1)
    | (refine hK1 _ _ ?_;clear hK1 hK2 hK3 hK4 K1)
    | (refine hK2 _ _ ?_;clear hK1 hK2 hK3 hK4 K1)
    | (refine hK3 _ _ _ (by decide) ?_;clear hK1 hK2 hK3 hK4 K1))
  simp [Ends, Tryz.f59, valA, h0, h1, hc]
theorem qi0 (hb:Base E E0 G) (_he:∀w,E w->EnvV w) (l:List Val) (h:decide ((l.length:Int)=0)=true):Pure E E0 Tryz.prog 59 [.cell (vL flV l)] (c1 (vL flV [])):=by
 obtain rfl:l=[]:=List.eq_nil_of_length_eq_zero (by have:=of_decide_eq_true h;omega)
 exact qqc hb
theorem qhz (hb:Base E E0 G) (_he:∀w,E w->EnvV w) (σ:Sto) (l:List Val) (h:decide ((l.length:Int)=0)=false) (r:List Val) (hr:clone 80 l=some r):Ok E E0 Tryz.prog 59 [.cell (vL flV l)] σ (c1 (vO flV σ.length r)) (σ++[some (arO false flV.sz 0 (flV.f r))]):=by
 obtain ⟨rfl,hn⟩:=qi1 hr
 have h0:0<r.length:=Nat.pos_of_ne_zero fun k=>by
  have:=of_decide_eq_false h
  omega
 have:=qqd hb r.length (flV.f r) σ h0 hn (flV.length r)
 unfold vO
 rw[flV.length r]
 exact this
end Abs
end Go.Proofs.YtagadjpmkggjdaaGreatDoor
