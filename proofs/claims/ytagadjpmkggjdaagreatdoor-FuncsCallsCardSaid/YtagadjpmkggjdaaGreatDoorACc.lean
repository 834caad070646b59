import Derived.Test.YtagadjpmkggjdaaGreatDoorACb
import Derived.Test.YtagadjpmkggjdaaGreatDoorKnot
import Derived.Test.YtagadjpmkggjdaaGreatDoorABr
namespace Go.Proofs.YtagadjpmkggjdaaGreatDoor
set_option linter.unusedSimpArgs false
set_option linter.unusedVariables false
namespace Abs
open Go.RowKit
variable {E : World -> Prop} {E0 : Nat} {G : Nat -> Option (List PV)}
set_option maxRecDepth 100000
set_option maxHeartbeats 1000000
noncomputable def cpy (x:Val):Option Val:=gd x.Fits x
theorem qqp (hb : Base E E0 G) (x : Val) (hf : x.Fits) : Pure E E0 Tryz.prog 186 [valA x] (.one (valA x)) := by
  induction x using Val.ind with
  | h k n s items keys ih =>
    obtain ⟨_, _, f3, f4, f5, f6, f7⟩ := hf.parts
    simp only [Val.items, Val.keys] at f4 f5 f7
    have hk := qdf (E := E) (E0 := E0) hb keys.length (keys.map strP) (by omega) (by simp)
    rcases Nat.eq_zero_or_pos items.length with h0|h0
    . obtain rfl : items = [] := List.eq_nil_of_length_eq_zero h0
      have hv := qhx (E := E) (E0 := E0) hb 0 [] (by omega) (by simp)
      refine q58 Tryz.func186 rfl ?_
      simp only [q2p, Tryz.ntmps186, List.map_cons, List.map_nil, List.length_cons, List.length_nil, Nat.reduceAdd, Nat.reduceSub, List.replicate_succ, List.replicate_zero, List.cons_append, List.nil_append]
      repeat (first
        | refine q18 ?_
        | refine q1r ?_
        | (refine q12 hb (fun R hR => ?_)
           simp [valA]
           refine hR _ _ ?_
           clear hR R)
        | (refine q1z hb rfl ?_)
        | (refine q1y hb rfl ?_)
        | refine q1x (fun K1 hK1 hK2 hK3 hK4 => ?_)
        | refine q1q ?_
        | refine q1o ?_
        | refine q1p ?_
        | (refine hK4 _ _ ?_;clear hK1 hK2 hK3 hK4 K1)
        | (refine hK1 _ _ ?_;clear hK1 hK2 hK3 hK4 K1)
        | (refine hK2 _ _ ?_;clear hK1 hK2 hK3 hK4 K1)
        | (refine hK3 _ _ _ (by decide) ?_;clear hK1 hK2 hK3 hK4 K1))
      refine q12 hb (fun R hR => ?_)
      simp
      refine ⟨_, .val (by simp) (by simp) hk (by simp), ?_⟩
      simp
      refine hR _ _ ?_
      clear hR R
      refine q18 ?_
      refine q12 hb (fun R hR => ?_)
      simp
      refine ⟨_, .val (by simp) (by simp) hv (by simp), ?_⟩
      simp
      refine hR _ _ ?_
      clear hR R
      repeat (first
        | refine q18 ?_
        | refine q1r ?_
        | (refine q12 hb (fun R hR => ?_)
           simp
           refine hR _ _ ?_
           clear hR R)
        | (refine q1z hb rfl ?_)
        | (refine q1y hb rfl ?_)
        | refine q1x (fun K1 hK1 hK2 hK3 hK4 => ?_)
        | refine q1q ?_
        | refine q1o ?_
        | refine q1p ?_
        | (refine hK4 _ _ ?_;clear hK1 hK2 hK3 hK4 K1)
        | (refine hK1 _ _ ?_;clear hK1 hK2 hK3 hK4 K1)
        | (refine hK2 _ _ ?_;clear hK1 hK2 hK3 hK4 K1)
        | (refine hK3 _ _ _ (by decide) ?_;clear hK1 hK2 hK3 hK4 K1))
      refine q6o ?_
      repeat (first
        | refine q18 ?_
        | refine q1r ?_
        | (refine q12 hb (fun R hR => ?_)
           simp
           refine hR _ _ ?_
           clear hR R)
        | (refine q1z hb rfl ?_)
        | (refine q1y hb rfl ?_)
        | refine q1x (fun K1 hK1 hK2 hK3 hK4 => ?_)
        | refine q1q ?_
        | refine q1o ?_
        | refine q1p ?_
        | (refine hK4 _ _ ?_;clear hK1 hK2 hK3 hK4 K1)
        | (refine hK1 _ _ ?_;clear hK1 hK2 hK3 hK4 K1)
        | (refine hK2 _ _ ?_;clear hK1 hK2 hK3 hK4 K1)
        | (refine hK3 _ _ _ (by decide) ?_;clear hK1 hK2 hK3 hK4 K1))
      simp [Ends, Tryz.f186, valA]
    . have hv := qhy (E := E) (E0 := E0) hb items.length (qo items)
      refine q58 Tryz.func186 rfl ?_
      simp only [q2p, Tryz.ntmps186, List.map_cons, List.map_nil, List.length_cons, List.length_nil, Nat.reduceAdd, Nat.reduceSub, List.replicate_succ, List.replicate_zero, List.cons_append, List.nil_append]
      repeat (first
        | refine q18 ?_
        | refine q1r ?_
        | (refine q12 hb (fun R hR => ?_)
           simp [valA]
           refine hR _ _ ?_
           clear hR R)
        | (refine q1z hb rfl ?_)
        | (refine q1y hb rfl ?_)
        | refine q1x (fun K1 hK1 hK2 hK3 hK4 => ?_)
        | refine q1q ?_
        | refine q1o ?_
        | refine q1p ?_
        | (refine hK4 _ _ ?_;clear hK1 hK2 hK3 hK4 K1)
        | (refine hK1 _ _ ?_;clear hK1 hK2 hK3 hK4 K1)
        | (refine hK2 _ _ ?_;clear hK1 hK2 hK3 hK4 K1)
        | (refine hK3 _ _ _ (by decide) ?_;clear hK1 hK2 hK3 hK4 K1))
      refine q12 hb (fun R hR => ?_)
      simp
      refine ⟨_, .val (by simp) (by simp) hk (by simp), ?_⟩
      simp
      refine hR _ _ ?_
      clear hR R
      refine q18 ?_
      refine q12 hb (fun R hR => ?_)
      simp
      refine ⟨_, .adopt (by simp) (by simp) (hv _ (by omega) (by omega) (by simp)), ?_⟩
      simp
      refine hR _ _ ?_
      clear hR R
      repeat (first
        | refine q18 ?_
        | refine q1r ?_
        | (refine q12 hb (fun R hR => ?_)
           simp
           refine hR _ _ ?_
           clear hR R)
        | (refine q1z hb rfl ?_)
        | (refine q1y hb rfl ?_)
        | refine q1x (fun K1 hK1 hK2 hK3 hK4 => ?_)
        | refine q1q ?_
        | refine q1o ?_
        | refine q1p ?_
        | (refine hK4 _ _ ?_;clear hK1 hK2 hK3 hK4 K1)
        | (refine hK1 _ _ ?_;clear hK1 hK2 hK3 hK4 K1)
        | (refine hK2 _ _ ?_;clear hK1 hK2 hK3 hK4 K1)
        | (refine hK3 _ _ _ (by decide) ?_;clear hK1 hK2 hK3 hK4 K1))
      let S : Sto := [some (.box [.pv (.sc (.int .i64 k)), .pv (.sc (.int .i64 n)), .pv (.sc (.string s)), .own 2 (items.length * 5) 0 items.length, .pv (.sl false keys.length (keys.map strP))]),
        some (.box [.pv (.sc (.int .i64 0)), .pv (.sc (.int .i64 0)), .pv (.sc (.string noS)), .pv (.sc (.slice none 0 0)), .pv (.sc (.slice none 0 0))]), some (.arr (qo items) 5 0)]
      let F : Nat -> List TV := fun i => slots 30 [(1, .ptr 0 0 0), (2, .ptr 1 0 0), (14, .pv (.sc (.int .i64 items.length))), (15, .pv (.sc (.int .i64 i)))]
      refine q8r [1, 2, 14, 15] [] 3 (T' := F 0) (σ' := S) ?_ (by simp [F, q4j]) (by simp [S, killσ]) (by simp) (by simp [F, TV.under, AV.under, AC.under]) (by simp [S, q49, AObj.under, AC.under])
      refine qgl items.length F (fun _ => S) (fun i hi next => ?_) ?_
      . have h5 : i * 5 + 5 <= items.length * 5 := by omega
        have hm := qj1 hi
        have hs := qj3 hi items[i]
        rw [List.set_getElem_self] at hs
        have hw := qgg (i := i) (by omega)
        have hx := ih _ (List.getElem_mem hi) (f7 _ (List.getElem_mem hi))
        simp [F, S]
        repeat (first
          | refine q18 ?_
          | refine q1r ?_
          | (refine q12 hb (fun R hR => ?_)
             simp [hi]
             refine hR _ _ ?_
             clear hR R)
          | (refine q1z hb rfl ?_)
          | (refine q1y hb rfl ?_)
          | refine q1x (fun K1 hK1 hK2 hK3 hK4 => ?_)
          | refine q1q ?_
          | refine q1o ?_
          | refine q1p ?_
          | (refine hK4 _ _ ?_;clear hK1 hK2 hK3 hK4 K1)
          | (refine hK1 _ _ ?_;clear hK1 hK2 hK3 hK4 K1)
          | (refine hK2 _ _ ?_;clear hK1 hK2 hK3 hK4 K1)
          | (refine hK3 _ _ _ (by decide) ?_;clear hK1 hK2 hK3 hK4 K1))
        refine qgk hb mixed 9 (by simp) (by kernel_rfl) (fun R hR => ?_)
        simp [hi, hm, h5]
        refine ⟨_, .val (by simp [valA]) (by simp) hx (by simp), ?_⟩
        simp [valA, hi, h5, hs]
        refine hR _ _ ?_
        clear hR R
        repeat (first
          | refine q18 ?_
          | refine q1r ?_
          | (refine q12 hb (fun R hR => ?_)
             simp [hw]
             refine hR _ _ ?_
             clear hR R)
          | (refine q1z hb rfl ?_)
          | (refine q1y hb rfl ?_)
          | refine q1x (fun K1 hK1 hK2 hK3 hK4 => ?_)
          | refine q1q ?_
          | refine q1o ?_
          | refine q1p ?_
          | (refine hK4 _ _ ?_;clear hK1 hK2 hK3 hK4 K1)
          | (refine hK1 _ _ ?_;clear hK1 hK2 hK3 hK4 K1)
          | (refine hK2 _ _ ?_;clear hK1 hK2 hK3 hK4 K1)
          | (refine hK3 _ _ _ (by decide) ?_;clear hK1 hK2 hK3 hK4 K1))
        refine q8r [1, 2, 14, 15] [] 3 (T' := F (i + 1)) (σ' := S) next ?_ ?_ ?_ ?_ ?_
        . simp [F, q4j]
        . simp [S, killσ]
        . simp
        . simp [F, TV.under, AV.under, AC.under]
        . simp [S, q49, AObj.under, AC.under]
      . simp [F, S]
        repeat (first
          | refine q18 ?_
          | refine q1r ?_
          | (refine q12 hb (fun R hR => ?_)
             simp
             refine hR _ _ ?_
             clear hR R)
          | (refine q1z hb rfl ?_)
          | (refine q1y hb rfl ?_)
          | refine q1x (fun K1 hK1 hK2 hK3 hK4 => ?_)
          | refine q1q ?_
          | refine q1o ?_
          | refine q1p ?_
          | (refine hK4 _ _ ?_;clear hK1 hK2 hK3 hK4 K1)
          | (refine hK1 _ _ ?_;clear hK1 hK2 hK3 hK4 K1)
          | (refine hK2 _ _ ?_;clear hK1 hK2 hK3 hK4 K1)
          | (refine hK3 _ _ _ (by decide) ?_;clear hK1 hK2 hK3 hK4 K1))
        have ht : (qo items).take (items.length * 5) = qo items := List.take_of_length_le (by simp)
        simp [Ends, Tryz.f186, valA, ht]
theorem qdj (hb:Base E E0 G) (_he:∀w,E w->EnvV w) (x r:Val) (h:cpy x=some r):Pure E E0 Tryz.prog 186 [.agg (aV x)] (.one (.agg (aV r))):=by
 obtain ⟨hf,rfl⟩:=q2t h
 exact qqp hb r hf
theorem qqq (hb : Base E E0 G) (x : Val) (hf : x.Fits) : Pure E E0 Tryz.prog 32 [valA x] (.one (valA x)) := by
  induction x using Val.ind with
  | h k n s items keys ih =>
    obtain ⟨_, _, f3, f4, f5, f6, f7⟩ := hf.parts
    simp only [Val.items, Val.keys] at f4 f5 f7
    have hk := qdf (E := E) (E0 := E0) hb keys.length (keys.map strP) (by omega) (by simp)
    rcases Nat.eq_zero_or_pos items.length with h0|h0
    . obtain rfl : items = [] := List.eq_nil_of_length_eq_zero h0
      have hv := qhx (E := E) (E0 := E0) hb 0 [] (by omega) (by simp)
      refine q58 Tryz.func32 rfl ?_
      simp only [q2p, Tryz.ntmps32, List.map_cons, List.map_nil, List.length_cons, List.length_nil, Nat.reduceAdd, Nat.reduceSub, List.replicate_succ, List.replicate_zero, List.cons_append, List.nil_append]
      repeat (first
        | refine q18 ?_
        | refine q1r ?_
        | (refine q12 hb (fun R hR => ?_)
           simp [valA]
           refine hR _ _ ?_
           clear hR R)
        | (refine q1z hb rfl ?_)
        | (refine q1y hb rfl ?_)
        | refine q1x (fun K1 hK1 hK2 hK3 hK4 => ?_)
        | refine q1q ?_
        | refine q1o ?_
        | refine q1p ?_
        | (refine hK4 _ _ ?_;clear hK1 hK2 hK3 hK4 K1)
        | (refine hK1 _ _ ?_;clear hK1 hK2 hK3 hK4 K1)
        | (refine hK2 _ _ ?_;clear hK1 hK2 hK3 hK4 K1)
        | (refine hK3 _ _ _ (by decide) ?_;clear hK1 hK2 hK3 hK4 K1))
      refine q12 hb (fun R hR => ?_)
      simp
      refine ⟨_, .val (by simp) (by simp) hk (by simp), ?_⟩
      simp
      refine hR _ _ ?_
      clear hR R
      refine q18 ?_
      refine q12 hb (fun R hR => ?_)
      simp
      refine ⟨_, .val (by simp) (by simp) hv (by simp), ?_⟩
      simp
      refine hR _ _ ?_
      clear hR R
      repeat (first
        | refine q18 ?_
        | refine q1r ?_
        | (refine q12 hb (fun R hR => ?_)
           simp
           refine hR _ _ ?_
           clear hR R)
        | (refine q1z hb rfl ?_)
        | (refine q1y hb rfl ?_)
        | refine q1x (fun K1 hK1 hK2 hK3 hK4 => ?_)
        | refine q1q ?_
        | refine q1o ?_
        | refine q1p ?_
        | (refine hK4 _ _ ?_;clear hK1 hK2 hK3 hK4 K1)
        | (refine hK1 _ _ ?_;clear hK1 hK2 hK3 hK4 K1)
        | (refine hK2 _ _ ?_;clear hK1 hK2 hK3 hK4 K1)
        | (refine hK3 _ _ _ (by decide) ?_;clear hK1 hK2 hK3 hK4 K1))
      refine q6o ?_
      repeat (first
        | refine q18 ?_
        | refine q1r ?_
        | (refine q12 hb (fun R hR => ?_)
           simp
           refine hR _ _ ?_
           clear hR R)
        | (refine q1z hb rfl ?_)
        | (refine q1y hb rfl ?_)
        | refine q1x (fun K1 hK1 hK2 hK3 hK4 => ?_)
        | refine q1q ?_
        | refine q1o ?_
        | refine q1p ?_
        | (refine hK4 _ _ ?_;clear hK1 hK2 hK3 hK4 K1)
        | (refine hK1 _ _ ?_;clear hK1 hK2 hK3 hK4 K1)
        | (refine hK2 _ _ ?_;clear hK1 hK2 hK3 hK4 K1)
        | (refine hK3 _ _ _ (by decide) ?_;clear hK1 hK2 hK3 hK4 K1))
      simp [Ends, Tryz.f32, valA]
    . have hv := qhy (E := E) (E0 := E0) hb items.length (qo items)
      refine q58 Tryz.func32 rfl ?_
      simp only [q2p, Tryz.ntmps32, List.map_cons, List.map_nil, List.length_cons, List.length_nil, Nat.reduceAdd, Nat.reduceSub, List.replicate_succ, List.replicate_zero, List.cons_append, List.nil_append]
      repeat (first
        | refine q18 ?_
        | refine q1r ?_
        | (refine q12 hb (fun R hR => ?_)
           simp [valA]
           refine hR _ _ ?_
           clear hR R)
        | (refine q1z hb rfl ?_)
        | (refine q1y hb rfl ?_)
        | refine q1x (fun K1 hK1 hK2 hK3 hK4 => ?_)
        | refine q1q ?_
        | refine q1o ?_
        | refine q1p ?_
        | (refine hK4 _ _ ?_;clear hK1 hK2 hK3 hK4 K1)
        | (refine hK1 _ _ ?_;clear hK1 hK2 hK3 hK4 K1)
        | (refine hK2 _ _ ?_;clear hK1 hK2 hK3 hK4 K1)
        | (refine hK3 _ _ _ (by decide) ?_;clear hK1 hK2 hK3 hK4 K1))
      refine q12 hb (fun R hR => ?_)
      simp
      refine ⟨_, .val (by simp) (by simp) hk (by simp), ?_⟩
      simp
      refine hR _ _ ?_
      clear hR R
      refine q18 ?_
      refine q12 hb (fun R hR => ?_)
      simp
      refine ⟨_, .adopt (by simp) (by simp) (hv _ (by omega) (by omega) (by simp)), ?_⟩
      simp
      refine hR _ _ ?_
      clear hR R
      repeat (first
        | refine q18 ?_
        | refine q1r ?_
        | (refine q12 hb (fun R hR => ?_)
           simp
           refine hR _ _ ?_
           clear hR R)
        | (refine q1z hb rfl ?_)
        | (refine q1y hb rfl ?_)
        | refine q1x (fun K1 hK1 hK2 hK3 hK4 => ?_)
        | refine q1q ?_
        | refine q1o ?_
        | refine q1p ?_
        | (refine hK4 _ _ ?_;clear hK1 hK2 hK3 hK4 K1)
        | (refine hK1 _ _ ?_;clear hK1 hK2 hK3 hK4 K1)
        | (refine hK2 _ _ ?_;clear hK1 hK2 hK3 hK4 K1)
        | (refine hK3 _ _ _ (by decide) ?_;clear hK1 hK2 hK3 hK4 K1))
      let S : Sto := [some (.box [.pv (.sc (.int .i64 k)), .pv (.sc (.int .i64 n)), .pv (.sc (.string s)), .own 2 (items.length * 5) 0 items.length, .pv (.sl false keys.length (keys.map strP))]),
        some (.box [.pv (.sc (.int .i64 0)), .pv (.sc (.int .i64 0)), .pv (.sc (.string noS)), .pv (.sc (.slice none 0 0)), .pv (.sc (.slice none 0 0))]), some (.arr (qo items) 5 0)]
      let F : Nat -> List TV := fun i => slots 30 [(1, .ptr 0 0 0), (2, .ptr 1 0 0), (14, .pv (.sc (.int .i64 items.length))), (15, .pv (.sc (.int .i64 i)))]
      refine q8r [1, 2, 14, 15] [] 3 (T' := F 0) (σ' := S) ?_ (by simp [F, q4j]) (by simp [S, killσ]) (by simp) (by simp [F, TV.under, AV.under, AC.under]) (by simp [S, q49, AObj.under, AC.under])
      refine qgl items.length F (fun _ => S) (fun i hi next => ?_) ?_
      . have h5 : i * 5 + 5 <= items.length * 5 := by omega
        have hm := qj1 hi
        have hs := qj3 hi items[i]
        rw [List.set_getElem_self] at hs
        have hw := qgg (i := i) (by omega)
        have hx := ih _ (List.getElem_mem hi) (f7 _ (List.getElem_mem hi))
        simp [F, S]
        repeat (first
          | refine q18 ?_
          | refine q1r ?_
          | (refine q12 hb (fun R hR => ?_)
             simp [hi]
             refine hR _ _ ?_
             clear hR R)
          | (refine q1z hb rfl ?_)
          | (refine q1y hb rfl ?_)
          | refine q1x (fun K1 hK1 hK2 hK3 hK4 => ?_)
          | refine q1q ?_
          | refine q1o ?_
          | refine q1p ?_
          | (refine hK4 _ _ ?_;clear hK1 hK2 hK3 hK4 K1)
          | (refine hK1 _ _ ?_;clear hK1 hK2 hK3 hK4 K1)
          | (refine hK2 _ _ ?_;clear hK1 hK2 hK3 hK4 K1)
          | (refine hK3 _ _ _ (by decide) ?_;clear hK1 hK2 hK3 hK4 K1))
        refine qgk hb mixed 9 (by simp) (by kernel_rfl) (fun R hR => ?_)
        simp [hi, hm, h5]
        refine ⟨_, .val (by simp [valA]) (by simp) hx (by simp), ?_⟩
        simp [valA, hi, h5, hs]
        refine hR _ _ ?_
        clear hR R
        repeat (first
          | refine q18 ?_
          | refine q1r ?_
          | (refine q12 hb (fun R hR => ?_)
             simp [hw]
             refine hR _ _ ?_
             clear hR R)
          | (refine q1z hb rfl ?_)
          | (refine q1y hb rfl ?_)
          | refine q1x (fun K1 hK1 hK2 hK3 hK4 => ?_)
          | refine q1q ?_
          | refine q1o ?_
          | refine q1p ?_
          | (refine hK4 _ _ ?_;clear hK1 hK2 hK3 hK4 K1)
          | (refine hK1 _ _ ?_;clear hK1 hK2 hK3 hK4 K1)
          | (refine hK2 _ _ ?_;clear hK1 hK2 hK3 hK4 K1)
          | (refine hK3 _ _ _ (by decide) ?_;clear hK1 hK2 hK3 hK4 K1))
        refine q8r [1, 2, 14, 15] [] 3 (T' := F (i + 1)) (σ' := S) next ?_ ?_ ?_ ?_ ?_
        . simp [F, q4j]
        . simp [S, killσ]
        . simp
        . simp [F, TV.under, AV.under, AC.under]
        . simp [S, q49, AObj.under, AC.under]
      . simp [F, S]
        repeat (first
          | refine q18 ?_
          | refine q1r ?_
          | (refine q12 hb (fun R hR => ?_)
             simp
             refine hR _ _ ?_
             clear hR R)
          | (refine q1z hb rfl ?_)
          | (refine q1y hb rfl ?_)
          | refine q1x (fun K1 hK1 hK2 hK3 hK4 => ?_)
          | refine q1q ?_
          | refine q1o ?_
          | refine q1p ?_
          | (refine hK4 _ _ ?_;clear hK1 hK2 hK3 hK4 K1)
          | (refine hK1 _ _ ?_;clear hK1 hK2 hK3 hK4 K1)
          | (refine hK2 _ _ ?_;clear hK1 hK2 hK3 hK4 K1)
          | (refine hK3 _ _ _ (by decide) ?_;clear hK1 hK2 hK3 hK4 K1))
        have ht : (qo items).take (items.length * 5) = qo items := List.take_of_length_le (by simp)
        simp [Ends, Tryz.f32, valA, ht]
theorem qi7 (hb:Base E E0 G) (_he:∀w,E w->EnvV w) (x r:Val) (h:cpy x=some r):Pure E E0 Tryz.prog 32 [.agg (aV x)] (.one (.agg (aV r))):=by
 obtain ⟨hf,rfl⟩:=q2t h
 exact qqq hb r hf
end Abs
end Go.Proofs.YtagadjpmkggjdaaGreatDoor
