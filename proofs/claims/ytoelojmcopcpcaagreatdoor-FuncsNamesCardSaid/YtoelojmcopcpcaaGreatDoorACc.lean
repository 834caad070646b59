/-
  Contracts: the copies of values in each package.
-/
import Derived.Test.YtoelojmcopcpcaaGreatDoorACb
import Derived.Test.YtoelojmcopcpcaaGreatDoorKnot
import Derived.Test.YtoelojmcopcpcaaGreatDoorABr
namespace Go.Proofs.YtoelojmcopcpcaaGreatDoor
set_option linter.unusedSimpArgs false
set_option linter.unusedVariables false
namespace Abs
open Go.RowKit
variable {E : World → Prop} {E0 : Nat} {G : Nat → Option (List PV)}
set_option maxRecDepth 100000
set_option maxHeartbeats 1000000
/-- A copy of a value is the value. -/
noncomputable def cpy (x : Val) : Option Val := gd x.Fits x
theorem copied_ok_convert (hb : Base E E0 G) (x : Val) (hf : x.Fits) : Pure E E0 Tryz.prog 116 [valA x] (.one (valA x)) := by
  induction x using Val.ind with
  | h k n s items keys ih =>
    obtain ⟨_, _, f3, f4, f5, f6, f7⟩ := hf.parts
    simp only [Val.items, Val.keys] at f4 f5 f7
    have hk := cloneK_ok (E := E) (E0 := E0) hb keys.length (keys.map strP) (by omega) (by simp)
    rcases Nat.eq_zero_or_pos items.length with h0 | h0
    · obtain rfl : items = [] := List.eq_nil_of_length_eq_zero h0
      have hv := cloneV_ok (E := E) (E0 := E0) hb 0 [] (by omega) (by simp)
      refine pure_L Tryz.func116 rfl ?_
      simp only [enterT, Tryz.ntmps116, List.map_cons, List.map_nil, List.length_cons, List.length_nil, Nat.reduceAdd, Nat.reduceSub, List.replicate_succ, List.replicate_zero, List.cons_append, List.nil_append]
      repeat (first
        | refine L_seq ?_
        | refine L_skip ?_
        | (refine L_region hb (fun R hR => ?_)
           simp [valA]
           refine hR _ _ ?_
           clear hR R)
        | (refine L_true hb rfl ?_)
        | (refine L_false hb rfl ?_)
        | refine L_block (fun K1 hK1 hK2 hK3 hK4 => ?_)
        | refine L_ret ?_
        | refine L_exit ?_
        | refine L_nil ?_
        | (refine hK4 _ _ ?_; clear hK1 hK2 hK3 hK4 K1)
        | (refine hK1 _ _ ?_; clear hK1 hK2 hK3 hK4 K1)
        | (refine hK2 _ _ ?_; clear hK1 hK2 hK3 hK4 K1)
        | (refine hK3 _ _ _ (by decide) ?_; clear hK1 hK2 hK3 hK4 K1))
      refine L_region hb (fun R hR => ?_)
      simp
      refine ⟨_, .val (by simp) (by simp) hk (by simp), ?_⟩
      simp
      refine hR _ _ ?_
      clear hR R
      refine L_seq ?_
      refine L_region hb (fun R hR => ?_)
      simp
      refine ⟨_, .val (by simp) (by simp) hv (by simp), ?_⟩
      simp
      refine hR _ _ ?_
      clear hR R
      repeat (first
        | refine L_seq ?_
        | refine L_skip ?_
        | (refine L_region hb (fun R hR => ?_)
           simp
           refine hR _ _ ?_
           clear hR R)
        | (refine L_true hb rfl ?_)
        | (refine L_false hb rfl ?_)
        | refine L_block (fun K1 hK1 hK2 hK3 hK4 => ?_)
        | refine L_ret ?_
        | refine L_exit ?_
        | refine L_nil ?_
        | (refine hK4 _ _ ?_; clear hK1 hK2 hK3 hK4 K1)
        | (refine hK1 _ _ ?_; clear hK1 hK2 hK3 hK4 K1)
        | (refine hK2 _ _ ?_; clear hK1 hK2 hK3 hK4 K1)
        | (refine hK3 _ _ _ (by decide) ?_; clear hK1 hK2 hK3 hK4 K1))
      refine L_loop ?_
      repeat (first
        | refine L_seq ?_
        | refine L_skip ?_
        | (refine L_region hb (fun R hR => ?_)
           simp
           refine hR _ _ ?_
           clear hR R)
        | (refine L_true hb rfl ?_)
        | (refine L_false hb rfl ?_)
        | refine L_block (fun K1 hK1 hK2 hK3 hK4 => ?_)
        | refine L_ret ?_
        | refine L_exit ?_
        | refine L_nil ?_
        | (refine hK4 _ _ ?_; clear hK1 hK2 hK3 hK4 K1)
        | (refine hK1 _ _ ?_; clear hK1 hK2 hK3 hK4 K1)
        | (refine hK2 _ _ ?_; clear hK1 hK2 hK3 hK4 K1)
        | (refine hK3 _ _ _ (by decide) ?_; clear hK1 hK2 hK3 hK4 K1))
      simp [Ends, Tryz.f116, valA]
    · have hv := cloneV_own (E := E) (E0 := E0) hb items.length (flatP items)
      refine pure_L Tryz.func116 rfl ?_
      simp only [enterT, Tryz.ntmps116, List.map_cons, List.map_nil, List.length_cons, List.length_nil, Nat.reduceAdd, Nat.reduceSub, List.replicate_succ, List.replicate_zero, List.cons_append, List.nil_append]
      repeat (first
        | refine L_seq ?_
        | refine L_skip ?_
        | (refine L_region hb (fun R hR => ?_)
           simp [valA]
           refine hR _ _ ?_
           clear hR R)
        | (refine L_true hb rfl ?_)
        | (refine L_false hb rfl ?_)
        | refine L_block (fun K1 hK1 hK2 hK3 hK4 => ?_)
        | refine L_ret ?_
        | refine L_exit ?_
        | refine L_nil ?_
        | (refine hK4 _ _ ?_; clear hK1 hK2 hK3 hK4 K1)
        | (refine hK1 _ _ ?_; clear hK1 hK2 hK3 hK4 K1)
        | (refine hK2 _ _ ?_; clear hK1 hK2 hK3 hK4 K1)
        | (refine hK3 _ _ _ (by decide) ?_; clear hK1 hK2 hK3 hK4 K1))
      refine L_region hb (fun R hR => ?_)
      simp
      refine ⟨_, .val (by simp) (by simp) hk (by simp), ?_⟩
      simp
      refine hR _ _ ?_
      clear hR R
      refine L_seq ?_
      refine L_region hb (fun R hR => ?_)
      simp
      refine ⟨_, .adopt (by simp) (by simp) (hv _ (by omega) (by omega) (by simp)), ?_⟩
      simp
      refine hR _ _ ?_
      clear hR R
      repeat (first
        | refine L_seq ?_
        | refine L_skip ?_
        | (refine L_region hb (fun R hR => ?_)
           simp
           refine hR _ _ ?_
           clear hR R)
        | (refine L_true hb rfl ?_)
        | (refine L_false hb rfl ?_)
        | refine L_block (fun K1 hK1 hK2 hK3 hK4 => ?_)
        | refine L_ret ?_
        | refine L_exit ?_
        | refine L_nil ?_
        | (refine hK4 _ _ ?_; clear hK1 hK2 hK3 hK4 K1)
        | (refine hK1 _ _ ?_; clear hK1 hK2 hK3 hK4 K1)
        | (refine hK2 _ _ ?_; clear hK1 hK2 hK3 hK4 K1)
        | (refine hK3 _ _ _ (by decide) ?_; clear hK1 hK2 hK3 hK4 K1))
      let S : Sto := [some (.box [.pv (.sc (.int .i64 k)), .pv (.sc (.int .i64 n)), .pv (.sc (.string s)), .own 2 (items.length * 5) 0 items.length, .pv (.sl false keys.length (keys.map strP))]),
        some (.box [.pv (.sc (.int .i64 0)), .pv (.sc (.int .i64 0)), .pv (.sc (.string noS)), .pv (.sc (.slice none 0 0)), .pv (.sc (.slice none 0 0))]), some (.arr (flatP items) 5 0)]
      let F : Nat → List TV := fun i => slots 30 [(1, .ptr 0 0 0), (2, .ptr 1 0 0), (14, .pv (.sc (.int .i64 items.length))), (15, .pv (.sc (.int .i64 i)))]
      refine L_back [1, 2, 14, 15] [] 3 (T' := F 0) (σ' := S) ?_ (by simp [F, keepT]) (by simp [S, killσ]) (by simp) (by simp [F, TV.under, AV.under, AC.under]) (by simp [S, obUnder, AObj.under, AC.under])
      refine L_iter items.length F (fun _ => S) (fun i hi next => ?_) ?_
      · have h5 : i * 5 + 5 ≤ items.length * 5 := by omega
        have hm := flatP_at_map hi
        have hs := flatP_set hi items[i]
        rw [List.set_getElem_self] at hs
        have hw := wrap_succ (i := i) (by omega)
        have hx := ih _ (List.getElem_mem hi) (f7 _ (List.getElem_mem hi))
        simp [F, S]
        repeat (first
          | refine L_seq ?_
          | refine L_skip ?_
          | (refine L_region hb (fun R hR => ?_)
             simp [hi]
             refine hR _ _ ?_
             clear hR R)
          | (refine L_true hb rfl ?_)
          | (refine L_false hb rfl ?_)
          | refine L_block (fun K1 hK1 hK2 hK3 hK4 => ?_)
          | refine L_ret ?_
          | refine L_exit ?_
          | refine L_nil ?_
          | (refine hK4 _ _ ?_; clear hK1 hK2 hK3 hK4 K1)
          | (refine hK1 _ _ ?_; clear hK1 hK2 hK3 hK4 K1)
          | (refine hK2 _ _ ?_; clear hK1 hK2 hK3 hK4 K1)
          | (refine hK3 _ _ _ (by decide) ?_; clear hK1 hK2 hK3 hK4 K1))
        refine L_draw hb mixed 9 (by simp) (by kernel_rfl) (fun R hR => ?_)
        simp [hi, hm, h5]
        refine ⟨_, .val (by simp [valA]) (by simp) hx (by simp), ?_⟩
        simp [valA, hi, h5, hs]
        refine hR _ _ ?_
        clear hR R
        repeat (first
          | refine L_seq ?_
          | refine L_skip ?_
          | (refine L_region hb (fun R hR => ?_)
             simp [hw]
             refine hR _ _ ?_
             clear hR R)
          | (refine L_true hb rfl ?_)
          | (refine L_false hb rfl ?_)
          | refine L_block (fun K1 hK1 hK2 hK3 hK4 => ?_)
          | refine L_ret ?_
          | refine L_exit ?_
          | refine L_nil ?_
          | (refine hK4 _ _ ?_; clear hK1 hK2 hK3 hK4 K1)
          | (refine hK1 _ _ ?_; clear hK1 hK2 hK3 hK4 K1)
          | (refine hK2 _ _ ?_; clear hK1 hK2 hK3 hK4 K1)
          | (refine hK3 _ _ _ (by decide) ?_; clear hK1 hK2 hK3 hK4 K1))
        refine L_back [1, 2, 14, 15] [] 3 (T' := F (i + 1)) (σ' := S) next ?_ ?_ ?_ ?_ ?_
        · simp [F, keepT]
        · simp [S, killσ]
        · simp
        · simp [F, TV.under, AV.under, AC.under]
        · simp [S, obUnder, AObj.under, AC.under]
      · simp [F, S]
        repeat (first
          | refine L_seq ?_
          | refine L_skip ?_
          | (refine L_region hb (fun R hR => ?_)
             simp
             refine hR _ _ ?_
             clear hR R)
          | (refine L_true hb rfl ?_)
          | (refine L_false hb rfl ?_)
          | refine L_block (fun K1 hK1 hK2 hK3 hK4 => ?_)
          | refine L_ret ?_
          | refine L_exit ?_
          | refine L_nil ?_
          | (refine hK4 _ _ ?_; clear hK1 hK2 hK3 hK4 K1)
          | (refine hK1 _ _ ?_; clear hK1 hK2 hK3 hK4 K1)
          | (refine hK2 _ _ ?_; clear hK1 hK2 hK3 hK4 K1)
          | (refine hK3 _ _ _ (by decide) ?_; clear hK1 hK2 hK3 hK4 K1))
        have ht : (flatP items).take (items.length * 5) = flatP items := List.take_of_length_le (by simp)
        simp [Ends, Tryz.f116, valA, ht]
theorem copied_convert_g (hb : Base E E0 G) (_he : ∀ w, E w → EnvV w) (x r : Val) (h : cpy x = some r) : Pure E E0 Tryz.prog 116 [.agg (aV x)] (.one (.agg (aV r))) := by
  obtain ⟨hf, rfl⟩ := gd_eq h
  exact copied_ok_convert hb r hf
theorem copied_ok_funcs (hb : Base E E0 G) (x : Val) (hf : x.Fits) : Pure E E0 Tryz.prog 22 [valA x] (.one (valA x)) := by
  induction x using Val.ind with
  | h k n s items keys ih =>
    obtain ⟨_, _, f3, f4, f5, f6, f7⟩ := hf.parts
    simp only [Val.items, Val.keys] at f4 f5 f7
    have hk := cloneK_ok (E := E) (E0 := E0) hb keys.length (keys.map strP) (by omega) (by simp)
    rcases Nat.eq_zero_or_pos items.length with h0 | h0
    · obtain rfl : items = [] := List.eq_nil_of_length_eq_zero h0
      have hv := cloneV_ok (E := E) (E0 := E0) hb 0 [] (by omega) (by simp)
      refine pure_L Tryz.func22 rfl ?_
      simp only [enterT, Tryz.ntmps22, List.map_cons, List.map_nil, List.length_cons, List.length_nil, Nat.reduceAdd, Nat.reduceSub, List.replicate_succ, List.replicate_zero, List.cons_append, List.nil_append]
      repeat (first
        | refine L_seq ?_
        | refine L_skip ?_
        | (refine L_region hb (fun R hR => ?_)
           simp [valA]
           refine hR _ _ ?_
           clear hR R)
        | (refine L_true hb rfl ?_)
        | (refine L_false hb rfl ?_)
        | refine L_block (fun K1 hK1 hK2 hK3 hK4 => ?_)
        | refine L_ret ?_
        | refine L_exit ?_
        | refine L_nil ?_
        | (refine hK4 _ _ ?_; clear hK1 hK2 hK3 hK4 K1)
        | (refine hK1 _ _ ?_; clear hK1 hK2 hK3 hK4 K1)
        | (refine hK2 _ _ ?_; clear hK1 hK2 hK3 hK4 K1)
        | (refine hK3 _ _ _ (by decide) ?_; clear hK1 hK2 hK3 hK4 K1))
      refine L_region hb (fun R hR => ?_)
      simp
      refine ⟨_, .val (by simp) (by simp) hk (by simp), ?_⟩
      simp
      refine hR _ _ ?_
      clear hR R
      refine L_seq ?_
      refine L_region hb (fun R hR => ?_)
      simp
      refine ⟨_, .val (by simp) (by simp) hv (by simp), ?_⟩
      simp
      refine hR _ _ ?_
      clear hR R
      repeat (first
        | refine L_seq ?_
        | refine L_skip ?_
        | (refine L_region hb (fun R hR => ?_)
           simp
           refine hR _ _ ?_
           clear hR R)
        | (refine L_true hb rfl ?_)
        | (refine L_false hb rfl ?_)
        | refine L_block (fun K1 hK1 hK2 hK3 hK4 => ?_)
        | refine L_ret ?_
        | refine L_exit ?_
        | refine L_nil ?_
        | (refine hK4 _ _ ?_; clear hK1 hK2 hK3 hK4 K1)
        | (refine hK1 _ _ ?_; clear hK1 hK2 hK3 hK4 K1)
        | (refine hK2 _ _ ?_; clear hK1 hK2 hK3 hK4 K1)
        | (refine hK3 _ _ _ (by decide) ?_; clear hK1 hK2 hK3 hK4 K1))
      refine L_loop ?_
      repeat (first
        | refine L_seq ?_
        | refine L_skip ?_
        | (refine L_region hb (fun R hR => ?_)
           simp
           refine hR _ _ ?_
           clear hR R)
        | (refine L_true hb rfl ?_)
        | (refine L_false hb rfl ?_)
        | refine L_block (fun K1 hK1 hK2 hK3 hK4 => ?_)
        | refine L_ret ?_
        | refine L_exit ?_
        | refine L_nil ?_
        | (refine hK4 _ _ ?_; clear hK1 hK2 hK3 hK4 K1)
        | (refine hK1 _ _ ?_; clear hK1 hK2 hK3 hK4 K1)
        | (refine hK2 _ _ ?_; clear hK1 hK2 hK3 hK4 K1)
        | (refine hK3 _ _ _ (by decide) ?_; clear hK1 hK2 hK3 hK4 K1))
      simp [Ends, Tryz.f22, valA]
    · have hv := cloneV_own (E := E) (E0 := E0) hb items.length (flatP items)
      refine pure_L Tryz.func22 rfl ?_
      simp only [enterT, Tryz.ntmps22, List.map_cons, List.map_nil, List.length_cons, List.length_nil, Nat.reduceAdd, Nat.reduceSub, List.replicate_succ, List.replicate_zero, List.cons_append, List.nil_append]
      repeat (first
        | refine L_seq ?_
        | refine L_skip ?_
        | (refine L_region hb (fun R hR => ?_)
           simp [valA]
           refine hR _ _ ?_
           clear hR R)
        | (refine L_true hb rfl ?_)
        | (refine L_false hb rfl ?_)
        | refine L_block (fun K1 hK1 hK2 hK3 hK4 => ?_)
        | refine L_ret ?_
        | refine L_exit ?_
        | refine L_nil ?_
        | (refine hK4 _ _ ?_; clear hK1 hK2 hK3 hK4 K1)
        | (refine hK1 _ _ ?_; clear hK1 hK2 hK3 hK4 K1)
        | (refine hK2 _ _ ?_; clear hK1 hK2 hK3 hK4 K1)
        | (refine hK3 _ _ _ (by decide) ?_; clear hK1 hK2 hK3 hK4 K1))
      refine L_region hb (fun R hR => ?_)
      simp
      refine ⟨_, .val (by simp) (by simp) hk (by simp), ?_⟩
      simp
      refine hR _ _ ?_
      clear hR R
      refine L_seq ?_
      refine L_region hb (fun R hR => ?_)
      simp
      refine ⟨_, .adopt (by simp) (by simp) (hv _ (by omega) (by omega) (by simp)), ?_⟩
      simp
      refine hR _ _ ?_
      clear hR R
      repeat (first
        | refine L_seq ?_
        | refine L_skip ?_
        | (refine L_region hb (fun R hR => ?_)
           simp
           refine hR _ _ ?_
           clear hR R)
        | (refine L_true hb rfl ?_)
        | (refine L_false hb rfl ?_)
        | refine L_block (fun K1 hK1 hK2 hK3 hK4 => ?_)
        | refine L_ret ?_
        | refine L_exit ?_
        | refine L_nil ?_
        | (refine hK4 _ _ ?_; clear hK1 hK2 hK3 hK4 K1)
        | (refine hK1 _ _ ?_; clear hK1 hK2 hK3 hK4 K1)
        | (refine hK2 _ _ ?_; clear hK1 hK2 hK3 hK4 K1)
        | (refine hK3 _ _ _ (by decide) ?_; clear hK1 hK2 hK3 hK4 K1))
      let S : Sto := [some (.box [.pv (.sc (.int .i64 k)), .pv (.sc (.int .i64 n)), .pv (.sc (.string s)), .own 2 (items.length * 5) 0 items.length, .pv (.sl false keys.length (keys.map strP))]),
        some (.box [.pv (.sc (.int .i64 0)), .pv (.sc (.int .i64 0)), .pv (.sc (.string noS)), .pv (.sc (.slice none 0 0)), .pv (.sc (.slice none 0 0))]), some (.arr (flatP items) 5 0)]
      let F : Nat → List TV := fun i => slots 30 [(1, .ptr 0 0 0), (2, .ptr 1 0 0), (14, .pv (.sc (.int .i64 items.length))), (15, .pv (.sc (.int .i64 i)))]
      refine L_back [1, 2, 14, 15] [] 3 (T' := F 0) (σ' := S) ?_ (by simp [F, keepT]) (by simp [S, killσ]) (by simp) (by simp [F, TV.under, AV.under, AC.under]) (by simp [S, obUnder, AObj.under, AC.under])
      refine L_iter items.length F (fun _ => S) (fun i hi next => ?_) ?_
      · have h5 : i * 5 + 5 ≤ items.length * 5 := by omega
        have hm := flatP_at_map hi
        have hs := flatP_set hi items[i]
        rw [List.set_getElem_self] at hs
        have hw := wrap_succ (i := i) (by omega)
        have hx := ih _ (List.getElem_mem hi) (f7 _ (List.getElem_mem hi))
        simp [F, S]
        repeat (first
          | refine L_seq ?_
          | refine L_skip ?_
          | (refine L_region hb (fun R hR => ?_)
             simp [hi]
             refine hR _ _ ?_
             clear hR R)
          | (refine L_true hb rfl ?_)
          | (refine L_false hb rfl ?_)
          | refine L_block (fun K1 hK1 hK2 hK3 hK4 => ?_)
          | refine L_ret ?_
          | refine L_exit ?_
          | refine L_nil ?_
          | (refine hK4 _ _ ?_; clear hK1 hK2 hK3 hK4 K1)
          | (refine hK1 _ _ ?_; clear hK1 hK2 hK3 hK4 K1)
          | (refine hK2 _ _ ?_; clear hK1 hK2 hK3 hK4 K1)
          | (refine hK3 _ _ _ (by decide) ?_; clear hK1 hK2 hK3 hK4 K1))
        refine L_draw hb mixed 9 (by simp) (by kernel_rfl) (fun R hR => ?_)
        simp [hi, hm, h5]
        refine ⟨_, .val (by simp [valA]) (by simp) hx (by simp), ?_⟩
        simp [valA, hi, h5, hs]
        refine hR _ _ ?_
        clear hR R
        repeat (first
          | refine L_seq ?_
          | refine L_skip ?_
          | (refine L_region hb (fun R hR => ?_)
             simp [hw]
             refine hR _ _ ?_
             clear hR R)
          | (refine L_true hb rfl ?_)
          | (refine L_false hb rfl ?_)
          | refine L_block (fun K1 hK1 hK2 hK3 hK4 => ?_)
          | refine L_ret ?_
          | refine L_exit ?_
          | refine L_nil ?_
          | (refine hK4 _ _ ?_; clear hK1 hK2 hK3 hK4 K1)
          | (refine hK1 _ _ ?_; clear hK1 hK2 hK3 hK4 K1)
          | (refine hK2 _ _ ?_; clear hK1 hK2 hK3 hK4 K1)
          | (refine hK3 _ _ _ (by decide) ?_; clear hK1 hK2 hK3 hK4 K1))
        refine L_back [1, 2, 14, 15] [] 3 (T' := F (i + 1)) (σ' := S) next ?_ ?_ ?_ ?_ ?_
        · simp [F, keepT]
        · simp [S, killσ]
        · simp
        · simp [F, TV.under, AV.under, AC.under]
        · simp [S, obUnder, AObj.under, AC.under]
      · simp [F, S]
        repeat (first
          | refine L_seq ?_
          | refine L_skip ?_
          | (refine L_region hb (fun R hR => ?_)
             simp
             refine hR _ _ ?_
             clear hR R)
          | (refine L_true hb rfl ?_)
          | (refine L_false hb rfl ?_)
          | refine L_block (fun K1 hK1 hK2 hK3 hK4 => ?_)
          | refine L_ret ?_
          | refine L_exit ?_
          | refine L_nil ?_
          | (refine hK4 _ _ ?_; clear hK1 hK2 hK3 hK4 K1)
          | (refine hK1 _ _ ?_; clear hK1 hK2 hK3 hK4 K1)
          | (refine hK2 _ _ ?_; clear hK1 hK2 hK3 hK4 K1)
          | (refine hK3 _ _ _ (by decide) ?_; clear hK1 hK2 hK3 hK4 K1))
        have ht : (flatP items).take (items.length * 5) = flatP items := List.take_of_length_le (by simp)
        simp [Ends, Tryz.f22, valA, ht]
theorem copied_funcs_g (hb : Base E E0 G) (_he : ∀ w, E w → EnvV w) (x r : Val) (h : cpy x = some r) : Pure E E0 Tryz.prog 22 [.agg (aV x)] (.one (.agg (aV r))) := by
  obtain ⟨hf, rfl⟩ := gd_eq h
  exact copied_ok_funcs hb r hf
end Abs
end Go.Proofs.YtoelojmcopcpcaaGreatDoor
