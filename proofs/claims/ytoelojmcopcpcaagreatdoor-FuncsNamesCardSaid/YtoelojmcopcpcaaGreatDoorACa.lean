/-
  Contracts: value.Bool, Number, String; convert.toBool, toNumber, toString.
-/
import Derived.Test.YtoelojmcopcpcaaGreatDoorAVal
namespace Go.Proofs.YtoelojmcopcpcaaGreatDoor
set_option linter.unusedSimpArgs false
set_option linter.unusedVariables false
namespace Abs
open Go.RowKit
variable {E : World → Prop} {E0 : Nat} {G : Nat → Option (List PV)}
set_option maxRecDepth 100000
set_option maxHeartbeats 1000000
def noS : ByteArray := ⟨#[]⟩
def intA (n : Int) : AV := .cell (.pv (.sc (.int .i64 n)))
def strA (s : ByteArray) : AV := .cell (.pv (.sc (.string s)))
def boolA (b : Bool) : AV := .cell (.pv (.sc (.bool b)))
attribute [simp] intA strA boolA noS
theorem vBool_ok (hb : Base E E0 G) (b : Bool) : Pure E E0 Tryz.prog 42 [boolA b] (.one (valA (.mk 1 (if b then 1 else 0) noS [] []))) := by
  cases b
  all_goals
    refine pure_L Tryz.func42 rfl ?_
    simp only [enterT, Tryz.ntmps42, List.map_cons, List.map_nil, List.length_cons, List.length_nil, Nat.reduceAdd, Nat.reduceSub, List.replicate_succ, List.replicate_zero, List.cons_append, List.nil_append]
    repeat (first
      | refine L_seq ?_
      | refine L_skip ?_
      | (refine L_region hb (fun R hR => ?_)
         simp
         refine hR _ _ ?_
         clear hR R)
      | (refine L_true hb rfl ?_)
      | (refine L_false hb rfl ?_)
      | refine L_block (fun K1 hK1 hK2 hK3 hK4 => ?_)
      | refine L_ret ?_
      | refine L_exit ?_
      | refine L_nil ?_
      | (refine hK4 _ _ ?_; clear hK1 hK2 hK3 hK4 K1)
      | (refine hK1 _ _ ?_; clear hK1 hK2 hK3 hK4 K1)
      | (refine hK2 _ _ ?_; clear hK1 hK2 hK3 hK4 K1)
      | (refine hK3 _ _ _ (by decide) ?_; clear hK1 hK2 hK3 hK4 K1))
    simp [Ends, Tryz.f42, valA]
theorem vNumber_ok (hb : Base E E0 G) (n : Int) : Pure E E0 Tryz.prog 38 [intA n] (.one (valA (.mk 2 n noS [] []))) := by
  refine pure_L Tryz.func38 rfl ?_
  simp only [enterT, Tryz.ntmps38, List.map_cons, List.map_nil, List.length_cons, List.length_nil, Nat.reduceAdd, Nat.reduceSub, List.replicate_succ, List.replicate_zero, List.cons_append, List.nil_append]
  repeat (first
    | refine L_seq ?_
    | refine L_skip ?_
    | (refine L_region hb (fun R hR => ?_)
       simp
       refine hR _ _ ?_
       clear hR R)
    | (refine L_true hb rfl ?_)
    | (refine L_false hb rfl ?_)
    | refine L_block (fun K1 hK1 hK2 hK3 hK4 => ?_)
    | refine L_ret ?_
    | refine L_exit ?_
    | refine L_nil ?_
    | (refine hK4 _ _ ?_; clear hK1 hK2 hK3 hK4 K1)
    | (refine hK1 _ _ ?_; clear hK1 hK2 hK3 hK4 K1)
    | (refine hK2 _ _ ?_; clear hK1 hK2 hK3 hK4 K1)
    | (refine hK3 _ _ _ (by decide) ?_; clear hK1 hK2 hK3 hK4 K1))
  simp [Ends, Tryz.f38, valA]
theorem vString_ok (hb : Base E E0 G) (s : ByteArray) : Pure E E0 Tryz.prog 45 [strA s] (.one (valA (.mk 3 0 s [] []))) := by
  refine pure_L Tryz.func45 rfl ?_
  simp only [enterT, Tryz.ntmps45, List.map_cons, List.map_nil, List.length_cons, List.length_nil, Nat.reduceAdd, Nat.reduceSub, List.replicate_succ, List.replicate_zero, List.cons_append, List.nil_append]
  repeat (first
    | refine L_seq ?_
    | refine L_skip ?_
    | (refine L_region hb (fun R hR => ?_)
       simp
       refine hR _ _ ?_
       clear hR R)
    | (refine L_true hb rfl ?_)
    | (refine L_false hb rfl ?_)
    | refine L_block (fun K1 hK1 hK2 hK3 hK4 => ?_)
    | refine L_ret ?_
    | refine L_exit ?_
    | refine L_nil ?_
    | (refine hK4 _ _ ?_; clear hK1 hK2 hK3 hK4 K1)
    | (refine hK1 _ _ ?_; clear hK1 hK2 hK3 hK4 K1)
    | (refine hK2 _ _ ?_; clear hK1 hK2 hK3 hK4 K1)
    | (refine hK3 _ _ _ (by decide) ?_; clear hK1 hK2 hK3 hK4 K1))
  simp [Ends, Tryz.f45, valA]
def tTrue : ByteArray := ⟨#[116, 114, 117, 101]⟩
def tFalse : ByteArray := ⟨#[102, 97, 108, 115, 101]⟩
/-- The null value, and an error. -/
def bad (e : Int) : Val × Int := (.mk 0 0 noS [] [], e)
def toBoolV (x : Val) : Val × Int := if x.kind = 1 then (x, 0) else if x.kind = 3 ∧ x.str = tTrue then (.mk 1 1 noS [] [], 0) else if x.kind = 3 ∧ x.str = tFalse then (.mk 1 0 noS [] [], 0) else bad 6
theorem toBool_ok (hb : Base E E0 G) (x : Val) : Pure E E0 Tryz.prog 117 [valA x] (.tup [valA (toBoolV x).1, intA (toBoolV x).2]) := by
  obtain ⟨k, n, s, items, keys⟩ := x
  by_cases h1 : k = 1
  · skip
    refine pure_L Tryz.func117 rfl ?_
    simp only [enterT, Tryz.ntmps117, List.map_cons, List.map_nil, List.length_cons, List.length_nil, Nat.reduceAdd, Nat.reduceSub, List.replicate_succ, List.replicate_zero, List.cons_append, List.nil_append]
    repeat (first
      | refine L_seq ?_
      | refine L_skip ?_
      | (refine L_region hb (fun R hR => ?_)
         simp [valA, h1]
         refine hR _ _ ?_
         clear hR R)
      | (refine L_true hb rfl ?_)
      | (refine L_false hb rfl ?_)
      | refine L_block (fun K1 hK1 hK2 hK3 hK4 => ?_)
      | refine L_ret ?_
      | refine L_exit ?_
      | refine L_nil ?_
      | (refine hK4 _ _ ?_; clear hK1 hK2 hK3 hK4 K1)
      | (refine hK1 _ _ ?_; clear hK1 hK2 hK3 hK4 K1)
      | (refine hK2 _ _ ?_; clear hK1 hK2 hK3 hK4 K1)
      | (refine hK3 _ _ _ (by decide) ?_; clear hK1 hK2 hK3 hK4 K1))
    simp [Ends, Tryz.f117, valA, toBoolV, h1]
  by_cases h3 : k = 3
  · by_cases ht : s = tTrue
    · skip
      refine pure_L Tryz.func117 rfl ?_
      simp only [enterT, Tryz.ntmps117, List.map_cons, List.map_nil, List.length_cons, List.length_nil, Nat.reduceAdd, Nat.reduceSub, List.replicate_succ, List.replicate_zero, List.cons_append, List.nil_append]
      repeat (first
        | refine L_seq ?_
        | refine L_skip ?_
        | (refine L_region hb (fun R hR => ?_)
           simp [valA, h1, h3, ht, tTrue]
           refine hR _ _ ?_
           clear hR R)
        | (refine L_true hb rfl ?_)
        | (refine L_false hb rfl ?_)
        | refine L_block (fun K1 hK1 hK2 hK3 hK4 => ?_)
        | refine L_ret ?_
        | refine L_exit ?_
        | refine L_nil ?_
        | (refine hK4 _ _ ?_; clear hK1 hK2 hK3 hK4 K1)
        | (refine hK1 _ _ ?_; clear hK1 hK2 hK3 hK4 K1)
        | (refine hK2 _ _ ?_; clear hK1 hK2 hK3 hK4 K1)
        | (refine hK3 _ _ _ (by decide) ?_; clear hK1 hK2 hK3 hK4 K1))
      refine L_region hb (fun R hR => ?_)
      simp
      refine ⟨_, .val (by simp) (by simp) (vBool_ok hb true) (by simp), ?_⟩
      simp [valA]
      refine hR _ _ ?_
      clear hR R
      repeat (first
        | refine L_seq ?_
        | refine L_skip ?_
        | (refine L_region hb (fun R hR => ?_)
           simp
           refine hR _ _ ?_
           clear hR R)
        | (refine L_true hb rfl ?_)
        | (refine L_false hb rfl ?_)
        | refine L_block (fun K1 hK1 hK2 hK3 hK4 => ?_)
        | refine L_ret ?_
        | refine L_exit ?_
        | refine L_nil ?_
        | (refine hK4 _ _ ?_; clear hK1 hK2 hK3 hK4 K1)
        | (refine hK1 _ _ ?_; clear hK1 hK2 hK3 hK4 K1)
        | (refine hK2 _ _ ?_; clear hK1 hK2 hK3 hK4 K1)
        | (refine hK3 _ _ _ (by decide) ?_; clear hK1 hK2 hK3 hK4 K1))
      simp [Ends, Tryz.f117, valA, toBoolV, h1, h3, ht]
    by_cases hf : s = tFalse
    · have ht' : ¬ s = ⟨#[116, 114, 117, 101]⟩ := ht
      refine pure_L Tryz.func117 rfl ?_
      simp only [enterT, Tryz.ntmps117, List.map_cons, List.map_nil, List.length_cons, List.length_nil, Nat.reduceAdd, Nat.reduceSub, List.replicate_succ, List.replicate_zero, List.cons_append, List.nil_append]
      repeat (first
        | refine L_seq ?_
        | refine L_skip ?_
        | (refine L_region hb (fun R hR => ?_)
           simp [valA, h1, h3, ht', hf, tFalse]
           refine hR _ _ ?_
           clear hR R)
        | (refine L_true hb rfl ?_)
        | (refine L_false hb rfl ?_)
        | refine L_block (fun K1 hK1 hK2 hK3 hK4 => ?_)
        | refine L_ret ?_
        | refine L_exit ?_
        | refine L_nil ?_
        | (refine hK4 _ _ ?_; clear hK1 hK2 hK3 hK4 K1)
        | (refine hK1 _ _ ?_; clear hK1 hK2 hK3 hK4 K1)
        | (refine hK2 _ _ ?_; clear hK1 hK2 hK3 hK4 K1)
        | (refine hK3 _ _ _ (by decide) ?_; clear hK1 hK2 hK3 hK4 K1))
      refine L_region hb (fun R hR => ?_)
      simp
      refine ⟨_, .val (by simp) (by simp) (vBool_ok hb false) (by simp), ?_⟩
      simp [valA]
      refine hR _ _ ?_
      clear hR R
      repeat (first
        | refine L_seq ?_
        | refine L_skip ?_
        | (refine L_region hb (fun R hR => ?_)
           simp
           refine hR _ _ ?_
           clear hR R)
        | (refine L_true hb rfl ?_)
        | (refine L_false hb rfl ?_)
        | refine L_block (fun K1 hK1 hK2 hK3 hK4 => ?_)
        | refine L_ret ?_
        | refine L_exit ?_
        | refine L_nil ?_
        | (refine hK4 _ _ ?_; clear hK1 hK2 hK3 hK4 K1)
        | (refine hK1 _ _ ?_; clear hK1 hK2 hK3 hK4 K1)
        | (refine hK2 _ _ ?_; clear hK1 hK2 hK3 hK4 K1)
        | (refine hK3 _ _ _ (by decide) ?_; clear hK1 hK2 hK3 hK4 K1))
      simp [Ends, Tryz.f117, valA, toBoolV, h1, h3, ht, hf, tFalse, tTrue]
    · have ht' : ¬ s = ⟨#[116, 114, 117, 101]⟩ := ht
      have hf' : ¬ s = ⟨#[102, 97, 108, 115, 101]⟩ := hf
      refine pure_L Tryz.func117 rfl ?_
      simp only [enterT, Tryz.ntmps117, List.map_cons, List.map_nil, List.length_cons, List.length_nil, Nat.reduceAdd, Nat.reduceSub, List.replicate_succ, List.replicate_zero, List.cons_append, List.nil_append]
      repeat (first
        | refine L_seq ?_
        | refine L_skip ?_
        | (refine L_region hb (fun R hR => ?_)
           simp [valA, h1, h3, ht', hf']
           refine hR _ _ ?_
           clear hR R)
        | (refine L_true hb rfl ?_)
        | (refine L_false hb rfl ?_)
        | refine L_block (fun K1 hK1 hK2 hK3 hK4 => ?_)
        | refine L_ret ?_
        | refine L_exit ?_
        | refine L_nil ?_
        | (refine hK4 _ _ ?_; clear hK1 hK2 hK3 hK4 K1)
        | (refine hK1 _ _ ?_; clear hK1 hK2 hK3 hK4 K1)
        | (refine hK2 _ _ ?_; clear hK1 hK2 hK3 hK4 K1)
        | (refine hK3 _ _ _ (by decide) ?_; clear hK1 hK2 hK3 hK4 K1))
      simp [Ends, Tryz.f117, valA, toBoolV, h1, h3, ht, hf, bad]
  · skip
    refine pure_L Tryz.func117 rfl ?_
    simp only [enterT, Tryz.ntmps117, List.map_cons, List.map_nil, List.length_cons, List.length_nil, Nat.reduceAdd, Nat.reduceSub, List.replicate_succ, List.replicate_zero, List.cons_append, List.nil_append]
    repeat (first
      | refine L_seq ?_
      | refine L_skip ?_
      | (refine L_region hb (fun R hR => ?_)
         simp [valA, h1, h3]
         refine hR _ _ ?_
         clear hR R)
      | (refine L_true hb rfl ?_)
      | (refine L_false hb rfl ?_)
      | refine L_block (fun K1 hK1 hK2 hK3 hK4 => ?_)
      | refine L_ret ?_
      | refine L_exit ?_
      | refine L_nil ?_
      | (refine hK4 _ _ ?_; clear hK1 hK2 hK3 hK4 K1)
      | (refine hK1 _ _ ?_; clear hK1 hK2 hK3 hK4 K1)
      | (refine hK2 _ _ ?_; clear hK1 hK2 hK3 hK4 K1)
      | (refine hK3 _ _ _ (by decide) ?_; clear hK1 hK2 hK3 hK4 K1))
    simp [Ends, Tryz.f117, valA, toBoolV, h1, h3, bad]
end Abs
end Go.Proofs.YtoelojmcopcpcaaGreatDoor
