/-
  The machine's rules for maps of one's own.
-/
import Derived.Test.YtagadjpmkggjdaaGreatDoorAbsN
import Derived.Test.YtagadjpmkggjdaaGreatDoorFlA
namespace Go.Proofs.YtagadjpmkggjdaaGreatDoor
set_option linter.unusedVariables false
set_option linter.unusedSimpArgs false
namespace Abs
open Go.RowKit
section
variable {α : Type} (F : Fl α)
def encM (xs : List (ByteArray × α)) : List (ByteArray × List PV) := xs.map fun p => (p.1, F.c p.2)
theorem qin (xs : List (ByteArray × α)) (s : ByteArray) : mget (encM F xs) s = (mget xs s).map F.c := by
 induction xs with
 | nil => rfl
 | cons p r ih =>
  obtain ⟨k, v⟩ := p
  show mget ((k, F.c v) :: encM F r) s = _
  unfold mget
  split
  ·rfl
  ·exact ih
theorem qqx (xs : List (ByteArray × α)) (s : ByteArray) (y : α) : mput (encM F xs) s (F.c y) = encM F (mput xs s y) := by
 induction xs with
 | nil => rfl
 | cons p r ih =>
  obtain ⟨k, v⟩ := p
  show mput ((k, F.c v) :: encM F r) s (F.c y) = _
  unfold mput
  split
  ·rfl
  ·rw [ih]; rfl
def q9c (ag ok : Bool) (y : α) (b : Bool) : TV :=
 match ag with
 | true => bif ok then .tup [.agg ((F.c y).map .pv), .cell (vB b)] else .one (.agg ((F.c y).map .pv))
 | false => match F.c y with
  | [p] => bif ok then .tup [.cell (.pv p), .cell (vB b)] else .one (.cell (.pv p))
  | _ => q18
end
def agv (v : AV) : Bool := match v with | .agg _ => true | .cell _ => false
def qbt (P : Program) (G : Nat → Option (List PV)) (ops : Array Oper) (l : List Oper) (T : List TV) : Option (Nat × ByteArray × Bool × Bool × List PV × Option Tmp) :=
 (hd ops l T).bind fun o => match o.op with
 | .lookup t m k ok => match mapT? P t, q1a (evT G T m), scalar (evT G T k) with
  | some e, some (.mapr id), some (.string s) => match zero? P e with
   | some z => (frzL [] z.cells).map fun zs => (id, s, agv z, ok, zs, o.dst)
   | none => none
  | _, _, _ => none
 | _ => none
def qc3 (P : Program) (G : Nat → Option (List PV)) (ops : Array Oper) (l : List Oper) (T : List TV) (σ : Sto) : Option (Nat × ByteArray × Bool × Bool × List PV × Option Tmp) :=
 (hd ops l T).bind fun o => match o.op with
 | .mapUpdate t m k x => match mapT? P t, q1a (evT G T m), scalar (evT G T k), avOf (evT G T x) with
  | some _, some (.mapr id), some (.string s), some v => (frzL σ v.cells).map fun ps => (id, s, agv v, v.cells.any AC.owns, ps, o.dst)
  | _, _, _, _ => none
 | _ => none
section
variable {E : World → Prop} {E0 : Nat} {P : Program} {G : Nat → Option (List PV)} {m : Nat} {T T' : List TV} {σ σ' : Sto} {K : Ex → List TV → Sto → Prop} {r : List Code}
variable {α : Type} (F : Fl α) {D : Bool} {ops : Array Oper} {l : List Oper} {R : List TV → Sto → Prop}
theorem lookF {id : Nat} {ag ok : Bool} {xs : List (ByteArray × α)} {s : ByteArray} {z : α} {d : Option Tmp} (h : qbt P G ops l T = some (id, s, ag, ok, F.c z, d)) (ho : σ[id]? = some (some (.mp ag (encM F xs)))) (h1 : ag = false → F.sz = 1)
  (k : asqX D E E0 P G ops l.tail (putT T d (q9c F ag ok (q3b xs s z) (mhas xs s))) σ R) : asqX D E E0 P G ops l T σ R := by
 unfold qbt at h
 obtain ⟨o, ho', h⟩ := Option.bind_eq_some_iff.1 h
 split at h
 ·rename_i t m' k' ok' e
  split at h
  ·rename_i e' id' s' q1 q2 q3
   split at h
   ·rename_i z' q4
    obtain ⟨zs, q5, h⟩ := Option.map_eq_some_iff.1 h
    simp only [Prod.mk.injEq] at h
    obtain ⟨rfl, rfl, hag, rfl, hz, rfl⟩ := h
    subst hz
    refine q4y ho' (v := q9c F ag ok' (q3b xs s' z) (mhas xs s')) ?_ k
    rw [e]
    have g1 : q3b (encM F xs) s' (F.c z) = F.c (q3b xs s' z) := by
     unfold q3b
     rw [qin]
     cases mget xs s' <;> rfl
    have g2 : mhas (encM F xs) s' = mhas xs s' := by
     unfold mhas
     rw [qin]
     cases mget xs s' <;> rfl
    simp only [aop, q1, q2, q3, ho, q4, q5, Option.bind_some, g1, g2]
    cases z' with
    | agg cs =>
     simp only [agv] at hag; subst hag
     simp only [mval, q9c]
     cases ok' <;> rfl
    | cell c =>
     simp only [agv] at hag; subst hag
     have hl := F.len (q3b xs s' z)
     rw [h1 rfl] at hl
     match hc : F.c (q3b xs s' z), hl with
     | [p], _ =>
      simp only [mval, q9c, hc]
      cases ok' <;> rfl
   ·cases h
  ·cases h
 ·cases h
theorem mputF {id : Nat} {ag : Bool} {xs : List (ByteArray × α)} {s : ByteArray} {y : α} {d : Option Tmp} (h : qc3 P G ops l T σ = some (id, s, ag, false, F.c y, d)) (ho : σ[id]? = some (some (.mp ag (encM F xs))))
  (k : asqX false E E0 P G ops l.tail (putT T d q18) (σ.set id (some (.mp ag (encM F (mput xs s y))))) R) : asqX false E E0 P G ops l T σ R := by
 unfold qc3 at h
 obtain ⟨o, ho', h⟩ := Option.bind_eq_some_iff.1 h
 split at h
 ·rename_i t m' k' x' e
  split at h
  ·rename_i e' id' s' v q1 q2 q3 q4
   obtain ⟨ps, q5, h⟩ := Option.map_eq_some_iff.1 h
   simp only [Prod.mk.injEq] at h
   obtain ⟨rfl, rfl, hag, how, hz, rfl⟩ := h
   subst hz
   rw [← qqx] at k
   refine qbe ho' ?_ k
   rw [e]
   simp only [aop, q1, q2, q3, q4, ho, q5]
   cases v with
   | agg cs => simp only [agv] at hag; subst hag; simp only [how, if_true]
   | cell c => simp only [agv] at hag; subst hag; simp only [how, if_true]
  ·cases h
 ·cases h
end
variable {E : World → Prop} {E0 : Nat} {P : Program} {G : Nat → Option (List PV)} {m : Nat} {K : Ex → List TV → Sto → Prop} {s : MS}
section
variable {α : Type} (F : Fl α)
def qkm (P : Program) (G : Nat → Option (List PV)) (_ : Bool) (ops : Array Oper) (l : List Oper) (T : List TV) (_ : Sto) : Option (Nat × ByteArray × Bool × Bool × List PV) :=
 match qbt P G ops l T with
 | some (a, b, c, d, e, _) => some (a, b, c, d, e)
 | none => none
def ql0 (P : Program) (G : Nat → Option (List PV)) (D : Bool) (ops : Array Oper) (l : List Oper) (T : List TV) (σ : Sto) : Option (Bool × Nat × ByteArray × Bool × Bool × List PV) :=
 match qc3 P G ops l T σ with
 | some (a, b, c, d, e, _) => some (D, a, b, c, d, e)
 | none => none
theorem lookE (hb : Base E E0 G) (n id : Nat) (ag ok : Bool) (xs : List (ByteArray × α)) (k0 : ByteArray) (z : α) (k : J E E0 P G m K (mPut (adv P G n s) (q9c F ag ok (q3b xs k0 z) (mhas xs k0))))
  (h : mPre (qkm P G) (adv P G n s) = some (id, k0, ag, ok, F.c z) := by kernel_rfl) (ho : (adv P G n s).σ[id]? = some (some (.mp ag (encM F xs))) := by kernel_rfl) (h1 : ag = false → F.sz = 1 := by first | exact fun h => (by cases h) | exact fun _ => rfl) : J E E0 P G m K s := by
 obtain ⟨D, ops, l, l2, hr, h⟩ := q2m h
 unfold qkm at h
 split at h
 ·rename_i a b c d e f hc
  simp only [Option.some.injEq, Prod.mk.injEq] at h
  obtain ⟨rfl, rfl, rfl, rfl, rfl⟩ := h
  obtain ⟨o, g1, rfl⟩ : ∃ o, hd ops l (adv P G n s).T = some o ∧ f = o.dst := by
   have h' := hc; unfold qbt at h'
   obtain ⟨o, ho, h'⟩ := Option.bind_eq_some_iff.1 h'
   refine ⟨o, ho, ?_⟩
   split at h'
   ·split at h'
    ·split at h'
     ·obtain ⟨zs, _, h'⟩ := Option.map_eq_some_iff.1 h'
      simp only [Prod.mk.injEq] at h'
      exact h'.2.2.2.2.2.symm
     ·cases h'
    ·cases h'
   ·cases h'
  exact q2n hb n hr g1 (fun R => lookF F hc ho h1) k
 ·cases h
theorem mputE (hb : Base E E0 G) (n id : Nat) (ag : Bool) (xs : List (ByteArray × α)) (k0 : ByteArray) (y : α) (k : J E E0 P G m K (mSto (adv P G n s) q18 ((adv P G n s).σ.set id (some (.mp ag (encM F (mput xs k0 y)))))))
  (h : mPre (ql0 P G) (adv P G n s) = some (false, id, k0, ag, false, F.c y) := by kernel_rfl) (ho : (adv P G n s).σ[id]? = some (some (.mp ag (encM F xs))) := by kernel_rfl) : J E E0 P G m K s := by
 obtain ⟨D, ops, l, l2, hr, h⟩ := q2m h
 unfold ql0 at h
 split at h
 ·rename_i a b c d e f hc
  simp only [Option.some.injEq, Prod.mk.injEq] at h
  obtain ⟨rfl, rfl, rfl, rfl, rfl, rfl⟩ := h
  obtain ⟨o, g1, rfl⟩ : ∃ o, hd ops l (adv P G n s).T = some o ∧ f = o.dst := by
   have h' := hc; unfold qc3 at h'
   obtain ⟨o, ho, h'⟩ := Option.bind_eq_some_iff.1 h'
   refine ⟨o, ho, ?_⟩
   split at h'
   ·split at h'
    ·obtain ⟨zs, _, h'⟩ := Option.map_eq_some_iff.1 h'
     simp only [Prod.mk.injEq] at h'
     exact h'.2.2.2.2.2.symm
    ·cases h'
   ·cases h'
  exact q2n hb n hr g1 (fun R => mputF F hc ho) k
 ·cases h
end
section
variable {ρ : Type} {x : ρ}
end
def flok1 (P : Program) (G : Nat → Option (List PV)) (ops : Array Oper) (T : List TV) (k : Nat) : Bool :=
 match ops[k]? with
 | none => true
 | some o => match q1d ops T o with
  | some false => true
  | some true => match aop P (evT G T) [] o.op with
   | some (.val _) => true
   | _ => false
  | none => false
def remAt (G : Nat → Option (List PV)) (ops : Array Oper) (T : List TV) (k : Nat) : Option (IntKind × Int × Int) :=
 match ops[k]? with
 | some o => match q1d ops T o with
  | some true => match o.op with
   | .binOp .rem _ x y _ => match evT G T x, evT G T y with
    | .one (.cell (.pv (.sc (.int kd a)))), .one (.cell (.pv (.sc (.int kd' b)))) => bif (match kd, kd' with | .i64, .i64 => true | _, _ => false) then some (kd, a, b) else none
    | _, _ => none
   | _ => none
  | _ => none
 | none => none
theorem qrt {ops : Array Oper} {T : List TV} {k : Nat} {a b y : Int} (h : remAt G ops T k = some (.i64, a, b)) (hb : rem b a = some y) : flok1 P G ops T k = true := by
 have hb0 : b ≠ 0 := by
  intro e; subst e
  unfold rem at hb
  simp at hb
 unfold remAt at h
 unfold flok1
 split at h
 ·rename_i o ho
  simp only [ho]
  split at h
  ·rename_i hw
   simp only [hw]
   split at h
   ·rename_i t x y' t' e
    split at h
    ·rename_i kd a' kd' b' h1 h2
     cases kd <;> cases kd' <;> simp at h
     obtain ⟨rfl, rfl⟩ := h
     simp only [e, aop, h1, h2, q1a, q5b, q5w, q6h]
     have hu : q4e P [] .rem t (.pv (.sc (.int .i64 a'))) (.pv (.sc (.int .i64 b'))) = false := by
      unfold q4e
      simp
     simp [hu, hb0]
    ·cases h
   ·cases h
  ·cases h
 ·cases h
def qb7 (P : Program) (G : Nat → Option (List PV)) (ops : Array Oper) (T : List TV) (fl : List Nat) : Prop := ∀ k ∈ fl, flok1 P G ops T k = true
theorem qrs {ops : Array Oper} {T : List TV} : qb7 P G ops T [] := fun _ h => absurd h List.not_mem_nil
theorem q8z {ops : Array Oper} {T : List TV} {k : Nat} {r : List Nat} (h : flok1 P G ops T k = true) (hr : qb7 P G ops T r) : qb7 P G ops T (k :: r) := fun j hj => by
 rcases List.mem_cons.1 hj with rfl | hj
 ·exact h
 ·exact hr j hj
def opsOfS (t : MS) : Array Oper := match t.reg with | some (_, ops, _, _) => ops | none => #[]
def flOfS (t : MS) : Option (List Nat) := match t.reg with | some (true, _, [], l2) => some l2.2 | _ => none
def unDr (t : MS) : MS := match t.reg with | some (_, ops, _, l2) => { t with reg := some (false, ops, l2.1, [], []) } | none => t
theorem flokE (hb : Base E E0 G) (n : Nat) (fl : List Nat) (h : qb7 P G (opsOfS (adv P G n s)) (adv P G n s).T fl) (k : J E E0 P G m K (unDr (adv P G n s))) (hf : flOfS (adv P G n s) = some fl := by kernel_rfl) : J E E0 P G m K s := by
 refine q3e hb n ?_
 generalize adv P G n s = t at *
 obtain ⟨reg, c, ctx, T, σ⟩ := t
 unfold flOfS at hf
 split at hf
 ·rename_i x ops l2 e
  simp only at e; subst e
  simp only [Option.some.injEq] at hf
  subst hf
  refine qmr hb (s' := ⟨some (false, ops, l2.1, [], []), c, ctx, T, σ⟩) ?_ k
  unfold st1
  have : q7n P G l2.2 ops T = true := by
   unfold q7n
   rw [List.all_eq_true]
   intro j hj
   exact h j hj
  simp only [this, cond_true]
 ·cases hf
end Abs
end Go.Proofs.YtagadjpmkggjdaaGreatDoor
