/-
  The machine's rules for arrays of one's own, cells in other words, loops.
-/
import Derived.Test.YtkffpfapfljinaaGreatDoorAbsM
namespace Go.Proofs.YtkffpfapfljinaaGreatDoor
set_option linter.unusedVariables false
set_option linter.unusedSimpArgs false
namespace Abs
open Go.RowKit
variable {E : World → Prop} {E0 : Nat} {P : Program} {G : Nat → Option (List PV)} {m : Nat} {K : Ex → List TV → Sto → Prop} {s : MS}
section
variable {ρ : Type} {x : ρ} {α : Type} (F : Fl α)
def qcd (P : Program) (G : Nat → Option (List PV)) (D : Bool) (ops : Array Oper) (l : List Oper) (T : List TV) (σ : Sto) : Option (Bool × AC × Nat × List PV × Nat × Nat) :=
 match q7z P G ops l T with
 | some (b, c, sz, by_, _) => match q4b σ c with
  | some (n, cs) => some (D, b, n, cs, sz, by_)
  | none => none
 | none => none
theorem app2 {D D' : Bool} {ops : Array Oper} {l : List Oper} {T : List TV} {σ : Sto} {b : AC} {n sz by_ : Nat} {cs : List PV} (h : qcd P G D ops l T σ = some (D', b, n, cs, sz, by_)) : D' = D ∧ ∃ o c, hd ops l T = some o ∧ q7z P G ops l T = some (b, c, sz, by_, o.dst) ∧ q4b σ c = some (n, cs) := by
 unfold qcd at h
 split at h
 ·rename_i b' c sz' by' d hc
  split at h
  ·rename_i n' cs' hs
   simp at h
   obtain ⟨rfl, rfl, rfl, rfl, rfl, rfl⟩ := h
   obtain ⟨o, t, e, z, x, y, h1, h2, _⟩ := qgm (σ := σ) hc
   subst h2
   exact ⟨rfl, o, c, h1, hc, hs⟩
  ·cases h
 ·cases h
theorem qg (hb : Base E E0 G) (n id : Nat) (nb : Bool) (fr : Nat) {xs ys : List α} {cs : List PV} (hcs : F.f ys = cs) {by_ : Nat} {kk : List α → Option ρ} (hq : (app by_ xs ys).bind kk = some x)
  (k : ∀ zs, app by_ xs ys = some zs → kk zs = some x → J E E0 P G m K (mSto (adv P G n s) (c1 (vO F id zs)) ((adv P G n s).σ.set id (some (arO nb F.sz fr (F.f zs))))))
  (hfr : fr ≤ (F.f xs).length := by first | exact Nat.zero_le _ | exact Nat.le_refl _)
  (h : mPre (qcd P G) (adv P G n s) = some (false, vO F id xs, ys.length, cs, F.sz, by_) := by kernel_rfl)
  (ho : (adv P G n s).σ[id]? = some (some (arO nb F.sz fr (F.f xs))) := by kernel_rfl) : J E E0 P G m K s := by
 subst hcs
 obtain ⟨y, hy, hk⟩ := Option.bind_eq_some_iff.1 hq
 obtain ⟨D, ops, l, l2, hr, h⟩ := q2r h
 obtain ⟨rfl, o, c, h1, h2, h3⟩ := app2 h
 exact q2n hb n hr h1 (fun R => qmz F hy h2 h3 ho hfr) (k y hy hk)
def qjg (P : Program) (G : Nat → Option (List PV)) (_ : Bool) (ops : Array Oper) (l : List Oper) (T : List TV) (_ : Sto) : Option AC :=
 match qay P G ops l T with
 | some (c, _) => some c
 | none => none
theorem q5z (hb : Base E E0 G) (n id : Nat) (nb : Bool) (fr : Nat) (xs : List α) (k : J E E0 P G m K (mPut (adv P G n s) (c1 (vi (xs.length : Int)))))
  (h : mPre (qjg P G) (adv P G n s) = some (vO F id xs) := by kernel_rfl)
  (ho : (adv P G n s).σ[id]? = some (some (arO nb F.sz fr (F.f xs))) := by kernel_rfl) : J E E0 P G m K s := by
 obtain ⟨D, ops, l, l2, hr, h⟩ := q2r h
 unfold qjg at h
 split at h
 ·rename_i c d hc
  simp at h; subst h
  obtain ⟨o, h1, rfl⟩ : ∃ o, hd ops l (adv P G n s).T = some o ∧ d = o.dst := by
   have h' := hc; unfold qay at h'
   obtain ⟨o, ho, h'⟩ := Option.bind_eq_some_iff.1 h'
   refine ⟨o, ho, ?_⟩
   split at h'
   ·split at h'
    ·split at h'
     ·simp at h'; exact h'.2.symm
     ·cases h'
    ·cases h'
   ·cases h'
  exact q2n hb n hr h1 (fun R => qqp F hc ho) k
 ·cases h
def qb6 (P : Program) (G : Nat → Option (List PV)) (_ : Bool) (ops : Array Oper) (l : List Oper) (T : List TV) (_ : Sto) : Option (Int × Int × List AC × Nat × Nat) :=
 match q7a P G ops l T with
 | some (n, c, zs, sz, by_, _) => some (n, c, zs, sz, by_)
 | none => none
theorem make2 {D : Bool} {ops : Array Oper} {l : List Oper} {T : List TV} {σ : Sto} {n c : Int} {zs : List AC} {sz by_ : Nat} (h : qb6 P G D ops l T σ = some (n, c, zs, sz, by_)) : ∃ o, hd ops l T = some o ∧ q7a P G ops l T = some (n, c, zs, sz, by_, o.dst) := by
 unfold qb6 at h
 split at h
 ·rename_i n' c' zs' sz' by' d hc
  simp at h
  obtain ⟨rfl, rfl, rfl, rfl, rfl⟩ := h
  obtain ⟨o, t, e, z, x, y, h1, h2, _⟩ := qeb (σ := σ) hc
  subst h2
  exact ⟨o, h1, hc⟩
 ·cases h
theorem mkE (hb : Base E E0 G) (n : Nat) {z : α} {i : Int} {by_ : Nat} {kk : List α → Option ρ} (hq : (mkl by_ i z).bind kk = some x)
  (k : ∀ zs, mkl by_ i z = some zs → kk zs = some x → J E E0 P G m K (mSto (adv P G n s) (c1 (vO F (adv P G n s).σ.length zs)) ((adv P G n s).σ ++ [some (arO false F.sz 0 (F.f zs))])))
  (h : mPre (qb6 P G) (adv P G n s) = some (i, i, (F.c z).map AC.pv, F.sz, by_) := by kernel_rfl) : J E E0 P G m K s := by
 obtain ⟨y, hy, hk⟩ := Option.bind_eq_some_iff.1 hq
 obtain ⟨D, ops, l, l2, hr, h⟩ := q2r h
 obtain ⟨o, h1, h2⟩ := make2 h
 exact q2n hb n hr h1 (fun R => mkF F hy h2) (k y hy hk)
theorem mk0E (hb : Base E E0 G) (n : Nat) {i : Int} {by_ : Nat} {kk : Unit → Option ρ} (hq : (mkc by_ i).bind kk = some x)
  (k : ∀ u, mkc by_ i = some u → kk u = some x → J E E0 P G m K (mSto (adv P G n s) (c1 (vO F (adv P G n s).σ.length [])) ((adv P G n s).σ ++ [some (arO false F.sz 0 (F.f []))])))
  (h : (mPre (qb6 P G) (adv P G n s)).map (fun q => (q.1, q.2.1, q.2.2.2.1, q.2.2.2.2)) = some (0, i, F.sz, by_) := by kernel_rfl) : J E E0 P G m K s := by
 obtain ⟨y, hy, hk⟩ := Option.bind_eq_some_iff.1 hq
 obtain ⟨⟨q1, q2, q3, q4, q5⟩, hA, e⟩ := Option.map_eq_some_iff.1 h
 simp at e; obtain ⟨rfl, rfl, rfl, rfl⟩ := e
 obtain ⟨D, ops, l, l2, hr, hB⟩ := q2r hA
 obtain ⟨o, h1, h2⟩ := make2 hB
 exact q2n hb n hr h1 (fun R => mk0F F hy h2) (k y hy hk)
def qir (P : Program) (G : Nat → Option (List PV)) (_ : Bool) (ops : Array Oper) (l : List Oper) (T : List TV) (_ : Sto) : Option (AC × Nat × Int) :=
 match qao P G ops l T with
 | some (c, sz, i, _) => some (c, sz, i)
 | none => none
theorem q46 (hb : Base E E0 G) (n id : Nat) (nb : Bool) (fr : Nat) {xs : List α} {i : Int} {kk : α → Option ρ} (hq : (idx xs i).bind kk = some x)
  (k : ∀ y, idx xs i = some y → kk y = some x → J E E0 P G m K (mPut (adv P G n s) (c1 (.ptr id (F.f xs).length (i.toNat * F.sz)))))
  (h : mPre (qir P G) (adv P G n s) = some (vO F id xs, F.sz, i) := by kernel_rfl)
  (ho : (adv P G n s).σ[id]? = some (some (arO nb F.sz fr (F.f xs))) := by kernel_rfl) : J E E0 P G m K s := by
 obtain ⟨y, hy, hk⟩ := Option.bind_eq_some_iff.1 hq
 obtain ⟨D, ops, l, l2, hr, h⟩ := q2r h
 unfold qir at h
 split at h
 ·rename_i c sz i' d hc
  simp at h; obtain ⟨rfl, rfl, rfl⟩ := h
  obtain ⟨o, h1, rfl⟩ : ∃ o, hd ops l (adv P G n s).T = some o ∧ d = o.dst := by
   have h' := hc; unfold qao at h'
   obtain ⟨o, ho, h'⟩ := Option.bind_eq_some_iff.1 h'
   refine ⟨o, ho, ?_⟩
   split at h'
   ·split at h'
    ·simp at h'; exact h'.2.2.2.symm
    ·cases h'
   ·cases h'
  exact q2n hb n hr h1 (fun R => qpq F hy hc ho) (k y hy hk)
 ·cases h
def qb1 (P : Program) (G : Nat → Option (List PV)) (_ : Bool) (ops : Array Oper) (l : List Oper) (T : List TV) (_ : Sto) : Option (AC × Nat × Bool) :=
 match q61 P G ops l T with
 | some (c, n, ag, _) => some (c, n, ag)
 | none => none
theorem load2 {D : Bool} {ops : Array Oper} {l : List Oper} {T : List TV} {σ : Sto} {c : AC} {n : Nat} {ag : Bool} (h : qb1 P G D ops l T σ = some (c, n, ag)) : ∃ o, hd ops l T = some o ∧ q61 P G ops l T = some (c, n, ag, o.dst) := by
 unfold qb1 at h
 split at h
 ·rename_i c' n' ag' d hc
  simp at h; obtain ⟨rfl, rfl, rfl⟩ := h
  have h' := hc; unfold q61 at h'
  obtain ⟨o, ho, h'⟩ := Option.bind_eq_some_iff.1 h'
  refine ⟨o, ho, ?_⟩
  split at h'
  ·split at h'
   ·simp at h'; rw [hc, h'.2.2.2]
   ·cases h'
  ·cases h'
 ·cases h
theorem qjm (hb : Base E E0 G) (n id : Nat) (nb : Bool) (fr : Nat) {xs : List α} {i : Int} {y : α} (hx : idx xs i = some y) (k : J E E0 P G m K (mPut (adv P G n s) (.one (.agg ((F.c y).map .pv)))))
  (h : mPre (qb1 P G) (adv P G n s) = some (.ptr id (F.f xs).length (i.toNat * F.sz), F.sz, true) := by kernel_rfl)
  (ho : (adv P G n s).σ[id]? = some (some (arO nb F.sz fr (F.f xs))) := by kernel_rfl) : J E E0 P G m K s := by
 obtain ⟨D, ops, l, l2, hr, h⟩ := q2r h
 obtain ⟨o, h1, h2⟩ := load2 h
 exact q2n hb n hr h1 (fun R => qqt F hx h2 ho) k
theorem qdz (hb : Base E E0 G) (n id : Nat) (nb : Bool) (fr : Nat) {xs : List α} {i : Int} {y : α} (hx : idx xs i = some y) {p : PV} (hp : F.c y = [p]) (k : J E E0 P G m K (mPut (adv P G n s) (c1 (.pv p))))
  (h : mPre (qb1 P G) (adv P G n s) = some (.ptr id (F.f xs).length (i.toNat * F.sz), F.sz, false) := by kernel_rfl)
  (ho : (adv P G n s).σ[id]? = some (some (arO nb F.sz fr (F.f xs))) := by kernel_rfl) : J E E0 P G m K s := by
 obtain ⟨D, ops, l, l2, hr, h⟩ := q2r h
 obtain ⟨o, h1, h2⟩ := load2 h
 exact q2n hb n hr h1 (fun R => qqs F hx hp h2 ho) k
def qfh (P : Program) (G : Nat → Option (List PV)) (D : Bool) (ops : Array Oper) (l : List Oper) (T : List TV) (σ : Sto) : Option (Bool × AC × Bool × Bool × Option (List PV) × Nat) :=
 match qbq P G ops l T with
 | some (c, cs, n, _) => some (D, c, cs.all AC.ok, cs.any AC.owns, frzL σ cs, n)
 | none => none
theorem qfj (hb : Base E E0 G) (n id : Nat) {xs : List α} {i : Int} {y : α} (hx : idx xs i = some y) (z : α) (k : J E E0 P G m K (mSto (adv P G n s) q1d ((adv P G n s).σ.set id (some (arO false F.sz 0 (F.f (upd xs i z)))))))
  (h : mPre (qfh P G) (adv P G n s) = some (false, .ptr id (F.f xs).length (i.toNat * F.sz), true, false, some (F.c z), F.sz) := by kernel_rfl)
  (ho : (adv P G n s).σ[id]? = some (some (arO false F.sz 0 (F.f xs))) := by kernel_rfl) : J E E0 P G m K s := by
 obtain ⟨D, ops, l, l2, hr, h⟩ := q2r h
 unfold qfh at h
 split at h
 ·rename_i c cs n' d hc
  simp only [Option.some.injEq, Prod.mk.injEq] at h
  obtain ⟨rfl, rfl, h3, h4, h5, rfl⟩ := h
  obtain ⟨o, h1, rfl⟩ : ∃ o, hd ops l (adv P G n s).T = some o ∧ d = o.dst := by
   have h' := hc; unfold qbq at h'
   obtain ⟨o, ho, h'⟩ := Option.bind_eq_some_iff.1 h'
   refine ⟨o, ho, ?_⟩
   split at h'
   ·split at h'
    ·simp only [Option.some.injEq, Prod.mk.injEq] at h'; exact h'.2.2.2.symm
    ·cases h'
   ·cases h'
  exact q2n hb n hr h1 (fun R => qv0 F hx hc ho h3 h4 h5) k
 ·cases h
end
section
variable {ρ : Type} {β : Type} {e : Option β} {kk : β → Option ρ} {x : ρ}
def q5r (P : Program) (G : Nat → Option (List PV)) (D : Bool) (ops : Array Oper) (l : List Oper) (T : List TV) (_ : Sto) : Option (Bool × FuncId × List AV) :=
 match q5q P G ops l T with
 | some (g, ws, _) => some (D, g, ws)
 | none => none
theorem qa1 {D D' : Bool} {ops : Array Oper} {l : List Oper} {T : List TV} {σ : Sto} {g : FuncId} {ws : List AV} (h : q5r P G D ops l T σ = some (D', g, ws)) : D' = D ∧ ∃ o, hd ops l T = some o ∧ q5q P G ops l T = some (g, ws, o.dst) := by
 unfold q5r at h
 split at h
 ·rename_i g' ws' d hc
  simp at h; obtain ⟨rfl, rfl, rfl⟩ := h
  refine ⟨rfl, ?_⟩
  have h' := hc; unfold q5q at h'
  obtain ⟨o, ho, h'⟩ := Option.bind_eq_some_iff.1 h'
  refine ⟨o, ho, ?_⟩
  split at h'
  ·split at h'
   ·rename_i g0 caps vs h1 h2
    cases hb : enters P g0 with
    | false => rw [hb] at h'; cases h'
    | true => rw [hb] at h'; simp at h'; rw [hc, h'.2.2]
   ·cases h'
  ·cases h'
 ·cases h
theorem q6v (hb : Base E E0 G) (n : Nat) {g : FuncId} {ws : List AV} {σ0 σ1 : Sto} {enc : β → TV} (hq : e.bind kk = some x) (hp : ∀ y, e = some y → Ok E E0 P g ws σ0 (enc y) σ1) (k : ∀ y, e = some y → kk y = some x → J E E0 P G m K (mSto (adv P G n s) (enc y) σ1))
  (h : mPre (q5r P G) (adv P G n s) = some (false, g, ws) := by kernel_rfl) (hσ : (adv P G n s).σ = σ0 := by kernel_rfl) : J E E0 P G m K s := by
 obtain ⟨y, hy, hk⟩ := Option.bind_eq_some_iff.1 hq
 obtain ⟨D, ops, l, l2, hr, h⟩ := q2r h
 obtain ⟨rfl, o, h1, h2⟩ := qa1 h
 subst hσ
 exact q2n hb n hr h1 (fun R => qh0 h2 (hp y hy)) (k y hy hk)
theorem callME (hb : Base E E0 G) (n : Nat) {g : FuncId} {vs ws : List AV} {enc : β → TV} (hq : e.bind kk = some x) (hf : q1g (adv P G n s).σ vs = some ws) (hm : q1t (adv P G n s).σ vs = (adv P G n s).σ) (hp : ∀ y, e = some y → Pure E E0 P g ws (enc y)) (k : ∀ y, e = some y → kk y = some x → J E E0 P G m K (mPut (adv P G n s) (enc y)))
  (h : mPre (q5r P G) (adv P G n s) = some (false, g, vs) := by kernel_rfl) : J E E0 P G m K s := by
 obtain ⟨y, hy, hk⟩ := Option.bind_eq_some_iff.1 hq
 obtain ⟨D, ops, l, l2, hr, h⟩ := q2r h
 obtain ⟨rfl, o, h1, h2⟩ := qa1 h
 exact q2n hb n hr h1 (fun R => callMF h2 hf hm (hp y hy)) (k y hy hk)
theorem callVE (hb : Base E E0 G) (n : Nat) {g : FuncId} {vs ws : List AV} {enc : β → TV} (hq : e.bind kk = some x) (hf : q1g (adv P G n s).σ vs = some ws) (hc : ∀ y, (enc y).flat = true) (hp : ∀ y, e = some y → Pure E E0 P g ws (enc y)) (k : ∀ y, e = some y → kk y = some x → J E E0 P G m K (mPut (adv P G n s) (enc y)))
  (h : mPre (q5r P G) (adv P G n s) = some (false, g, vs) := by kernel_rfl) : J E E0 P G m K s := by
 obtain ⟨y, hy, hk⟩ := Option.bind_eq_some_iff.1 hq
 obtain ⟨D, ops, l, l2, hr, h⟩ := q2r h
 obtain ⟨rfl, o, h1, h2⟩ := qa1 h
 exact q2n hb n hr h1 (fun R k => qcl (eff := .val (enc y)) h2 (fun he => .val hf he (hp y hy) (.inl (hc y))) k) (k y hy hk)
end
def q3j (t : MS) : Bool :=
 match t.reg with
 | none => match t.c with | [] => false | _ :: _ => true
 | some _ => false
theorem q52 (hb : Base E E0 G) (n : Nat) {T' : List TV} {σ' : Sto} (hk : q3j (adv P G n s) = true) (f : ∀ d r, awpL E E0 P m (d :: r) T' σ' (KJ E E0 P m K (adv P G n s).ctx) → awpL E E0 P m (d :: r) (adv P G n s).T (adv P G n s).σ (KJ E E0 P m K (adv P G n s).ctx))
  (k : J E E0 P G m K ⟨none, (adv P G n s).c, (adv P G n s).ctx, T', σ'⟩) : J E E0 P G m K s := by
 refine q3g hb n ?_
 generalize adv P G n s = t at *
 obtain ⟨reg, c, ctx, T, σ⟩ := t
 unfold q3j at hk
 split at hk
 ·rename_i e; simp only at e; subst e
  split at hk
  ·cases hk
  ·rename_i d r e; simp only at e; subst e
   exact f d r k
 ·cases hk
def mFrm (t : MS) (T' : List TV) (σ' : Sto) : MS := ⟨none, t.c, t.ctx, T', σ'⟩
theorem q54 (hb : Base E E0 G) (n i : Nat) {c c' : AC} (hc : Conv E E0 (adv P G n s).σ c c') (k : J E E0 P G m K (mFrm (adv P G n s) ((adv P G n s).T.set i (c1 c')) (adv P G n s).σ))
  (hi : (adv P G n s).T[i]? = some (c1 c) := by kernel_rfl) (hk : q3j (adv P G n s) = true := by kernel_rfl) : J E E0 P G m K s :=
 q52 hb n hk (fun d r h => qmh i hi hc h) k
theorem qn (hb : Base E E0 G) (n b j : Nat) {cs : List AC} {c c' : AC} (hc : Conv E E0 (adv P G n s).σ c c') (hs : (adv P G n s).σ[b]? = some (some (.box cs))) (k : J E E0 P G m K (mFrm (adv P G n s) (adv P G n s).T ((adv P G n s).σ.set b (some (.box (cs.set j c'))))))
  (hj : cs[j]? = some c := by kernel_rfl) (hk : q3j (adv P G n s) = true := by kernel_rfl) : J E E0 P G m K s :=
 q52 hb n hk (fun d r h => qmi b j hs hj hc h) k
theorem qq (hb : Base E E0 G) (n id : Nat) (nb : Bool) {sz fr : Nat} {cs : List PV} (ho : (adv P G n s).σ[id]? = some (some (arO nb sz fr cs))) (hfr : fr ≤ cs.length) (k : J E E0 P G m K (mFrm (adv P G n s) (adv P G n s).T ((adv P G n s).σ.set id (some (arO nb sz cs.length cs)))))
  (hk : q3j (adv P G n s) = true := by kernel_rfl) : J E E0 P G m K s :=
 q52 hb n hk (fun d r h => L_mark id ho hfr h) k
theorem q4s (hb : Base E E0 G) (n i sz : Nat) (k : J E E0 P G m K (mFrm (adv P G n s) ((adv P G n s).T.set i (c1 (.own (adv P G n s).σ.length 0 0 0))) ((adv P G n s).σ ++ [some (.nilarr sz)])))
  (hi : (adv P G n s).T[i]? = some (c1 vN) := by kernel_rfl) (hk : q3j (adv P G n s) = true := by kernel_rfl) : J E E0 P G m K s :=
 q52 hb n hk (fun d r h => L_ownT i sz hi rfl rfl h) k
theorem q17 (hb : Base E E0 G) (n b j sz : Nat) {cs : List AC} (hs : (adv P G n s).σ[b]? = some (some (.box cs))) (k : J E E0 P G m K (mFrm (adv P G n s) (adv P G n s).T ((adv P G n s).σ.set b (some (.box (cs.set j (.own (adv P G n s).σ.length 0 0 0)))) ++ [some (.nilarr sz)])))
  (hj : cs[j]? = some vN := by kernel_rfl) (hk : q3j (adv P G n s) = true := by kernel_rfl) : J E E0 P G m K s :=
 q52 hb n hk (fun d r h => L_ownσ b j sz hs hj rfl h) k
theorem L_frz (i id : Nat) {T : List TV} {σ : Sto} {r : List Code} {ps : List PV} {c : Code} (hT : T[i]? = some (c1 (.ptr id 0 0))) (hσ : σ[id]? = some (some (.box (ps.map .pv)))) (h : awpL E E0 P m (c :: r) (T.set i (c1 (.pv (.pp ps)))) (killσ [id] σ) K) : awpL E E0 P m (c :: r) T σ K := by
 intro X w a h1 h2 h3 h4 h5
 subst h1
 have := h { X with σ := killσ [id] X.σ } w a rfl (by simp [killσ]; exact h2) h3 (qjb [id] h4) ⟨by simp [h5.len], fun j t u e1 e2 => ?_, h5.defers⟩
 ·exact wp_mono this fun _ _ _ k => q48 (qja h2) k
 ·rw [List.getElem?_set] at e1
  split at e1
  ·rename_i hij; subst hij
   split at e1
   ·simp at e1; subst e1
    have hp : q2i X id 0 0 u := h5.rep i _ u hT e2
    have hlv : live X.σ id 0 = some (.box (ps.map .pv)) := by unfold live; rw [hσ]; rfl
    obtain ⟨q1, q2, l, hl, hu⟩ := q68 hp hlv
    subst hu
    show PRep _ w (.pp ps) _
    unfold PRep
    refine ⟨l.1, 0, rfl, qm.of_get fun j c hc => ?_⟩
    obtain ⟨u, hu1, hu2⟩ := q7c h4 hσ q1 hl j (.pv c) (by simp [AObj.cells, hc])
    refine ⟨u, hu1, .inr ⟨?_, ?_, fun id' ob l' e hp' hl' hb => ?_⟩, PRep.mono (fun b o k => ⟨qdv X [id] k, rfl⟩) hu2⟩
    ·obtain ⟨l0, hl0, hB, _⟩ := h4.ob id _ hσ q1 rfl
     rw [hl] at hl0
     obtain rfl : l = l0 := by simpa using hl0
     exact hB
    ·have := q9x h4 hσ q1 hl
     rw [← h4.hs] at this; exact this
    ·exfalso
     have e' := q75 e
     have := h4.inj id' id ob _ l' l e' hσ hp' q1 hl' hl hb
     subst this
     simp [killσ] at e
   ·cases e1
  ·exact qjc (h5.rep j t u e1 e2)
theorem frzE (hb : Base E E0 G) (n i id : Nat) {ps : List PV} (hσ : (adv P G n s).σ[id]? = some (some (.box (ps.map .pv)))) (k : J E E0 P G m K (mFrm (adv P G n s) ((adv P G n s).T.set i (c1 (.pv (.pp ps)))) (q5y [id] (adv P G n s).σ)))
  (hT : (adv P G n s).T[i]? = some (c1 (.ptr id 0 0)) := by kernel_rfl) (hk : q3j (adv P G n s) = true := by kernel_rfl) : J E E0 P G m K s :=
 q52 hb n hk (fun d r h => L_frz i id hT hσ (by rw [qj8] at h; exact h)) k
def cutS (ks ids : List Nat) (k : Nat) (t : MS) : List TV × Sto := (q4o ks t.T, (q5y ids t.σ).take k)
def qas (t : MS) : Bool :=
 match t.reg with
 | none => match t.c with | .loop _ :: _ => true | _ => false
 | some _ => false
def hedS {S : Type} (t : MS) (FT : S → List TV) (FS : S → Sto) (a : S) : MS := ⟨none, t.c, t.ctx, FT a, FS a⟩
def unl (t : MS) : MS :=
 match t.c with
 | .loop b :: r => ⟨t.reg, b :: .loop b :: r, t.ctx, t.T, t.σ⟩
 | _ => t
theorem qjp {t : MS} (h : qas t = true) : ∃ b r, t = ⟨none, .loop b :: r, t.ctx, t.T, t.σ⟩ := by
 obtain ⟨reg, c, ctx, T, σ⟩ := t
 unfold qas at h
 split at h
 ·rename_i e; simp only at e; subst e
  split at h
  ·rename_i b r e; simp only at e; subst e; exact ⟨b, r, rfl⟩
  ·cases h
 ·cases h
theorem qj (hb : Base E E0 G) (n : Nat) {S O : Type} (body : S → Option (S ⊕ O)) (FT : S → List TV) (FS : S → Sto) (ks ids : List Nat) (k : Nat) {s0 : S} {o : O} (hs : q5n k (FS s0)) (hq : qb body s0 = some o)
  (step : ∀ (a : S) (x : S ⊕ O), body a = some x → (∀ a', x = .inl a' → J E E0 P G m K (hedS (adv P G n s) FT FS a')) → (∀ q, x = .inr q → q = o) → J E E0 P G m K (unl (hedS (adv P G n s) FT FS a)))
  (h : cutS ks ids k (adv P G n s) = (FT s0, FS s0) := by kernel_rfl) (hm : Nat.ble m k = true := by kernel_rfl) (hu : (FT s0).all (TV.under k) = true := by kernel_rfl) (hl : qas (adv P G n s) = true := by kernel_rfl) : J E E0 P G m K s := by
 refine q3g hb n ?_
 generalize adv P G n s = t at *
 obtain ⟨b, r, e⟩ := qjp hl
 obtain ⟨reg, c, ctx, T, σ⟩ := t
 simp only [MS.mk.injEq] at e
 obtain ⟨rfl, rfl, _⟩ := e
 simp only [cutS, Prod.mk.injEq] at h
 exact qc2 ks ids k h.1 h.2 (Nat.le_of_ble_eq_true hm) hu hs (qml (E := E) (E0 := E0) (P := P) (m := m) (K := KJ E E0 P m K ctx) (r := r) (b := b) body FT FS (fun a x hq hn he => step a x hq hn he) hq)
theorem q9 (hb : Base E E0 G) (n : Nat) (ks ids : List Nat) (k : Nat) {S : Type} {t0 : MS} {FT : S → List TV} {FS : S → Sto} {a : S} (hn : J E E0 P G m K (hedS t0 FT FS a)) (hs : q5n k (FS a))
  (h : cutS ks ids k (adv P G n s) = (FT a, FS a) := by kernel_rfl) (hc : ((adv P G n s).c, (adv P G n s).ctx) = (t0.c, t0.ctx) := by kernel_rfl) (hm : Nat.ble m k = true := by kernel_rfl) (hu : (FT a).all (TV.under k) = true := by kernel_rfl) (hl : qas (adv P G n s) = true := by kernel_rfl) : J E E0 P G m K s := by
 refine q3g hb n ?_
 generalize adv P G n s = t at *
 obtain ⟨b, r, e⟩ := qjp hl
 obtain ⟨reg, c, ctx, T, σ⟩ := t
 simp only [MS.mk.injEq] at e
 obtain ⟨rfl, rfl, _⟩ := e
 simp only [cutS, Prod.mk.injEq] at h hc
 obtain ⟨c1', c2'⟩ := hc
 unfold hedS at hn
 rw [← c1', ← c2'] at hn
 exact qc2 ks ids k h.1 h.2 (Nat.le_of_ble_eq_true hm) hu hs hn
theorem q80 {ops : Array Oper} {K1 K2 : List TV → Sto → Prop} : ∀ {l : List Oper} {T : List TV} {σ : Sto}, asqD E E0 P G ops l T σ K1 → (∀ T' σ', K1 T' σ' → K2 T' σ') → asqD E E0 P G ops l T σ K2
 | [], T, σ, h, k => k _ _ h
 | o :: r, T, σ, h, k => by
  unfold asqD at h ⊢
  split at h
  ·obtain ⟨eff, h1, h2⟩ := q9g h
   have put : ∀ K : Eff → Prop, K eff → OpA E E0 P (evT G T) σ o.op K := by
    intro K hk
    unfold OpE at h1
    unfold OpA at h1 ⊢
    split at h1
    ·split at h1
     ·obtain ⟨eff', c1, rfl⟩ := h1
      exact ⟨_, c1, hk⟩
     ·exact h1.elim
    ·split at h1
     ·subst h1; exact hk
     ·exact h1.elim
   refine put _ ?_
   cases eff with
   | upd _ _ => exact h2.elim
   | val v => exact q80 h2 k
   | new ob f => exact q80 h2 k
  ·exact q80 h k
  ·exact h.elim
def drawn (P : Program) (t : MS) (n1 : Nat) (fl : List Nat) : Bool :=
 match t.reg with
 | none => match t.c with
  | .region _ ops true :: _ => Nat.ble n1 ops.toList.length && q56 fl ops.toList n1
  | _ => false
 | some _ => false
def qb5 (t : MS) (n1 : Nat) (fl : List Nat) : MS :=
 match t.c with
 | .region _ ops _ :: r => ⟨some (true, ops, ops.toList.take n1, ops.toList.drop n1, fl), r, t.ctx, t.T, t.σ⟩
 | _ => t
theorem qe (hb : Base E E0 G) (hmix : P.follows .mixedOrders = true) (n n1 : Nat) (fl : List Nat) (k : J E E0 P G m K (qb5 (adv P G n s) n1 fl)) (h : drawn P (adv P G n s) n1 fl = true := by kernel_rfl) : J E E0 P G m K s := by
 refine q3g hb n ?_
 generalize adv P G n s = t at *
 obtain ⟨reg, c, ctx, T, σ⟩ := t
 unfold drawn at h
 split at h
 ·rename_i e; simp only at e; subst e
  split at h
  ·rename_i i ops r e; simp only at e; subst e
   simp only [Bool.and_eq_true] at h
   have := qmj (m := m) (r := r) (T := T) (σ := σ) (K := KJ E E0 P m K ctx) (id := i) (ops := ops.toList) hb hmix fl n1 (Nat.le_of_ble_eq_true h.1) h.2 (fun R hR => by
    rw [Array.toArray_toList]
    refine q80 (k R hR) fun T1 σ1 q => ⟨qi4 (by rw [Array.toArray_toList]; exact q.1), q.2⟩)
   rw [Array.toArray_toList] at this
   exact this
  ·cases h
 ·cases h
def qf3 (P : Program) (fn : Func) (ks ids : List Nat) (k : Nat) (t : MS) : Option (TV × Sto) :=
 match t.reg with
 | none => match t.c with
  | .ret :: _ => match q5g P (q4o ks t.T) ((q5y ids t.σ).take k) fn.results.toList with
   | some v => some (v, (q5y ids t.σ).take k)
   | none => none
  | _ => none
 | some _ => none
theorem q4u (hb : Base E E0 G) (n : Nat) (ks ids : List Nat) (k : Nat) {fn : Func} {ρ : Type} {enc : ρ → TV} {σ' : Sto} {r x : ρ} (hq : x = r) (hs : q5n k σ') (h : qf3 P fn ks ids k (adv P G n s) = some (enc x, σ') := by kernel_rfl) (hm : Nat.ble m k = true := by kernel_rfl)
  (hu : (q4o ks (adv P G n s).T).all (TV.under k) = true := by kernel_rfl) : J E E0 P G m (KO P fn enc r σ') s := by
 refine q3g hb n ?_
 subst hq
 generalize adv P G n s = t at *
 obtain ⟨reg, c, ctx, T, σ⟩ := t
 unfold qf3 at h
 split at h
 ·rename_i e; simp only at e; subst e
  split at h
  ·rename_i r e; simp only at e; subst e
   split at h
   ·rename_i v hv
    simp at h
    obtain ⟨rfl, rfl⟩ := h
    exact qc2 ks ids k rfl rfl (Nat.le_of_ble_eq_true hm) hu hs (q1h (qc1 ⟨_, hv, rfl, rfl⟩))
   ·cases h
  ·cases h
 ·cases h
def pick : Code → List Nat → Code
 | c, [] => c
 | .seq a b, i :: p => match i with | 0 => pick a p | _ => pick b p
 | .block _ c, _ :: p => pick c p
 | .loop c, _ :: p => pick c p
 | .cond _ a b, i :: p => match i with | 0 => pick a p | _ => pick b p
 | c, _ => c
def bodyOf (fn : Func) : Code := match fn.body with | some c => c | none => .skip
def pth : Nat → Nat → List Nat → List Nat
 | 0, _, l => l
 | f + 1, n, l => if Nat.ble n 1 then l else pth f (n / 2) (n % 2 :: l)
def pk (fn : Func) (n : Nat) : Code := pick (bodyOf fn) (pth 500 n [])
def cutM (ks : List Nat) (t : MS) : MS := ⟨t.reg, t.c, t.ctx, q4o ks t.T, t.σ⟩
theorem cpE (hb : Base E E0 G) (n : Nat) (ks : List Nat) {s' : MS} (k : J E E0 P G m K s') (h : cutM ks (adv P G n s) = s' := by kernel_rfl) (hk : q3j (adv P G n s) = true := by kernel_rfl) : J E E0 P G m K s := by
 subst h
 refine q3g hb n ?_
 generalize adv P G n s = t at *
 obtain ⟨reg, c, ctx, T, σ⟩ := t
 unfold q3j at hk
 split at hk
 ·rename_i e; simp only at e; subst e
  split at hk
  ·cases hk
  ·rename_i d r e; simp only at e; subst e
   exact qmk ks rfl k
 ·cases hk
theorem q58 (hb : Base E E0 G) {Z ρ : Type} (cont : Z → Option ρ) (st : Z → MS) {x : ρ} (h : ∀ z, cont z = some x → J E E0 P G m K (st z)) (k : (∀ z, cont z = some x → J E E0 P G m K (st z)) → J E E0 P G m K s) : J E E0 P G m K s := k h
def Fl.of {α : Type} (c : α → List PV) (sz : Nat) (pos : 0 < sz) (len : ∀ x, (c x).length = sz) : Fl α where
 c := c
 f := fun l => (l.map c).flatten
 sz := sz
 pos := pos
 len := len
 nil := rfl
 cons _ _ := rfl
section
variable {α : Type} (F : Fl α)
theorem Fl.four (x y z u : α) : F.f [x, y, z, u] = F.c x ++ (F.c y ++ (F.c z ++ F.c u)) := by rw [F.cons, F.three]
theorem Fl.five (x y z u v : α) : F.f [x, y, z, u, v] = F.c x ++ (F.c y ++ (F.c z ++ (F.c u ++ F.c v))) := by rw [F.cons, F.four]
theorem Fl.six (x y z u v w : α) : F.f [x, y, z, u, v, w] = F.c x ++ (F.c y ++ (F.c z ++ (F.c u ++ (F.c v ++ F.c w)))) := by rw [F.cons, F.five]
theorem qvh (x y z u : α) : vL F [x, y, z, u] = .pv (.sl false 4 (F.c x ++ (F.c y ++ (F.c z ++ F.c u)))) := by simp [pL, F.four]
theorem qvg (x y z u v : α) : vL F [x, y, z, u, v] = .pv (.sl false 5 (F.c x ++ (F.c y ++ (F.c z ++ (F.c u ++ F.c v))))) := by simp [pL, F.five]
theorem vL_six (x y z u v w : α) : vL F [x, y, z, u, v, w] = .pv (.sl false 6 (F.c x ++ (F.c y ++ (F.c z ++ (F.c u ++ (F.c v ++ F.c w)))))) := by simp [pL, F.six]
end
end Abs
end Go.Proofs.YtkffpfapfljinaaGreatDoor
