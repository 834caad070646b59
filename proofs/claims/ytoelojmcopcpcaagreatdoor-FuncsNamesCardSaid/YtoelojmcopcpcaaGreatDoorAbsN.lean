/-
  The machine's rules for arrays of one's own, cells in other words, loops.
-/
import Derived.Test.YtoelojmcopcpcaaGreatDoorAbsM
namespace Go.Proofs.YtoelojmcopcpcaaGreatDoor
set_option linter.unusedVariables false
set_option linter.unusedSimpArgs false
namespace Abs
open Go.RowKit
variable {E : World → Prop} {E0 : Nat} {P : Program} {G : Nat → Option (List PV)} {m : Nat} {K : Ex → List TV → Sto → Prop} {s : MS}
section
variable {ρ : Type} {x : ρ} {α : Type} (F : Fl α)
def appPre2 (P : Program) (G : Nat → Option (List PV)) (D : Bool) (ops : Array Oper) (l : List Oper) (T : List TV) (σ : Sto) : Option (Bool × AC × Nat × List PV × Nat × Nat) :=
  match appPre P G ops l T with
  | some (b, c, sz, by_, _) => match sourceOf σ c with
    | some (n, cs) => some (D, b, n, cs, sz, by_)
    | none => none
  | none => none
theorem app2 {D D' : Bool} {ops : Array Oper} {l : List Oper} {T : List TV} {σ : Sto} {b : AC} {n sz by_ : Nat} {cs : List PV} (h : appPre2 P G D ops l T σ = some (D', b, n, cs, sz, by_)) : D' = D ∧ ∃ o c, hd ops l T = some o ∧ appPre P G ops l T = some (b, c, sz, by_, o.dst) ∧ sourceOf σ c = some (n, cs) := by
  unfold appPre2 at h
  split at h
  · rename_i b' c sz' by' d hc
    split at h
    · rename_i n' cs' hs
      simp at h
      obtain ⟨rfl, rfl, rfl, rfl, rfl, rfl⟩ := h
      obtain ⟨o, t, e, z, x, y, h1, h2, _⟩ := app_step (σ := σ) hc
      subst h2
      exact ⟨rfl, o, c, h1, hc, hs⟩
    · cases h
  · cases h
theorem appOwnE (hb : Base E E0 G) (n id : Nat) (nb : Bool) (fr : Nat) {xs ys : List α} {cs : List PV} (hcs : F.f ys = cs) {by_ : Nat} {kk : List α → Option ρ} (hq : (app by_ xs ys).bind kk = some x)
    (k : ∀ zs, app by_ xs ys = some zs → kk zs = some x → J E E0 P G m K (mSto (adv P G n s) (c1 (vO F id zs)) ((adv P G n s).σ.set id (some (arO nb F.sz fr (F.f zs))))))
    (hfr : fr ≤ (F.f xs).length := by first | exact Nat.zero_le _ | exact Nat.le_refl _)
    (h : mPre (appPre2 P G) (adv P G n s) = some (false, vO F id xs, ys.length, cs, F.sz, by_) := by kernel_rfl)
    (ho : (adv P G n s).σ[id]? = some (some (arO nb F.sz fr (F.f xs))) := by kernel_rfl) : J E E0 P G m K s := by
  subst hcs
  obtain ⟨y, hy, hk⟩ := Option.bind_eq_some_iff.1 hq
  obtain ⟨D, ops, l, l2, hr, h⟩ := mPre_some h
  obtain ⟨rfl, o, c, h1, h2, h3⟩ := app2 h
  exact J_val hb n hr h1 (fun R => appOwnF F hy h2 h3 ho hfr) (k y hy hk)
theorem appNilE (hb : Base E E0 G) (n : Nat) {D : Bool} {ys : List α} {cs : List PV} (hcs : F.f ys = cs) {by_ : Nat} {kk : List α → Option ρ} (hq : (app by_ [] ys).bind kk = some x)
    (k : ∀ zs, app by_ [] ys = some zs → kk zs = some x → J E E0 P G m K (mSto (adv P G n s) (c1 (vO F (adv P G n s).σ.length zs)) ((adv P G n s).σ ++ [some (arO false F.sz 0 (F.f zs))])))
    (hne : ys ≠ [] := by simp)
    (h : (mPre (appPre2 P G) (adv P G n s)).map (fun q => q.2) = some (vN, ys.length, cs, F.sz, by_) := by kernel_rfl) : J E E0 P G m K s := by
  subst hcs
  obtain ⟨y, hy, hk⟩ := Option.bind_eq_some_iff.1 hq
  obtain ⟨⟨D', q1, q2, q3, q4, q5⟩, hA, e⟩ := Option.map_eq_some_iff.1 h
  simp at e; obtain ⟨rfl, rfl, rfl, rfl, rfl⟩ := e
  obtain ⟨D, ops, l, l2, hr, hB⟩ := mPre_some hA
  obtain ⟨rfl, o, c, h1, h2, h3⟩ := app2 hB
  exact J_val hb n hr h1 (fun R => appNilF F hy hne h2 h3) (k y hy hk)
def lenPre2 (P : Program) (G : Nat → Option (List PV)) (_ : Bool) (ops : Array Oper) (l : List Oper) (T : List TV) (_ : Sto) : Option AC :=
  match lenPre P G ops l T with
  | some (c, _) => some c
  | none => none
theorem lenOwnE (hb : Base E E0 G) (n id : Nat) (nb : Bool) (fr : Nat) (xs : List α) (k : J E E0 P G m K (mPut (adv P G n s) (c1 (vi (xs.length : Int)))))
    (h : mPre (lenPre2 P G) (adv P G n s) = some (vO F id xs) := by kernel_rfl)
    (ho : (adv P G n s).σ[id]? = some (some (arO nb F.sz fr (F.f xs))) := by kernel_rfl) : J E E0 P G m K s := by
  obtain ⟨D, ops, l, l2, hr, h⟩ := mPre_some h
  unfold lenPre2 at h
  split at h
  · rename_i c d hc
    simp at h; subst h
    obtain ⟨o, h1, rfl⟩ : ∃ o, hd ops l (adv P G n s).T = some o ∧ d = o.dst := by
      have h' := hc; unfold lenPre at h'
      obtain ⟨o, ho, h'⟩ := Option.bind_eq_some_iff.1 h'
      refine ⟨o, ho, ?_⟩
      split at h'
      · split at h'
        · split at h'
          · simp at h'; exact h'.2.symm
          · cases h'
        · cases h'
      · cases h'
    exact J_val hb n hr h1 (fun R => lenOwnF F hc ho) k
  · cases h
def makePre2 (P : Program) (G : Nat → Option (List PV)) (_ : Bool) (ops : Array Oper) (l : List Oper) (T : List TV) (_ : Sto) : Option (Int × Int × List AC × Nat × Nat) :=
  match makePre P G ops l T with
  | some (n, c, zs, sz, by_, _) => some (n, c, zs, sz, by_)
  | none => none
theorem make2 {D : Bool} {ops : Array Oper} {l : List Oper} {T : List TV} {σ : Sto} {n c : Int} {zs : List AC} {sz by_ : Nat} (h : makePre2 P G D ops l T σ = some (n, c, zs, sz, by_)) : ∃ o, hd ops l T = some o ∧ makePre P G ops l T = some (n, c, zs, sz, by_, o.dst) := by
  unfold makePre2 at h
  split at h
  · rename_i n' c' zs' sz' by' d hc
    simp at h
    obtain ⟨rfl, rfl, rfl, rfl, rfl⟩ := h
    obtain ⟨o, t, e, z, x, y, h1, h2, _⟩ := make_step (σ := σ) hc
    subst h2
    exact ⟨o, h1, hc⟩
  · cases h
theorem mkE (hb : Base E E0 G) (n : Nat) {z : α} {i : Int} {by_ : Nat} {kk : List α → Option ρ} (hq : (mkl by_ i z).bind kk = some x)
    (k : ∀ zs, mkl by_ i z = some zs → kk zs = some x → J E E0 P G m K (mSto (adv P G n s) (c1 (vO F (adv P G n s).σ.length zs)) ((adv P G n s).σ ++ [some (arO false F.sz 0 (F.f zs))])))
    (h : mPre (makePre2 P G) (adv P G n s) = some (i, i, (F.c z).map AC.pv, F.sz, by_) := by kernel_rfl) : J E E0 P G m K s := by
  obtain ⟨y, hy, hk⟩ := Option.bind_eq_some_iff.1 hq
  obtain ⟨D, ops, l, l2, hr, h⟩ := mPre_some h
  obtain ⟨o, h1, h2⟩ := make2 h
  exact J_val hb n hr h1 (fun R => mkF F hy h2) (k y hy hk)
theorem mk0E (hb : Base E E0 G) (n : Nat) {i : Int} {by_ : Nat} {kk : Unit → Option ρ} (hq : (mkc by_ i).bind kk = some x)
    (k : ∀ u, mkc by_ i = some u → kk u = some x → J E E0 P G m K (mSto (adv P G n s) (c1 (vO F (adv P G n s).σ.length [])) ((adv P G n s).σ ++ [some (arO false F.sz 0 (F.f []))])))
    (h : (mPre (makePre2 P G) (adv P G n s)).map (fun q => (q.1, q.2.1, q.2.2.2.1, q.2.2.2.2)) = some (0, i, F.sz, by_) := by kernel_rfl) : J E E0 P G m K s := by
  obtain ⟨y, hy, hk⟩ := Option.bind_eq_some_iff.1 hq
  obtain ⟨⟨q1, q2, q3, q4, q5⟩, hA, e⟩ := Option.map_eq_some_iff.1 h
  simp at e; obtain ⟨rfl, rfl, rfl, rfl⟩ := e
  obtain ⟨D, ops, l, l2, hr, hB⟩ := mPre_some hA
  obtain ⟨o, h1, h2⟩ := make2 hB
  exact J_val hb n hr h1 (fun R => mk0F F hy h2) (k y hy hk)
def idxOPre2 (P : Program) (G : Nat → Option (List PV)) (_ : Bool) (ops : Array Oper) (l : List Oper) (T : List TV) (_ : Sto) : Option (AC × Nat × Int) :=
  match idxOPre P G ops l T with
  | some (c, sz, i, _) => some (c, sz, i)
  | none => none
theorem idxOwnE (hb : Base E E0 G) (n id : Nat) (nb : Bool) (fr : Nat) {xs : List α} {i : Int} {kk : α → Option ρ} (hq : (idx xs i).bind kk = some x)
    (k : ∀ y, idx xs i = some y → kk y = some x → J E E0 P G m K (mPut (adv P G n s) (c1 (.ptr id (F.f xs).length (i.toNat * F.sz)))))
    (h : mPre (idxOPre2 P G) (adv P G n s) = some (vO F id xs, F.sz, i) := by kernel_rfl)
    (ho : (adv P G n s).σ[id]? = some (some (arO nb F.sz fr (F.f xs))) := by kernel_rfl) : J E E0 P G m K s := by
  obtain ⟨y, hy, hk⟩ := Option.bind_eq_some_iff.1 hq
  obtain ⟨D, ops, l, l2, hr, h⟩ := mPre_some h
  unfold idxOPre2 at h
  split at h
  · rename_i c sz i' d hc
    simp at h; obtain ⟨rfl, rfl, rfl⟩ := h
    obtain ⟨o, h1, rfl⟩ : ∃ o, hd ops l (adv P G n s).T = some o ∧ d = o.dst := by
      have h' := hc; unfold idxOPre at h'
      obtain ⟨o, ho, h'⟩ := Option.bind_eq_some_iff.1 h'
      refine ⟨o, ho, ?_⟩
      split at h'
      · split at h'
        · simp at h'; exact h'.2.2.2.symm
        · cases h'
      · cases h'
    exact J_val hb n hr h1 (fun R => idxOwnF F hy hc ho) (k y hy hk)
  · cases h
def loadPre2 (P : Program) (G : Nat → Option (List PV)) (_ : Bool) (ops : Array Oper) (l : List Oper) (T : List TV) (_ : Sto) : Option (AC × Nat × Bool) :=
  match loadPre P G ops l T with
  | some (c, n, ag, _) => some (c, n, ag)
  | none => none
theorem load2 {D : Bool} {ops : Array Oper} {l : List Oper} {T : List TV} {σ : Sto} {c : AC} {n : Nat} {ag : Bool} (h : loadPre2 P G D ops l T σ = some (c, n, ag)) : ∃ o, hd ops l T = some o ∧ loadPre P G ops l T = some (c, n, ag, o.dst) := by
  unfold loadPre2 at h
  split at h
  · rename_i c' n' ag' d hc
    simp at h; obtain ⟨rfl, rfl, rfl⟩ := h
    have h' := hc; unfold loadPre at h'
    obtain ⟨o, ho, h'⟩ := Option.bind_eq_some_iff.1 h'
    refine ⟨o, ho, ?_⟩
    split at h'
    · split at h'
      · simp at h'; rw [hc, h'.2.2.2]
      · cases h'
    · cases h'
  · cases h
theorem loadOwnE (hb : Base E E0 G) (n id : Nat) (nb : Bool) (fr : Nat) {xs : List α} {i : Int} {y : α} (hx : idx xs i = some y) (k : J E E0 P G m K (mPut (adv P G n s) (.one (.agg ((F.c y).map .pv)))))
    (h : mPre (loadPre2 P G) (adv P G n s) = some (.ptr id (F.f xs).length (i.toNat * F.sz), F.sz, true) := by kernel_rfl)
    (ho : (adv P G n s).σ[id]? = some (some (arO nb F.sz fr (F.f xs))) := by kernel_rfl) : J E E0 P G m K s := by
  obtain ⟨D, ops, l, l2, hr, h⟩ := mPre_some h
  obtain ⟨o, h1, h2⟩ := load2 h
  exact J_val hb n hr h1 (fun R => loadOwnF F hx h2 ho) k
theorem loadOwn1E (hb : Base E E0 G) (n id : Nat) (nb : Bool) (fr : Nat) {xs : List α} {i : Int} {y : α} (hx : idx xs i = some y) {p : PV} (hp : F.c y = [p]) (k : J E E0 P G m K (mPut (adv P G n s) (c1 (.pv p))))
    (h : mPre (loadPre2 P G) (adv P G n s) = some (.ptr id (F.f xs).length (i.toNat * F.sz), F.sz, false) := by kernel_rfl)
    (ho : (adv P G n s).σ[id]? = some (some (arO nb F.sz fr (F.f xs))) := by kernel_rfl) : J E E0 P G m K s := by
  obtain ⟨D, ops, l, l2, hr, h⟩ := mPre_some h
  obtain ⟨o, h1, h2⟩ := load2 h
  exact J_val hb n hr h1 (fun R => loadOwn1F F hx hp h2 ho) k
def stPre2 (P : Program) (G : Nat → Option (List PV)) (D : Bool) (ops : Array Oper) (l : List Oper) (T : List TV) (σ : Sto) : Option (Bool × AC × Bool × Bool × Option (List PV) × Nat) :=
  match stPre P G ops l T with
  | some (c, cs, n, _) => some (D, c, cs.all AC.ok, cs.any AC.owns, frzL σ cs, n)
  | none => none
theorem storeOwnE (hb : Base E E0 G) (n id : Nat) {xs : List α} {i : Int} {y : α} (hx : idx xs i = some y) (z : α) (k : J E E0 P G m K (mSto (adv P G n s) undefT ((adv P G n s).σ.set id (some (arO false F.sz 0 (F.f (upd xs i z)))))))
    (h : mPre (stPre2 P G) (adv P G n s) = some (false, .ptr id (F.f xs).length (i.toNat * F.sz), true, false, some (F.c z), F.sz) := by kernel_rfl)
    (ho : (adv P G n s).σ[id]? = some (some (arO false F.sz 0 (F.f xs))) := by kernel_rfl) : J E E0 P G m K s := by
  obtain ⟨D, ops, l, l2, hr, h⟩ := mPre_some h
  unfold stPre2 at h
  split at h
  · rename_i c cs n' d hc
    simp only [Option.some.injEq, Prod.mk.injEq] at h
    obtain ⟨rfl, rfl, h3, h4, h5, rfl⟩ := h
    obtain ⟨o, h1, rfl⟩ : ∃ o, hd ops l (adv P G n s).T = some o ∧ d = o.dst := by
      have h' := hc; unfold stPre at h'
      obtain ⟨o, ho, h'⟩ := Option.bind_eq_some_iff.1 h'
      refine ⟨o, ho, ?_⟩
      split at h'
      · split at h'
        · simp only [Option.some.injEq, Prod.mk.injEq] at h'; exact h'.2.2.2.symm
        · cases h'
      · cases h'
    exact J_val hb n hr h1 (fun R => storeOwnF F hx hc ho h3 h4 h5) k
  · cases h
end
section
variable {ρ : Type} {β : Type} {e : Option β} {kk : β → Option ρ} {x : ρ}
def callOPre2 (P : Program) (G : Nat → Option (List PV)) (D : Bool) (ops : Array Oper) (l : List Oper) (T : List TV) (_ : Sto) : Option (Bool × FuncId × List AV) :=
  match callOPre P G ops l T with
  | some (g, ws, _) => some (D, g, ws)
  | none => none
theorem callO2 {D D' : Bool} {ops : Array Oper} {l : List Oper} {T : List TV} {σ : Sto} {g : FuncId} {ws : List AV} (h : callOPre2 P G D ops l T σ = some (D', g, ws)) : D' = D ∧ ∃ o, hd ops l T = some o ∧ callOPre P G ops l T = some (g, ws, o.dst) := by
  unfold callOPre2 at h
  split at h
  · rename_i g' ws' d hc
    simp at h; obtain ⟨rfl, rfl, rfl⟩ := h
    refine ⟨rfl, ?_⟩
    have h' := hc; unfold callOPre at h'
    obtain ⟨o, ho, h'⟩ := Option.bind_eq_some_iff.1 h'
    refine ⟨o, ho, ?_⟩
    split at h'
    · split at h'
      · rename_i g0 caps vs h1 h2
        cases hb : enters P g0 with
        | false => rw [hb] at h'; cases h'
        | true => rw [hb] at h'; simp at h'; rw [hc, h'.2.2]
      · cases h'
    · cases h'
  · cases h
/-- A call that sees the caller's variables. -/
theorem callOE (hb : Base E E0 G) (n : Nat) {g : FuncId} {ws : List AV} {σ0 σ1 : Sto} {enc : β → TV} (hq : e.bind kk = some x) (hp : ∀ y, e = some y → Ok E E0 P g ws σ0 (enc y) σ1) (k : ∀ y, e = some y → kk y = some x → J E E0 P G m K (mSto (adv P G n s) (enc y) σ1))
    (h : mPre (callOPre2 P G) (adv P G n s) = some (false, g, ws) := by kernel_rfl) (hσ : (adv P G n s).σ = σ0 := by kernel_rfl) : J E E0 P G m K s := by
  obtain ⟨y, hy, hk⟩ := Option.bind_eq_some_iff.1 hq
  obtain ⟨D, ops, l, l2, hr, h⟩ := mPre_some h
  obtain ⟨rfl, o, h1, h2⟩ := callO2 h
  subst hσ
  exact J_val hb n hr h1 (fun R => callOF h2 (hp y hy)) (k y hy hk)
/-- A call by values whose arguments are arrays of one's own, all of them frozen before. -/
theorem callME (hb : Base E E0 G) (n : Nat) {g : FuncId} {vs ws : List AV} {enc : β → TV} (hq : e.bind kk = some x) (hf : frzVs (adv P G n s).σ vs = some ws) (hm : markVs (adv P G n s).σ vs = (adv P G n s).σ) (hp : ∀ y, e = some y → Pure E E0 P g ws (enc y)) (k : ∀ y, e = some y → kk y = some x → J E E0 P G m K (mPut (adv P G n s) (enc y)))
    (h : mPre (callOPre2 P G) (adv P G n s) = some (false, g, vs) := by kernel_rfl) : J E E0 P G m K s := by
  obtain ⟨y, hy, hk⟩ := Option.bind_eq_some_iff.1 hq
  obtain ⟨D, ops, l, l2, hr, h⟩ := mPre_some h
  obtain ⟨rfl, o, h1, h2⟩ := callO2 h
  exact J_val hb n hr h1 (fun R => callMF h2 hf hm (hp y hy)) (k y hy hk)
/-- A call by values, its result without slices: arrays of one's own are only lent. -/
theorem callVE (hb : Base E E0 G) (n : Nat) {g : FuncId} {vs ws : List AV} {enc : β → TV} (hq : e.bind kk = some x) (hf : frzVs (adv P G n s).σ vs = some ws) (hc : ∀ y, (enc y).flat = true) (hp : ∀ y, e = some y → Pure E E0 P g ws (enc y)) (k : ∀ y, e = some y → kk y = some x → J E E0 P G m K (mPut (adv P G n s) (enc y)))
    (h : mPre (callOPre2 P G) (adv P G n s) = some (false, g, vs) := by kernel_rfl) : J E E0 P G m K s := by
  obtain ⟨y, hy, hk⟩ := Option.bind_eq_some_iff.1 hq
  obtain ⟨D, ops, l, l2, hr, h⟩ := mPre_some h
  obtain ⟨rfl, o, h1, h2⟩ := callO2 h
  exact J_val hb n hr h1 (fun R k => callO_aux (eff := .val (enc y)) h2 (fun he => .val hf he (hp y hy) (.inl (hc y))) k) (k y hy hk)
end
/-! #### Between codes -/
def codeAt (t : MS) : Bool :=
  match t.reg with
  | none => match t.c with | [] => false | _ :: _ => true
  | some _ => false
theorem J_code (hb : Base E E0 G) (n : Nat) {T' : List TV} {σ' : Sto} (hk : codeAt (adv P G n s) = true) (f : ∀ d r, awpL E E0 P m (d :: r) T' σ' (KJ E E0 P m K (adv P G n s).ctx) → awpL E E0 P m (d :: r) (adv P G n s).T (adv P G n s).σ (KJ E E0 P m K (adv P G n s).ctx))
    (k : J E E0 P G m K ⟨none, (adv P G n s).c, (adv P G n s).ctx, T', σ'⟩) : J E E0 P G m K s := by
  refine adv_ok hb n ?_
  generalize adv P G n s = t at *
  obtain ⟨reg, c, ctx, T, σ⟩ := t
  unfold codeAt at hk
  split at hk
  · rename_i e; simp only at e; subst e
    split at hk
    · cases hk
    · rename_i d r e; simp only at e; subst e
      exact f d r k
  · cases hk
def mFrm (t : MS) (T' : List TV) (σ' : Sto) : MS := ⟨none, t.c, t.ctx, T', σ'⟩
theorem cellTE (hb : Base E E0 G) (n i : Nat) {c c' : AC} (hc : Conv E E0 (adv P G n s).σ c c') (k : J E E0 P G m K (mFrm (adv P G n s) ((adv P G n s).T.set i (c1 c')) (adv P G n s).σ))
    (hi : (adv P G n s).T[i]? = some (c1 c) := by kernel_rfl) (hk : codeAt (adv P G n s) = true := by kernel_rfl) : J E E0 P G m K s :=
  J_code hb n hk (fun d r h => L_cellT i hi hc h) k
theorem cellSE (hb : Base E E0 G) (n b j : Nat) {cs : List AC} {c c' : AC} (hc : Conv E E0 (adv P G n s).σ c c') (hs : (adv P G n s).σ[b]? = some (some (.box cs))) (k : J E E0 P G m K (mFrm (adv P G n s) (adv P G n s).T ((adv P G n s).σ.set b (some (.box (cs.set j c'))))))
    (hj : cs[j]? = some c := by kernel_rfl) (hk : codeAt (adv P G n s) = true := by kernel_rfl) : J E E0 P G m K s :=
  J_code hb n hk (fun d r h => L_cellσ b j hs hj hc h) k
theorem markE (hb : Base E E0 G) (n id : Nat) (nb : Bool) {sz fr : Nat} {cs : List PV} (ho : (adv P G n s).σ[id]? = some (some (arO nb sz fr cs))) (hfr : fr ≤ cs.length) (k : J E E0 P G m K (mFrm (adv P G n s) (adv P G n s).T ((adv P G n s).σ.set id (some (arO nb sz cs.length cs)))))
    (hk : codeAt (adv P G n s) = true := by kernel_rfl) : J E E0 P G m K s :=
  J_code hb n hk (fun d r h => L_mark id ho hfr h) k
theorem ownTE (hb : Base E E0 G) (n i sz : Nat) (k : J E E0 P G m K (mFrm (adv P G n s) ((adv P G n s).T.set i (c1 (.own (adv P G n s).σ.length 0 0 0))) ((adv P G n s).σ ++ [some (.nilarr sz)])))
    (hi : (adv P G n s).T[i]? = some (c1 vN) := by kernel_rfl) (hk : codeAt (adv P G n s) = true := by kernel_rfl) : J E E0 P G m K s :=
  J_code hb n hk (fun d r h => L_ownT i sz hi rfl rfl h) k
theorem ownSE (hb : Base E E0 G) (n b j sz : Nat) {cs : List AC} (hs : (adv P G n s).σ[b]? = some (some (.box cs))) (k : J E E0 P G m K (mFrm (adv P G n s) (adv P G n s).T ((adv P G n s).σ.set b (some (.box (cs.set j (.own (adv P G n s).σ.length 0 0 0)))) ++ [some (.nilarr sz)])))
    (hj : cs[j]? = some vN := by kernel_rfl) (hk : codeAt (adv P G n s) = true := by kernel_rfl) : J E E0 P G m K s :=
  J_code hb n hk (fun d r h => L_ownσ b j sz hs hj rfl h) k
/-- A variable that nobody writes any more is read-only memory. -/
theorem L_frz (i id : Nat) {T : List TV} {σ : Sto} {r : List Code} {ps : List PV} {c : Code} (hT : T[i]? = some (c1 (.ptr id 0 0))) (hσ : σ[id]? = some (some (.box (ps.map .pv)))) (h : awpL E E0 P m (c :: r) (T.set i (c1 (.pv (.pp ps)))) (killσ [id] σ) K) : awpL E E0 P m (c :: r) T σ K := by
  intro X w a h1 h2 h3 h4 h5
  subst h1
  have := h { X with σ := killσ [id] X.σ } w a rfl (by simp [killσ]; exact h2) h3 (kill_inv [id] h4) ⟨by simp [h5.len], fun j t u e1 e2 => ?_, h5.defers⟩
  · exact wp_mono this fun _ _ _ k => post_later (kill_ext h2) k
  · rw [List.getElem?_set] at e1
    split at e1
    · rename_i hij; subst hij
      split at e1
      · simp at e1; subst e1
        have hp : PtrRep X id 0 0 u := h5.rep i _ u hT e2
        have hlv : live X.σ id 0 = some (.box (ps.map .pv)) := by unfold live; rw [hσ]; rfl
        obtain ⟨q1, q2, l, hl, hu⟩ := ptr_live hp hlv
        subst hu
        show PRep _ w (.pp ps) _
        unfold PRep
        refine ⟨l.1, 0, rfl, PCells.of_get fun j c hc => ?_⟩
        obtain ⟨u, hu1, hu2⟩ := ob_row h4 hσ q1 hl j (.pv c) (by simp [AObj.cells, hc])
        refine ⟨u, hu1, .inr ⟨?_, ?_, fun id' ob l' e hp' hl' hb => ?_⟩, PRep.mono (fun b o k => ⟨kill_prot X [id] k, rfl⟩) hu2⟩
        · obtain ⟨l0, hl0, hB, _⟩ := h4.ob id _ hσ q1 rfl
          rw [hl] at hl0
          obtain rfl : l = l0 := by simpa using hl0
          exact hB
        · have := blk_lt h4 hσ q1 hl
          rw [← h4.hs] at this; exact this
        · exfalso
          have e' := kill_get e
          have := h4.inj id' id ob _ l' l e' hσ hp' q1 hl' hl hb
          subst this
          simp [killσ] at e
      · cases e1
    · exact kill_trep (h5.rep j t u e1 e2)
theorem frzE (hb : Base E E0 G) (n i id : Nat) {ps : List PV} (hσ : (adv P G n s).σ[id]? = some (some (.box (ps.map .pv)))) (k : J E E0 P G m K (mFrm (adv P G n s) ((adv P G n s).T.set i (c1 (.pv (.pp ps)))) (killF [id] (adv P G n s).σ)))
    (hT : (adv P G n s).T[i]? = some (c1 (.ptr id 0 0)) := by kernel_rfl) (hk : codeAt (adv P G n s) = true := by kernel_rfl) : J E E0 P G m K s :=
  J_code hb n hk (fun d r h => L_frz i id hT hσ (by rw [killF_eq] at h; exact h)) k
/-! #### Loops -/
def cutS (ks ids : List Nat) (k : Nat) (t : MS) : List TV × Sto := (keepF ks t.T, (killF ids t.σ).take k)
def isLoop (t : MS) : Bool :=
  match t.reg with
  | none => match t.c with | .loop _ :: _ => true | _ => false
  | some _ => false
def hedS {S : Type} (t : MS) (FT : S → List TV) (FS : S → Sto) (a : S) : MS := ⟨none, t.c, t.ctx, FT a, FS a⟩
def unl (t : MS) : MS :=
  match t.c with
  | .loop b :: r => ⟨t.reg, b :: .loop b :: r, t.ctx, t.T, t.σ⟩
  | _ => t
theorem loop_at {t : MS} (h : isLoop t = true) : ∃ b r, t = ⟨none, .loop b :: r, t.ctx, t.T, t.σ⟩ := by
  obtain ⟨reg, c, ctx, T, σ⟩ := t
  unfold isLoop at h
  split at h
  · rename_i e; simp only at e; subst e
    split at h
    · rename_i b r e; simp only at e; subst e; exact ⟨b, r, rfl⟩
    · cases h
  · cases h
theorem loopE (hb : Base E E0 G) (n : Nat) {S O : Type} (body : S → Option (S ⊕ O)) (FT : S → List TV) (FS : S → Sto) (ks ids : List Nat) (k : Nat) {s0 : S} {o : O} (hs : UnderAll k (FS s0)) (hq : loopO body s0 = some o)
    (step : ∀ (a : S) (x : S ⊕ O), body a = some x → (∀ a', x = .inl a' → J E E0 P G m K (hedS (adv P G n s) FT FS a')) → (∀ q, x = .inr q → q = o) → J E E0 P G m K (unl (hedS (adv P G n s) FT FS a)))
    (h : cutS ks ids k (adv P G n s) = (FT s0, FS s0) := by kernel_rfl) (hm : Nat.ble m k = true := by kernel_rfl) (hu : (FT s0).all (TV.under k) = true := by kernel_rfl) (hl : isLoop (adv P G n s) = true := by kernel_rfl) : J E E0 P G m K s := by
  refine adv_ok hb n ?_
  generalize adv P G n s = t at *
  obtain ⟨b, r, e⟩ := loop_at hl
  obtain ⟨reg, c, ctx, T, σ⟩ := t
  simp only [MS.mk.injEq] at e
  obtain ⟨rfl, rfl, _⟩ := e
  simp only [cutS, Prod.mk.injEq] at h
  exact L_backF ks ids k h.1 h.2 (Nat.le_of_ble_eq_true hm) hu hs (L_loopO (E := E) (E0 := E0) (P := P) (m := m) (K := KJ E E0 P m K ctx) (r := r) (b := b) body FT FS (fun a x hq hn he => step a x hq hn he) hq)
theorem backE (hb : Base E E0 G) (n : Nat) (ks ids : List Nat) (k : Nat) {S : Type} {t0 : MS} {FT : S → List TV} {FS : S → Sto} {a : S} (hn : J E E0 P G m K (hedS t0 FT FS a)) (hs : UnderAll k (FS a))
    (h : cutS ks ids k (adv P G n s) = (FT a, FS a) := by kernel_rfl) (hc : ((adv P G n s).c, (adv P G n s).ctx) = (t0.c, t0.ctx) := by kernel_rfl) (hm : Nat.ble m k = true := by kernel_rfl) (hu : (FT a).all (TV.under k) = true := by kernel_rfl) (hl : isLoop (adv P G n s) = true := by kernel_rfl) : J E E0 P G m K s := by
  refine adv_ok hb n ?_
  generalize adv P G n s = t at *
  obtain ⟨b, r, e⟩ := loop_at hl
  obtain ⟨reg, c, ctx, T, σ⟩ := t
  simp only [MS.mk.injEq] at e
  obtain ⟨rfl, rfl, _⟩ := e
  simp only [cutS, Prod.mk.injEq] at h hc
  obtain ⟨c1', c2'⟩ := hc
  unfold hedS at hn
  rw [← c1', ← c2'] at hn
  exact L_backF ks ids k h.1 h.2 (Nat.le_of_ble_eq_true hm) hu hs hn
/-! #### Drawn regions, ends of functions that see the caller's variables -/
theorem asqD_mono {ops : Array Oper} {K1 K2 : List TV → Sto → Prop} : ∀ {l : List Oper} {T : List TV} {σ : Sto}, asqD E E0 P G ops l T σ K1 → (∀ T' σ', K1 T' σ' → K2 T' σ') → asqD E E0 P G ops l T σ K2
  | [], T, σ, h, k => k _ _ h
  | o :: r, T, σ, h, k => by
    unfold asqD at h ⊢
    split at h
    · obtain ⟨eff, h1, h2⟩ := OpA_get h
      have put : ∀ K : Eff → Prop, K eff → OpA E E0 P (evT G T) σ o.op K := by
        intro K hk
        unfold OpE at h1
        unfold OpA at h1 ⊢
        split at h1
        · split at h1
          · obtain ⟨eff', c1, rfl⟩ := h1
            exact ⟨_, c1, hk⟩
          · exact h1.elim
        · split at h1
          · subst h1; exact hk
          · exact h1.elim
      refine put _ ?_
      cases eff with
      | upd _ _ => exact h2.elim
      | val v => exact asqD_mono h2 k
      | new ob f => exact asqD_mono h2 k
    · exact asqD_mono h k
    · exact h.elim
def drawn (P : Program) (t : MS) (n1 : Nat) (fl : List Nat) : Bool :=
  match t.reg with
  | none => match t.c with
    | .region _ ops true :: _ => Nat.ble n1 ops.toList.length && drawFB fl ops.toList n1
    | _ => false
  | some _ => false
def mDraw (t : MS) (n1 : Nat) (fl : List Nat) : MS :=
  match t.c with
  | .region _ ops _ :: r => ⟨some (true, ops, ops.toList.take n1, ops.toList.drop n1, fl), r, t.ctx, t.T, t.σ⟩
  | _ => t
theorem drawE (hb : Base E E0 G) (hmix : P.follows .mixedOrders = true) (n n1 : Nat) (fl : List Nat) (k : J E E0 P G m K (mDraw (adv P G n s) n1 fl)) (h : drawn P (adv P G n s) n1 fl = true := by kernel_rfl) : J E E0 P G m K s := by
  refine adv_ok hb n ?_
  generalize adv P G n s = t at *
  obtain ⟨reg, c, ctx, T, σ⟩ := t
  unfold drawn at h
  split at h
  · rename_i e; simp only at e; subst e
    split at h
    · rename_i i ops r e; simp only at e; subst e
      simp only [Bool.and_eq_true] at h
      have := L_drawF (m := m) (r := r) (T := T) (σ := σ) (K := KJ E E0 P m K ctx) (id := i) (ops := ops.toList) hb hmix fl n1 (Nat.le_of_ble_eq_true h.1) h.2 (fun R hR => by
        rw [Array.toArray_toList]
        refine asqD_mono (k R hR) fun T1 σ1 q => ⟨flOK_of (by rw [Array.toArray_toList]; exact q.1), q.2⟩)
      rw [Array.toArray_toList] at this
      exact this
    · cases h
  · cases h
def retOPre (P : Program) (fn : Func) (ks ids : List Nat) (k : Nat) (t : MS) : Option (TV × Sto) :=
  match t.reg with
  | none => match t.c with
    | .ret :: _ => match retOf P (keepF ks t.T) ((killF ids t.σ).take k) fn.results.toList with
      | some v => some (v, (killF ids t.σ).take k)
      | none => none
    | _ => none
  | some _ => none
theorem retOE (hb : Base E E0 G) (n : Nat) (ks ids : List Nat) (k : Nat) {fn : Func} {ρ : Type} {enc : ρ → TV} {σ' : Sto} {r x : ρ} (hq : x = r) (hs : UnderAll k σ') (h : retOPre P fn ks ids k (adv P G n s) = some (enc x, σ') := by kernel_rfl) (hm : Nat.ble m k = true := by kernel_rfl)
    (hu : (keepF ks (adv P G n s).T).all (TV.under k) = true := by kernel_rfl) : J E E0 P G m (KO P fn enc r σ') s := by
  refine adv_ok hb n ?_
  subst hq
  generalize adv P G n s = t at *
  obtain ⟨reg, c, ctx, T, σ⟩ := t
  unfold retOPre at h
  split at h
  · rename_i e; simp only at e; subst e
    split at h
    · rename_i r e; simp only at e; subst e
      split at h
      · rename_i v hv
        simp at h
        obtain ⟨rfl, rfl⟩ := h
        exact L_backF ks ids k rfl rfl (Nat.le_of_ble_eq_true hm) hu hs (L_ret (KJ_ret ⟨_, hv, rfl, rfl⟩))
      · cases h
    · cases h
  · cases h
/-! #### States in other words -/
/-- A part of a code. -/
def pick : Code → List Nat → Code
  | c, [] => c
  | .seq a b, i :: p => match i with | 0 => pick a p | _ => pick b p
  | .block _ c, _ :: p => pick c p
  | .loop c, _ :: p => pick c p
  | .cond _ a b, i :: p => match i with | 0 => pick a p | _ => pick b p
  | c, _ => c
def bodyOf (fn : Func) : Code := match fn.body with | some c => c | none => .skip
/-- A path told by a number: a leading 1, then the ways. -/
def pth : Nat → Nat → List Nat → List Nat
  | 0, _, l => l
  | f + 1, n, l => if Nat.ble n 1 then l else pth f (n / 2) (n % 2 :: l)
def pk (fn : Func) (n : Nat) : Code := pick (bodyOf fn) (pth 500 n [])
def cutM (ks : List Nat) (t : MS) : MS := ⟨t.reg, t.c, t.ctx, keepF ks t.T, t.σ⟩
theorem cpE (hb : Base E E0 G) (n : Nat) (ks : List Nat) {s' : MS} (k : J E E0 P G m K s') (h : cutM ks (adv P G n s) = s' := by kernel_rfl) (hk : codeAt (adv P G n s) = true := by kernel_rfl) : J E E0 P G m K s := by
  subst h
  refine adv_ok hb n ?_
  generalize adv P G n s = t at *
  obtain ⟨reg, c, ctx, T, σ⟩ := t
  unfold codeAt at hk
  split at hk
  · rename_i e; simp only at e; subst e
    split at hk
    · cases hk
    · rename_i d r e; simp only at e; subst e
      exact L_keepF ks rfl k
  · cases hk
theorem joinE (hb : Base E E0 G) {Z ρ : Type} (cont : Z → Option ρ) (st : Z → MS) {x : ρ} (h : ∀ z, cont z = some x → J E E0 P G m K (st z)) (k : (∀ z, cont z = some x → J E E0 P G m K (st z)) → J E E0 P G m K s) : J E E0 P G m K s := k h
/-! #### Lists of structs; longer literals -/
def Fl.of {α : Type} (c : α → List PV) (sz : Nat) (pos : 0 < sz) (len : ∀ x, (c x).length = sz) : Fl α where
  c := c
  f := fun l => (l.map c).flatten
  sz := sz
  pos := pos
  len := len
  nil := rfl
  cons _ _ := rfl
section
variable {α : Type} (F : Fl α)
theorem Fl.four (x y z u : α) : F.f [x, y, z, u] = F.c x ++ (F.c y ++ (F.c z ++ F.c u)) := by rw [F.cons, F.three]
theorem Fl.five (x y z u v : α) : F.f [x, y, z, u, v] = F.c x ++ (F.c y ++ (F.c z ++ (F.c u ++ F.c v))) := by rw [F.cons, F.four]
theorem Fl.six (x y z u v w : α) : F.f [x, y, z, u, v, w] = F.c x ++ (F.c y ++ (F.c z ++ (F.c u ++ (F.c v ++ F.c w)))) := by rw [F.cons, F.five]
theorem vL_four (x y z u : α) : vL F [x, y, z, u] = .pv (.sl false 4 (F.c x ++ (F.c y ++ (F.c z ++ F.c u)))) := by simp [pL, F.four]
theorem vL_five (x y z u v : α) : vL F [x, y, z, u, v] = .pv (.sl false 5 (F.c x ++ (F.c y ++ (F.c z ++ (F.c u ++ F.c v))))) := by simp [pL, F.five]
theorem vL_six (x y z u v w : α) : vL F [x, y, z, u, v, w] = .pv (.sl false 6 (F.c x ++ (F.c y ++ (F.c z ++ (F.c u ++ (F.c v ++ F.c w)))))) := by simp [pL, F.six]
end
end Abs
end Go.Proofs.YtoelojmcopcpcaaGreatDoor
