/-
  slices.SortFunc of strings by strings.Compare.
-/
import Derived.Test.YtodgepbihbcdbaaGreatDoorFlA
import Derived.Test.YtodgepbihbcdbaaGreatDoorValD
import Derived.Test.YtodgepbihbcdbaaGreatDoorAbsS
import Derived.Test.YtodgepbihbcdbaaGreatDoorABr
import Derived.Test.YtodgepbihbcdbaaGreatDoorShelf
namespace Go.Proofs.YtodgepbihbcdbaaGreatDoor
namespace Abs
open Go.RowKit Go.Lib Go.Sort
set_option linter.unusedVariables false
set_option linter.unusedSimpArgs false

/-! ### The order of strings -/
theorem lt_or_eq (x y : UInt8) (h : ¬ x < y) (h' : ¬ y < x) : x = y := UInt8.le_antisymm (UInt8.not_lt.1 h') (UInt8.not_lt.1 h)
theorem ltC : ∀ a b : List UInt8, decide (compareBytes a b < 0) = Op.bytesLess a b
  | [], [] => rfl
  | [], _ :: _ => by simp [compareBytes, Op.bytesLess]
  | _ :: _, [] => by simp [compareBytes, Op.bytesLess]
  | x :: a, y :: b => by
    unfold compareBytes Op.bytesLess
    by_cases h : x < y
    · simp [h]
    · by_cases h' : y < x
      · have hne : ¬ x = y := fun e => by subst e; exact h h'
        simp [h, h', hne]
      · obtain rfl := lt_or_eq x y h h'
        rw [if_neg h, if_neg h]
        simp [h, ltC a b]
theorem bl_irrefl : ∀ l : List UInt8, Op.bytesLess l l = false
  | [] => rfl
  | x :: r => by simp [Op.bytesLess, bl_irrefl r, UInt8.lt_irrefl]
theorem bl_trans : ∀ {a b c : List UInt8}, Op.bytesLess a b = true → Op.bytesLess b c = true → Op.bytesLess a c = true
  | [], [], _, h, _ => by simp [Op.bytesLess] at h
  | _ :: _, [], _, h, _ => by simp [Op.bytesLess] at h
  | _, _ :: _, [], _, h => by simp [Op.bytesLess] at h
  | [], _ :: _, _ :: _, _, _ => by simp [Op.bytesLess]
  | x :: a, y :: b, z :: c, h, k => by
    simp only [Op.bytesLess, Bool.or_eq_true, Bool.and_eq_true, decide_eq_true_eq, beq_iff_eq] at h k ⊢
    rcases h with h | ⟨rfl, h⟩
    · rcases k with k | ⟨rfl, k⟩
      · exact .inl (UInt8.lt_trans h k)
      · exact .inl h
    · rcases k with k | ⟨rfl, k⟩
      · exact .inl k
      · exact .inr ⟨rfl, bl_trans h k⟩
theorem bl_total : ∀ {a b : List UInt8}, Op.bytesLess a b = false → Op.bytesLess b a = false → a = b
  | [], [], _, _ => rfl
  | [], _ :: _, h, _ => by simp [Op.bytesLess] at h
  | _ :: _, [], _, h => by simp [Op.bytesLess] at h
  | x :: a, y :: b, h, k => by
    simp only [Op.bytesLess, Bool.or_eq_false_iff, Bool.and_eq_false_iff, decide_eq_false_iff_not, beq_eq_false_iff_ne] at h k
    obtain rfl := lt_or_eq x y h.1 k.1
    rw [bl_total (h.2.resolve_left fun k => k rfl) (k.2.resolve_left fun k => k rfl)]
theorem bl_ntrans {a b c : List UInt8} (h : Op.bytesLess a b = false) (k : Op.bytesLess b c = false) : Op.bytesLess a c = false := by
  cases e : Op.bytesLess a c with
  | false => rfl
  | true =>
    cases e2 : Op.bytesLess b a with
    | true => rw [bl_trans e2 e] at k; cases k
    | false => rw [bl_total h e2] at e; rw [e] at k; cases k
/-- strings.Compare. -/
def cmpS (a b : ByteArray) : Int := compareBytes a.data.toList b.data.toList
theorem ltS (a b : ByteArray) : ltOf cmpS a b = Op.bytesLess a.toList b.toList := by
  unfold ltOf cmpS
  rw [ltC, ByteArray.toList_eq, ByteArray.toList_eq]
theorem swoS : SWO (ltOf cmpS) where
  irrefl x := by rw [ltS]; exact bl_irrefl _
  trans x y z h k := by rw [ltS] at *; exact bl_trans h k
  ntrans x y z h k := by rw [ltS] at *; exact bl_ntrans h k
def m_sortS (xs : List ByteArray) : Option (List ByteArray) := if xs.length < 4611686018427387904 then some (sortP cmpS xs) else none
theorem m_sortS_len {xs ys : List ByteArray} (h : m_sortS xs = some ys) : ys.length = xs.length := by
  unfold m_sortS at h
  split at h
  · simp at h; subst h; exact (sortP_ok swoS xs).1.length_eq
  · cases h
section
variable {E : World → Prop} {E0 : Nat} {G : Nat → Option (List PV)}
theorem cmp_okQ (σ : Sto) (a b : ByteArray) : OkQ E E0 Tryz.prog 54 [.cell (.pv (.sc (.string a))), .cell (.pv (.sc (.string b)))] σ (.int .i64 (cmpS a b)) := by
  intro X w vs _ _ _ hv
  match vs, hv with
  | [u, v], ⟨hu, hv, _⟩ =>
  have eu : u = _ := hu.1
  have ev : v = _ := hv.1
  subst eu; subst ev
  exact (Tryz.strings_Compare a b w).mono fun e w' ⟨h1, h2⟩ => ⟨h1, 0, #[], by rw [h2, Sort.grow_empty]; rfl⟩
theorem vO_S (id : Nat) (xs : List ByteArray) : vO flS id xs = .own id xs.length 0 xs.length := by
  unfold vO
  rw [flS.length]
  simp [flS]
theorem sortS_g (hb : Base E E0 G) (_he : ∀ w, E w → EnvV w) {σ : Sto} (id : Nat) (nb : Bool) (xs : List ByteArray) (ho : σ[id]? = some (some (arO nb flS.sz 0 (flS.f xs)))) (y : List ByteArray) (h : m_sortS xs = some y) :
    Ok E E0 Tryz.prog 86 [.cell (vO flS id xs), .cell (.pv (.sc (.func (.func 54) #[] #[])))] σ (.tup []) (σ.set id (some (arO nb flS.sz 0 (flS.f y)))) := by
  unfold m_sortS at h
  split at h
  · rename_i hl
    simp at h; subst h
    rw [vO_S]
    exact sort_arO Tryz.laysSlF6_f86 hb (enc := Value.string) (fun _ => rfl) swoS (g := 54) (caps := []) (ds := xs) (enters_of Tryz.func54 (by kernel_rfl) rfl) ho hl (fun d _ x y => cmp_okQ _ x y)
  · cases h
noncomputable def m_cmpS (a b : ByteArray) : Option Int := some (cmpS a b)
theorem cmpS_g (hb : Base E E0 G) (_he : ∀ w, E w → EnvV w) (a b : ByteArray) (r : Int) (h : m_cmpS a b = some r) : Pure E E0 Tryz.prog 54 [.cell (vS a), .cell (vS b)] (c1 (vi r)) := by
  obtain rfl := Option.some.inj h
  exact Pure.of hb fun X w vs hE hv => match vs, hv with
    | [u, v], ⟨h1, h2, _⟩ => by
      rw [strRep h1, strRep h2]
      exact (Tryz.strings_Compare a b w).mono fun e w' ⟨k1, k2⟩ => ⟨_, k1, by rw [k2]; exact Below.refl _ _, fun X' => one_rep rep_int⟩
end
end Abs
end Go.Proofs.YtodgepbihbcdbaaGreatDoor
