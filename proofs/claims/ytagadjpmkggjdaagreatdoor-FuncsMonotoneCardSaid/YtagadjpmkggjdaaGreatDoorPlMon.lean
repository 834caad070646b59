/-
  Refined arguments give refined results, function by function.
  The law FuncsMonotone.
  The law FuncsMonotone: its filling.
-/
import Derived.Test.YtagadjpmkggjdaaGreatDoorPlFun
namespace Go.Proofs.YtagadjpmkggjdaaGreatDoor
set_option linter.unusedSimpArgs false
set_option linter.unusedVariables false
namespace Abs
open Go.RowKit
inductive Uok : Val → Prop
 | mk {v : Val} : (v.kind = 6 → v = vU) → (∀ x ∈ v.items, Uok x) → Uok v
theorem Uok.unk {v : Val} (h : Uok v) : v.kind = 6 → v = vU := by cases h; assumption
theorem Uok.item {v : Val} (h : Uok v) : ∀ x ∈ v.items, Uok x := by cases h; assumption
theorem qgh (v : Val) : Ck v → Uok v := by
 induction v using wfV.induction with
 | h v ih => intro c; exact .mk (fun h => qgi c.ok h) fun x hx => ih x hx (c.item x hx)
def RU (y x : Val) : Prop := Refs y x ∧ Uok x
inductive RL : List Val → List Val → Prop
 | nil : RL [] []
 | cons {y x : Val} {m l : List Val} : RU y x → RL m l → RL (y :: m) (x :: l)
theorem RL.len {m l : List Val} (h : RL m l) : m.length = l.length := by
 induction h with
 | nil => rfl
 | cons _ _ ih => rw [List.length_cons, List.length_cons, ih]
theorem RL.append {m l m' l' : List Val} (h : RL m l) (h' : RL m' l') : RL (m ++ m') (l ++ l') := by
 induction h with
 | nil => exact h'
 | cons a _ ih => exact .cons a ih
theorem RL.reverse {m l : List Val} (h : RL m l) : RL m.reverse l.reverse := by
 induction h with
 | nil => exact .nil
 | cons a _ ih => rw [List.reverse_cons, List.reverse_cons]; exact ih.append (.cons a .nil)
theorem RL.drop {m l : List Val} (h : RL m l) : ∀ n, RL (m.drop n) (l.drop n) := by
 induction h with
 | nil => intro n; rw [List.drop_nil]; exact .nil
 | cons a b ih =>
  intro n
  cases n with
  | zero => exact .cons a b
  | succ n => exact ih n
theorem RL.take {m l : List Val} (h : RL m l) : ∀ n, RL (m.take n) (l.take n) := by
 induction h with
 | nil => intro n; rw [List.take_nil]; exact .nil
 | cons a b ih =>
  intro n
  cases n with
  | zero => exact .nil
  | succ n => exact .cons a (ih n)
theorem RL.get {m l : List Val} (h : RL m l) {i : Nat} {y x : Val} (hy : m[i]? = some y) (hx : l[i]? = some x) : RU y x := by
 induction h generalizing i with
 | nil => simp at hx
 | cons a _ ih =>
  cases i with
  | zero => simp at hy hx; subst hy hx; exact a
  | succ i => simp at hy hx; exact ih hy hx
theorem RL.of {m : List Val} : ∀ {l : List Val}, m.length = l.length → (∀ (i : Nat) y x, m[i]? = some y → l[i]? = some x → RU y x) → RL m l := by
 induction m with
 | nil => intro l h _; cases l with
  | nil => exact .nil
  | cons => simp at h
 | cons y m ih =>
  intro l h g
  cases l with
  | nil => simp at h
  | cons x l => exact .cons (g 0 y x rfl rfl) (ih (by simpa using h) fun i a b ha hb => g (i + 1) a b (by simpa using ha) (by simpa using hb))
theorem RL.eq {m l : List Val} (h : RL m l) (hk : ∀ y x, RU y x → x ∈ l → y = x) : m = l := by
 induction h with
 | nil => rfl
 | cons a _ ih =>
  rw [hk _ _ a List.mem_cons_self, ih fun y x r hx => hk y x r (List.mem_cons_of_mem _ hx)]
theorem RU.known {y x : Val} (h : RU y x) (hk : q7 x = true) : y = x := qfu y x hk h.1
theorem RU.flat {y x : Val} (h : RU y x) (h6 : x.kind ≠ 6) (hi : x.items = []) : y = x := h.known (q98 h6 fun z hz => by rw [hi] at hz; exact absurd hz List.not_mem_nil)
theorem RU.refl {x : Val} (h : Uok x) : RU x x := ⟨Refs.refl x, h⟩
theorem RU.unk {y : Val} : RU y vU := ⟨.unk rfl, .mk (fun _ => rfl) fun x hx => absurd hx List.not_mem_nil⟩
theorem RU.parts {y x : Val} (h : RU y x) (h6 : x.kind ≠ 6) : y.kind = x.kind ∧ y.num = x.num ∧ y.str = x.str ∧ y.keys = x.keys ∧ RL y.items x.items := by
 obtain ⟨a1, a2, a3, a4, a5, a6⟩ := qcb h.1 h6
 exact ⟨a1, a2, a3, a4, .of a5 fun i b c hb hc => ⟨a6 i b c hb hc, h.2.item c (List.mem_of_getElem? hc)⟩⟩
theorem RU.list {m l : List Val} (h : RL m l) : RU (lV m) (lV l) := by
 refine ⟨.node rfl rfl rfl rfl h.len fun i x y hx hy => (h.get hx hy).1, .mk (fun h => absurd h (by decide : ¬ (4 : Int) = 6)) fun x hx => ?_⟩
 obtain ⟨i, hi⟩ := List.getElem?_of_mem (show x ∈ l from hx)
 have hil := (List.getElem?_eq_some_iff.1 hi).1
 exact (h.get (List.getElem?_eq_getElem (h.len ▸ hil)) hi).2
inductive RP : List (ByteArray × Val) → List (ByteArray × Val) → Prop
 | nil : RP [] []
 | cons {k : ByteArray} {y x : Val} {m l : List (ByteArray × Val)} : RU y x → RP m l → RP ((k, y) :: m) ((k, x) :: l)
theorem RP.ins {k : ByteArray} {y x : Val} (a : RU y x) {m l : List (ByteArray × Val)} (h : RP m l) : RP (insP (k, y) m) (insP (k, x) l) := by
 induction h with
 | nil => exact .cons a .nil
 | @cons k2 y2 x2 m l b h ih =>
  unfold insP
  by_cases c : Op.bytesLess k2.toList k.toList = true
  ·rw [if_pos c, if_pos c]; exact .cons b ih
  ·rw [if_neg c, if_neg c]; exact .cons a (.cons b h)
theorem RP.fold {m l : List (ByteArray × Val)} (h : RP m l) : ∀ {m' l' : List (ByteArray × Val)}, RP m' l' → RP (qv m' m) (qv l' l) := by
 induction h with
 | nil => intro m' l' h; exact h
 | cons a _ ih => intro m' l' h; exact ih (h.ins a)
theorem RP.put {k : ByteArray} {y x : Val} (a : RU y x) {m l : List (ByteArray × Val)} (h : RP m l) : RP (mput m k y) (mput l k x) := by
 induction h with
 | nil => exact .cons a .nil
 | @cons k2 y2 x2 m l b h ih =>
  unfold mput
  by_cases c : k = k2
  ·rw [if_pos c, if_pos c]; exact .cons a h
  ·rw [if_neg c, if_neg c]; exact .cons b ih
theorem RP.putAll {m l : List (ByteArray × Val)} (h : RP m l) : ∀ {m' l' : List (ByteArray × Val)}, RP m' l' → RP (putAll m' m) (putAll l' l) := by
 induction h with
 | nil => intro m' l' h; exact h
 | cons a _ ih => intro m' l' h; exact ih (h.put a)
theorem RP.zip : ∀ (ks : List ByteArray) {m l : List Val}, RL m l → RP (ks.zip m) (ks.zip l)
 | [], m, l, _ => .nil
 | k :: ks, m, l, h => by
  cases h with
  | nil => exact .nil
  | cons a h => exact .cons a (RP.zip ks h)
theorem RP.map {m l : List (ByteArray × Val)} (h : RP m l) : m.map (·.1) = l.map (·.1) ∧ RL (m.map (·.2)) (l.map (·.2)) := by
 induction h with
 | nil => exact ⟨rfl, .nil⟩
 | cons a _ ih => exact ⟨by rw [List.map_cons, List.map_cons, ih.1], .cons a ih.2⟩
theorem RU.mapOf {m l : List (ByteArray × Val)} (h : RP m l) : RU (mapOf m) (mapOf l) := by
 obtain ⟨e, r⟩ := h.map
 refine ⟨.node rfl rfl rfl e r.len fun i x y hx hy => (r.get hx hy).1, .mk (fun h => absurd h (by decide : ¬ (5 : Int) = 6)) fun x hx => ?_⟩
 obtain ⟨i, hi⟩ := List.getElem?_of_mem (show x ∈ l.map (·.2) from hx)
 have hil := (List.getElem?_eq_some_iff.1 hi).1
 exact (r.get (List.getElem?_eq_getElem (r.len ▸ hil)) hi).2
theorem RP.merge {m l : List Val} (h : RL m l) (h6 : ∀ x ∈ l, x.kind ≠ 6) : ∀ {m' l' : List (ByteArray × Val)}, RP m' l' → RP (q4o m' m) (q4o l' l) := by
 induction h with
 | nil => intro m' l' h; exact h
 | @cons y x m l a _ ih =>
  intro m' l' h
  obtain ⟨_, _, _, e, r⟩ := a.parts (h6 x List.mem_cons_self)
  refine ih (fun z hz => h6 z (List.mem_cons_of_mem _ hz)) ?_
  show RP (Abs.putAll m' (y.keys.zip y.items)) (Abs.putAll l' (x.keys.zip x.items))
  rw [e]
  exact (RP.zip x.keys r).putAll h
def Mono (r r' : Val × Int) : Prop := r' = r ∨ r'.2 ≠ 0 ∨ (r.2 = 0 ∧ RU r'.1 r.1)
theorem Mono.of {a b : Val} (h : RU b a) : Mono (a, 0) (b, 0) := .inr (.inr ⟨rfl, h⟩)
theorem Mono.unk {r : Val × Int} : Mono (vU, 0) r := .inr (.inr ⟨rfl, RU.unk⟩)
theorem qu2 {m l : List Val} {w v : Val} (h : RL m l) (hv : RU w v) : Mono (q3g l v, 0) (q3g m w, 0) := by
 have key : ∀ {m l : List Val}, RL m l → ((l.any fun x => ql x v) = true → (m.any fun x => ql x w) = true) ∧ ((l.all fun x => difV x v) = true → (m.all fun x => difV x w) = true ∧ (m.any fun x => ql x w) = false) := by
  intro m l h
  induction h with
  | nil => exact ⟨fun h => h, fun _ => ⟨rfl, rfl⟩⟩
  | @cons y x m l a _ ih =>
   simp only [List.any_cons, List.all_cons, Bool.or_eq_true, Bool.and_eq_true, Bool.or_eq_false_iff]
   refine ⟨fun h => h.imp (qd3 a.1 hv.1) ih.1, fun ⟨h1, h2⟩ => ⟨⟨qau x v y w a.1 hv.1 h1, (ih.2 h2).1⟩, ?_, (ih.2 h2).2⟩⟩
   cases e : ql y w with
   | false => rfl
   | true =>
    have := qae e
    rw [qau x v y w a.1 hv.1 h1] at this; cases this
 obtain ⟨k1, k2⟩ := key h
 unfold q3g
 cases h1 : (l.any fun x => ql x v) with
 | true => rw [k1 h1]; exact .inl rfl
 | false =>
  rw [cond_false]
  cases h2 : (l.all fun x => difV x v) with
  | true => rw [(k2 h2).1, (k2 h2).2]; exact .inl rfl
  | false => exact .unk
theorem qu3 : ∀ {m l : List Val}, RL m l → ∀ {pm pl am al : List Val}, RL pm pl → RL am al → Mono (q29 pl al l, 0) (q29 pm am m, 0) := by
 intro m l h
 induction h with
 | nil => intro pm pl am al hp ha; rw [q29, q29]; exact .of (RU.list ha)
 | @cons y x m l a _ ih =>
  intro pm pl am al hp ha
  rw [q8w pl al x l]
  cases hu : (pl.any fun z => !ql x z && !difV x z) with
  | true => exact .unk
  | false =>
   have key : ∀ {pm pl : List Val}, RL pm pl → (pl.any fun z => !ql x z && !difV x z) = false → (pm.any fun z => !ql y z && !difV y z) = false ∧ (pm.any fun z => ql y z) = (pl.any fun z => ql x z) := by
    intro pm pl h
    induction h with
    | nil => intro _; exact ⟨rfl, rfl⟩
    | @cons q p pm pl b _ ih =>
     intro h
     simp only [List.any_cons, Bool.or_eq_false_iff] at h
     obtain ⟨i1, i2⟩ := ih h.2
     have : (ql x p = true ∧ ql y q = true) ∨ (ql x p = false ∧ ql y q = false ∧ difV y q = true) := by
      cases e : ql x p with
      | true => exact .inl ⟨rfl, qd3 a.1 b.1 e⟩
      | false =>
       right
       have hd : difV x p = true := by
        have := h.1
        rw [e] at this; simpa using this
       have hd2 := qau x p y q a.1 b.1 hd
       refine ⟨rfl, ?_, hd2⟩
       cases e2 : ql y q with
       | false => rfl
       | true => rw [qae e2] at hd2; cases hd2
     simp only [List.any_cons, i2]
     rcases this with ⟨e1, e2⟩ | ⟨e1, e2, e3⟩
     ·rw [e1, e2]; exact ⟨by rw [i1]; rfl, rfl⟩
     ·rw [e1, e2, e3]; exact ⟨by rw [i1]; rfl, rfl⟩
   obtain ⟨k1, k2⟩ := key hp hu
   rw [q8w pm am y m, k1, k2, cond_false, cond_false]
   refine ih (hp.append (.cons a .nil)) ?_
   cases (pl.any fun z => ql x z)
   ·exact ha.append (.cons a .nil)
   ·exact ha
theorem qu6 (x : Val) : ∀ y z, RU y x → q5l x = some z → ∃ z', q5l y = some z' ∧ RL z' z := by
 induction x using wfV.induction with
 | h x ih =>
  intro y z hr hz
  rw [q7o] at hz
  by_cases h6 : x.kind = 6
  ·rw [if_pos h6] at hz; cases hz
  rw [if_neg h6] at hz
  obtain ⟨e1, _, _, _, r⟩ := hr.parts h6
  rw [q7o, e1, if_neg h6]
  by_cases h4 : x.kind = 4
  ·rw [if_pos h4] at hz ⊢
   have key : ∀ {m l : List Val}, RL m l → (∀ v ∈ l, v ∈ x.items) → ∀ z, q1c l = some z → ∃ z', q1c m = some z' ∧ RL z' z := by
    intro m l h
    induction h with
    | nil => intro _ z hz; rw [q5k] at hz ⊢; obtain rfl := Option.some.inj hz; exact ⟨[], rfl, .nil⟩
    | @cons w v m l a _ ihr =>
     intro hl z hz
     rw [q4j] at hz
     obtain ⟨p, h1, hz⟩ := Option.bind_eq_some_iff.1 hz
     obtain ⟨q, h2, rfl⟩ := Option.map_eq_some_iff.1 hz
     obtain ⟨p', g1, r1⟩ := ih v (hl v List.mem_cons_self) w p a h1
     obtain ⟨q', g2, r2⟩ := ihr (fun u hu => hl u (List.mem_cons_of_mem _ hu)) q h2
     exact ⟨p' ++ q', by rw [q4j, g1, g2]; rfl, r1.append r2⟩
   exact key r (fun _ h => h) z hz
  ·rw [if_neg h4] at hz ⊢
   obtain rfl := Option.some.inj hz
   exact ⟨[y], rfl, .cons hr .nil⟩
theorem qu5 {m l : List Val} (h : RL m l) : ∀ z, q1c l = some z → ∃ z', q1c m = some z' ∧ RL z' z := by
 induction h with
 | nil => intro z hz; rw [q5k] at hz ⊢; obtain rfl := Option.some.inj hz; exact ⟨[], rfl, .nil⟩
 | @cons w v m l a _ ih =>
  intro z hz
  rw [q4j] at hz
  obtain ⟨p, h1, hz⟩ := Option.bind_eq_some_iff.1 hz
  obtain ⟨q, h2, rfl⟩ := Option.map_eq_some_iff.1 hz
  obtain ⟨p', g1, r1⟩ := qu6 v w p a h1
  obtain ⟨q', g2, r2⟩ := ih q h2
  exact ⟨p' ++ q', by rw [q4j, g1, g2]; rfl, r1.append r2⟩
theorem qu7 {w v : Val} (hv : RU w v) : ∀ {m l : List Val}, RL m l → ∀ i, Mono (q24 v i l) (q24 w i m) := by
 intro m l h
 induction h with
 | nil => intro i; rw [q24, q24]; exact .inl rfl
 | @cons y x m l a _ ih =>
  intro i
  rw [q7p, q7p]
  cases e : ql x v with
  | true => rw [qd3 a.1 hv.1 e]; exact .inl rfl
  | false =>
   rw [cond_false]
   cases d : difV x v with
   | false => exact .unk
   | true =>
    have d2 := qau x v y w a.1 hv.1 d
    have e2 : ql y w = false := by
     cases e2 : ql y w with
     | false => rfl
     | true => rw [qae e2] at d2; cases d2
    rw [e2, d2]
    exact ih (i + 1)
theorem qu1 : ∀ {m l : List Val}, RL m l → Mono (q3f l, 0) (q3f m, 0) := by
 intro m l h
 induction h with
 | nil => exact .inl rfl
 | @cons y x m l a _ ih =>
  rw [q3f, q3f]
  by_cases h0 : x.kind = 0
  ·have := (a.parts (by omega)).1
   rw [if_pos h0, if_pos (by omega)]; exact ih
  ·rw [if_neg h0]
   by_cases h6 : x.kind = 6
   ·rw [a.2.unk h6]; exact .unk
   ·have := (a.parts h6).1
    rw [if_neg (by omega)]; exact .of a
theorem RL.flatMap {m l : List Val} (h : RL m l) (h6 : ∀ x ∈ l, x.kind ≠ 6) : RL (m.flatMap Val.items) (l.flatMap Val.items) := by
 induction h with
 | nil => exact .nil
 | @cons y x m l a _ ih =>
  rw [List.flatMap_cons, List.flatMap_cons]
  exact (a.parts (h6 x List.mem_cons_self)).2.2.2.2.append (ih fun z hz => h6 z (List.mem_cons_of_mem _ hz))
theorem qu4 {l n l' n' : Val} (hl : RU l' l) (hn : RU n' n) (k4 : l.kind = 4 ∨ l.kind = 6) (k2 : n.kind = 2 ∨ n.kind = 6) (hni : n.items = []) (hnp : n.kind ≠ 6 → True) : Mono (q2s l n) (q2s l' n') := by
 unfold q2s
 by_cases h6 : l.kind = 6
 ·rw [if_neg (by omega), if_pos (.inl h6)]; exact .unk
 obtain ⟨e1, _, _, _, r⟩ := hl.parts h6
 have el := r.len
 by_cases h0 : l.items.length = 0
 ·rw [if_pos ⟨by omega, h0⟩, if_pos ⟨by omega, by omega⟩]; exact .inl rfl
 rw [if_neg (fun h => h0 h.2)]
 by_cases n6 : n.kind = 6
 ·rw [if_pos (.inr n6)]; exact .unk
 have hnn := hn.flat n6 hni
 subst hnn
 rw [if_neg (fun h => h.elim h6 n6), if_neg (fun h => h0 (by omega)), if_neg (fun h => h.elim (by omega) n6), el]
 have hlt : (n'.num % (l.items.length : Int)).toNat < l.items.length := by
  have := Int.emod_nonneg n'.num (show (l.items.length : Int) ≠ 0 by omega)
  have := Int.emod_lt_of_pos n'.num (show (0 : Int) < l.items.length by omega)
  omega
 generalize (n'.num % (l.items.length : Int)).toNat = j at hlt
 have a1 := List.getElem?_eq_getElem hlt
 have a2 := List.getElem?_eq_getElem (show j < l'.items.length by omega)
 rw [List.getD_eq_getElem?_getD, List.getD_eq_getElem?_getD, a1, a2]
 exact .of (r.get a2 a1)
theorem qky : ∀ {xs' xs : List Val} (ks : List ByteArray) (n : ByteArray), RL xs' xs → RU (look ks xs' n) (look ks xs n)
 | xs', xs, [], n, _ => by
  have e : ∀ l, look [] l n = vZ := fun l => by cases l <;> rfl
  rw [e, e]; exact .refl (qgh _ qa5)
 | xs', xs, k :: ks, n, h => by
  cases h with
  | nil => exact .refl (qgh _ qa5)
  | cons a h =>
   rw [look, look]
   by_cases c : k = n
   ·rw [if_pos c, if_pos c]; exact a
   ·rw [if_neg c, if_neg c]; exact qky ks n h
theorem qu8 {m k m' k' : Val} {d d' : Option Val} (hm : RU m' m) (hk : RU k' k) (hki : k.items = []) (hd : (d' = none ∧ d = none) ∨ ∃ y x, d' = some y ∧ d = some x ∧ RU y x) : Mono (q3w m k d) (q3w m' k' d') := by
 unfold q3w
 by_cases m6 : m.kind = 6
 ·rw [if_pos (.inl m6)]; exact .unk
 by_cases k6 : k.kind = 6
 ·rw [if_pos (.inr k6)]; exact .unk
 have hkk := hk.flat k6 hki
 subst hkk
 obtain ⟨e1, _, _, e4, r⟩ := hm.parts m6
 rw [if_neg (fun h => h.elim m6 k6), if_neg (fun h => h.elim (by omega) k6), e4]
 cases hasB m.keys k'.str with
 | true => exact .of (qky m.keys k'.str r)
 | false =>
  rw [cond_false, cond_false]
  rcases hd with ⟨rfl, rfl⟩ | ⟨y, x, rfl, rfl, a⟩
  ·exact .inl rfl
  ·exact .of a
theorem qyk : ∀ {m l : List Val}, RL m l → (∀ x ∈ l, x.items = [] ∨ x.kind = 6) → ∀ {am al : List ByteArray}, (∀ s ∈ al, s ∈ am) → zipE al l = none → zipE am m = none := by
 intro m l h
 induction h with
 | nil => intro _ am al _ h; rw [zipE] at h; cases h
 | @cons y x m l a _ ih =>
  intro hl am al hs h
  have hl2 := fun z hz => hl z (List.mem_cons_of_mem _ hz)
  rw [zipE] at h ⊢
  by_cases h6 : x.kind = 6
  ·rw [if_pos h6] at h
   by_cases y6 : y.kind = 6
   ·rw [if_pos y6]; exact ih hl2 hs h
   ·rw [if_neg y6]
    cases hasB am y.str with
    | true => rfl
    | false => exact ih hl2 (fun s hs2 => List.mem_append_left _ (hs s hs2)) h
  ·have e := a.flat h6 ((hl x List.mem_cons_self).elim id fun h => absurd h h6)
   subst e
   rw [if_neg h6] at h ⊢
   cases hb : hasB am y.str with
   | true => rfl
   | false =>
    have : hasB al y.str = false := by
     cases e : hasB al y.str with
     | false => rfl
     | true => rw [q4k.2 (hs _ (q4k.1 e))] at hb; cases hb
    rw [this, cond_false] at h
    refine ih hl2 (fun s hs2 => ?_) h
    rcases List.mem_append.1 hs2 with hs2 | hs2
    ·exact List.mem_append_left _ (hs s hs2)
    ·exact List.mem_append_right _ hs2
theorem qu9 {k v k' v' : Val} (hk : RU k' k) (hv : RU v' v) (k4 : k.kind = 4 ∨ k.kind = 6) (v4 : v.kind = 4 ∨ v.kind = 6) (hki : ∀ x ∈ k.items, x.items = [] ∨ x.kind = 6) : Mono (zipS k v) (zipS k' v') := by
 by_cases k6 : k.kind = 6
 ·have e : k = vU := hk.2.unk k6
  have : zipS k v = (vU, 0) := by
   rw [e]; unfold zipS
   rw [if_neg (fun h => absurd h.1 (by decide))]; rfl
  rw [this]; exact .unk
 obtain ⟨e1, _, _, _, r⟩ := hk.parts k6
 have el := r.len
 unfold zipS
 by_cases hd : k.kind = 4 ∧ v.kind = 4 ∧ k.items.length ≠ v.items.length
 ·obtain ⟨f1, _, _, _, rv⟩ := hv.parts (by omega)
  have := rv.len
  rw [if_pos hd, if_pos ⟨by omega, by omega, by omega⟩]; exact .inl rfl
 rw [if_neg hd]
 by_cases hd' : k'.kind = 4 ∧ v'.kind = 4 ∧ k'.items.length ≠ v'.items.length
 ·rw [if_pos hd']; exact .inr (.inl (by decide))
 rw [if_neg hd']
 cases hz : zipE [] k.items with
 | none =>
  rw [qyk r hki (fun s h => h) hz]; exact .inl rfl
 | some ks =>
  show Mono (if q7 k = false ∨ v.kind = 6 then (vU, 0) else (mapOf (qv [] (ks.zip v.items)), 0)) _
  by_cases hc : q7 k = false ∨ v.kind = 6
  ·rw [if_pos hc]; exact .unk
  rw [if_neg hc]
  have hkn : q7 k = true := by
   cases e : q7 k with
   | true => rfl
   | false => exact absurd (.inl e) hc
  have v6 : v.kind ≠ 6 := fun h => hc (.inr h)
  have e := hk.known hkn
  subst e
  obtain ⟨f1, _, _, _, rv⟩ := hv.parts v6
  rw [hz]
  show Mono _ (if q7 k' = false ∨ v'.kind = 6 then (vU, 0) else (mapOf (qv [] (ks.zip v'.items)), 0))
  rw [if_neg (fun h => h.elim (fun h => hc (.inl h)) (by omega))]
  exact .of (RU.mapOf ((RP.zip ks rv).fold .nil))
theorem qig {k : Int} (hk : k = 1 ∨ k = 2 ∨ k = 3) {v : Val} (c : Ck v) (h : v.kind = 4 ∨ v.kind = 5) : cvS k v = (vZ, 6) := by
 unfold cvS
 rw [if_neg (by omega)]
 rcases hk with rfl | rfl | rfl
 ·rw [qn2 v (by omega) (by omega)]
  unfold q25 gQ0a
  rw [decide_eq_false (show ¬ v.kind = 1 by omega), decide_eq_false (show ¬ v.kind = 3 by omega)]; rfl
 ·rw [qn3 v (by omega) (by omega)]
  unfold q25 gQ0c
  rw [decide_eq_false (show ¬ v.kind = 2 by omega), decide_eq_false (show ¬ v.kind = 3 by omega)]; rfl
 ·rw [qn4 v (by omega) (by omega)]
  unfold q25 gQ0i
  rw [decide_eq_false (show ¬ v.kind = 3 by omega), decide_eq_false (show ¬ v.kind = 2 by omega), decide_eq_false (show ¬ v.kind = 1 by omega)]; rfl
theorem qf9 {k : Int} (hk : k = 1 ∨ k = 2 ∨ k = 3) {y v : Val} (h : RU y v) (c : Ck v) (c2 : Ck y) : Mono (tocS k v) (tocS k y) := by
 by_cases h6 : v.kind = 6
 ·have : tocS k v = (vU, 0) := by
   unfold tocS
   rw [if_neg (by omega), h.2.unk h6]
   unfold cvS
   rw [if_neg (by decide), q6b, if_pos (.inr (.inr rfl))]
  rw [this]; exact .unk
 have e1 := (h.parts h6).1
 by_cases hc : v.kind = 4 ∨ v.kind = 5
 ·unfold tocS
  rw [if_neg (by omega), if_neg (by omega), qig hk c hc, qig hk c2 (by omega)]; exact .inl rfl
 ·rw [h.flat h6 (c.ok.shape.2.2.2.2.2.1 (by omega) (by omega))]; exact .inl rfl
end Abs
end Go.Proofs.YtagadjpmkggjdaaGreatDoor
namespace Go.Proofs.YtagadjpmkggjdaaGreatDoor
set_option linter.unusedSimpArgs false
set_option linter.unusedVariables false
namespace Abs
open Go.RowKit
theorem qi1 {x : Val} {lv n : Int} (h : (qo x lv n).1 = 0) : lv ≤ 32 ∧ n < 4096 := by
 rw [q46] at h
 by_cases c1 : 32 < lv
 ·rw [if_pos c1] at h; simp at h
 rw [if_neg c1] at h
 by_cases c2 : 4096 ≤ n
 ·rw [if_pos c2] at h; simp at h
 omega
theorem checkU {lv n : Int} (h1 : lv ≤ 32) (h2 : n < 4096) : qo vU lv n = (0, n + 1) := by
 rw [q46, if_neg (by omega), if_neg (by omega), if_neg (by rw [qfh]; decide)]; rfl
theorem qum {a b : Val} (h1 : a.kind = b.kind) (h2 : a.num = b.num) (h3 : a.str = b.str) (h4 : a.keys = b.keys) (h5 : a.items.length = b.items.length) : qi a = qi b := by
 unfold qi q1u
 rw [h1, h2, h3, h4, h5]
theorem qq0 (x : Val) : ∀ (y : Val) (lv n n' : Int), RU y x → 0 ≤ n' → n' ≤ n → (qo y lv n).1 = 0 → (qo x lv n').1 = 0 ∧ (qo x lv n').2 ≤ (qo y lv n).2 := by
 induction x using wfV.induction with
 | h x ih =>
  intro y lv n n' hr h0 hn h
  obtain ⟨b1, b2⟩ := qi1 h
  by_cases h6 : x.kind = 6
  ·rw [hr.2.unk h6, checkU b1 (by omega)]
   refine ⟨rfl, ?_⟩
   show n' + 1 ≤ (qo y lv n).2
   rw [q46, if_neg (by omega), if_neg (by omega)] at h ⊢
   by_cases c : qi y ≠ 0
   ·rw [if_pos c] at h; exact absurd h c
   rw [if_neg c]
   have : ∀ (l : List Val) (lv n : Int), 0 ≤ n → n ≤ 4096 → n ≤ (qk l lv n).2 := by
    intro l
    induction l with
    | nil => intro lv n _ _; rw [qk]; exact Int.le_refl _
    | cons z r ihl =>
     intro lv n g1 g2
     rw [qk]
     obtain ⟨g3, g4⟩ := q7j z lv n g1 g2
     split
     ·exact g3
     ·exact Int.le_trans g3 (ihl lv _ (by omega) g4)
   have := this y.items (lv + 1) (n + 1) (by omega) (by omega)
   omega
  ·obtain ⟨e1, e2, e3, e4, r⟩ := hr.parts h6
   rw [q46 y lv n, if_neg (by omega), if_neg (by omega)] at h ⊢
   rw [q46 x lv n', if_neg (by omega), if_neg (by omega)]
   rw [← qum e1 e2 e3 e4 r.len]
   by_cases c : qi y ≠ 0
   ·rw [if_pos c] at h; exact absurd h c
   rw [if_neg c] at h ⊢
   rw [if_neg c]
   have key : ∀ {m l : List Val}, RL m l → (∀ z ∈ l, z ∈ x.items) → ∀ (lv n n' : Int), 0 ≤ n' → n' ≤ n → (qk m lv n).1 = 0 → (qk l lv n').1 = 0 ∧ (qk l lv n').2 ≤ (qk m lv n).2 := by
    intro m l hrl
    induction hrl with
    | nil => intro _ lv n n' _ h2 _; rw [qk, qk]; exact ⟨rfl, h2⟩
    | @cons w z m l a _ ihr =>
     intro hl lv n n' g0 g1 g
     by_cases cw : (qo w lv n).1 ≠ 0
     ·rw [qk, if_pos cw] at g; exact absurd g cw
     have e : qk (w :: m) lv n = qk m lv (qo w lv n).2 := by rw [qk, if_neg cw]
     rw [e] at g ⊢
     have cw' := Classical.not_not.1 cw
     obtain ⟨p1, p2⟩ := ih z (hl z List.mem_cons_self) w lv n n' a g0 g1 cw'
     rw [qk, if_neg (by simp [p1])]
     have hb := qi1 p1
     exact ihr (fun u hu => hl u (List.mem_cons_of_mem _ hu)) lv _ _ (by have := q7j z lv n' g0 (by omega); omega) p2 g
   exact key r (fun _ h => h) (lv + 1) (n + 1) (n' + 1) (by omega) (by omega) h
theorem qpw {x y : Val} (h : RU y x) (hc : qf y = 0) : qf x = 0 := (qq0 x y 1 0 0 h (by decide) (by decide) hc).1
theorem qr7 {r r' : Val × Int} (h : Mono r r') : ((finS r).2 ≠ 0 → (finS r').2 ≠ 0) ∧ ((finS r).2 = 0 → (finS r').2 ≠ 0 ∨ Refs (finS r').1 (finS r).1) := by
 rcases h with h | h | ⟨h1, h2⟩
 ·rw [h]; exact ⟨id, fun _ => .inr (Refs.refl _)⟩
 ·have : (finS r').2 ≠ 0 := by unfold finS; rw [if_neg h]; exact h
  exact ⟨fun _ => this, fun _ => .inl this⟩
 ·by_cases h' : r'.2 = 0
  case neg =>
   have : (finS r').2 ≠ 0 := by unfold finS; rw [if_neg h']; exact h'
   exact ⟨fun _ => this, fun _ => .inl this⟩
  by_cases hc : qf r'.1 = 0
  case neg =>
   have : (finS r').2 ≠ 0 := by unfold finS; rw [if_pos h', if_neg hc]; exact hc
   exact ⟨fun _ => this, fun _ => .inl this⟩
  have hc2 := qpw h2 hc
  have e1 : finS r = (r.1, 0) := by unfold finS; rw [if_pos h1, if_pos hc2]
  have e2 : finS r' = (r'.1, 0) := by unfold finS; rw [if_pos h', if_pos hc]
  rw [e1, e2]
  exact ⟨fun h => absurd rfl h, fun _ => .inr h2.1⟩
theorem RL.at {m l : List Val} (h : RL m l) {i : Nat} {x : Val} (hx : l[i]? = some x) : ∃ y, m[i]? = some y ∧ RU y x := by
 have hil := (List.getElem?_eq_some_iff.1 hx).1
 have hy := List.getElem?_eq_getElem (show i < m.length by rw [h.len]; exact hil)
 exact ⟨_, hy, h.get hy hx⟩
theorem q6n {y x : Val} {k : List Int} (h : RU y x) (hy : isK y k = true) : isK x k = true := by
 by_cases h6 : x.kind = 6
 ·unfold isK; rw [decide_eq_true h6, Bool.or_true]
 ·unfold isK at hy ⊢
  rw [(h.parts h6).1] at hy; exact hy
theorem qh0 {y x : Val} {k : Int} (h : RU y x) (hy : allK y k = true) : allK x k = true := by
 unfold allK at hy ⊢
 rw [Bool.and_eq_true, List.all_eq_true] at hy ⊢
 refine ⟨q6n h hy.1, fun z hz => ?_⟩
 by_cases h6 : x.kind = 6
 ·rw [h.2.unk h6] at hz; exact absurd hz List.not_mem_nil
 ·obtain ⟨i, hi⟩ := List.getElem?_of_mem hz
  obtain ⟨w, hw, a⟩ := (h.parts h6).2.2.2.2.at hi
  exact q6n a (hy.2 w (List.mem_of_getElem? hw))
theorem qr9 {y x : Val} {c : Int} (h : RU y x) (hy : fitK y c = true) : fitK x c = true := by
 unfold fitK at hy ⊢
 split
 ·rename_i h1; rw [if_pos h1] at hy; exact q6n h hy
 rename_i h1; rw [if_neg h1] at hy
 split
 ·rename_i h1; rw [if_pos h1] at hy; exact q6n h hy
 rename_i h1; rw [if_neg h1] at hy
 split
 ·rename_i h1; rw [if_pos h1] at hy; exact q6n h hy
 rename_i h1; rw [if_neg h1] at hy
 split
 ·rename_i h1; rw [if_pos h1] at hy; exact q6n h hy
 rename_i h1; rw [if_neg h1] at hy
 split
 ·rename_i h1; rw [if_pos h1] at hy; exact qh0 h hy
 rename_i h1; rw [if_neg h1] at hy
 split
 ·rename_i h1; rw [if_pos h1] at hy; exact qh0 h hy
 rename_i h1; rw [if_neg h1] at hy
 split
 ·rename_i h1; rw [if_pos h1] at hy; exact q6n h hy
 rfl
theorem qra {k : Nm} {m l : List Val} (h : RL m l) (hm : q2i k m = true) : q2i k l = true := by
 unfold q2i
 rw [List.all_eq_true]
 rintro ⟨x, i⟩ hp
 rw [List.mem_zipIdx_iff_getElem?] at hp
 obtain ⟨y, hy, a⟩ := h.at hp
 exact qr9 a (q2a hm hy)
theorem qvi {k : Nm} {m l : List Val} (h : RL m l) (ho : q1t k l = false) : q1t k m = false := by
 unfold q1t
 rw [List.any_eq_false]
 rintro ⟨y, i⟩ hp
 rw [List.mem_zipIdx_iff_getElem?] at hp
 replace hp : m[i]? = some y := hp
 have hil := (List.getElem?_eq_some_iff.1 hp).1
 have hx := List.getElem?_eq_getElem (show i < l.length by rw [← h.len]; exact hil)
 have a := h.get hp hx
 obtain ⟨o1, o2⟩ := q54 ho hx
 have e := (a.parts o1).1
 simp only [Bool.or_eq_true, decide_eq_true_eq, Bool.and_eq_true, not_or, not_and]
 refine ⟨by omega, fun hl => ?_⟩
 have hk := o2 hl
 rw [a.known hk, hk]; decide
theorem qte (k : Nm) {i : Nat} (h : 2 ≤ i) : lett k i = lett k 2 := by
 have := qk6 k
 unfold lett
 rw [show min i ((spB k).kinds.size - 1) = min 2 ((spB k).kinds.size - 1) by omega]
theorem qrj {k : Nm} (h : ((lett k 0 = 110 ∨ lett k 0 = 115) ∨ lett k 0 = 78 ∨ lett k 0 = 83) ∧ ((lett k 1 = 110 ∨ lett k 1 = 115) ∨ lett k 1 = 78 ∨ lett k 1 = 83) ∧ ((lett k 2 = 110 ∨ lett k 2 = 115) ∨ lett k 2 = 78 ∨ lett k 2 = 83)) (i : Nat) : (lett k i = 110 ∨ lett k i = 115) ∨ lett k i = 78 ∨ lett k i = 83 := by
 match i with
 | 0 => exact h.1
 | 1 => exact h.2.1
 | i + 2 => rw [qte k (show 2 ≤ i + 2 by omega)]; exact h.2.2
theorem qr1 {k : Nm} {m l : List Val} (ha : Args l) (hlt : ∀ i, (lett k i = 110 ∨ lett k i = 115) ∨ lett k i = 78 ∨ lett k i = 83) (hf : q2i k l = true) (ho : q1t k l = false) (h : RL m l) : m = l := by
 refine List.ext_getElem? fun i => ?_
 rcases Nat.lt_or_ge i l.length with hi | hi
 ·have hx := List.getElem?_eq_getElem hi
  obtain ⟨y, hy, a⟩ := h.at hx
  obtain ⟨o1, o2⟩ := q54 ho hx
  have f := q2a hf hx
  rw [hx, hy]
  congr 1
  rcases hlt i with hl | hl
  ·have hk : l[i].kind = 2 ∨ l[i].kind = 3 := by
    rcases hl with hl | hl
    ·rw [hl] at f; have := q5j f; omega
    ·rw [hl] at f; have := fit_s f; omega
   exact a.flat o1 ((ha.ck _ (List.getElem_mem hi)).ok.shape.2.2.2.2.2.1 (by omega) (by omega))
  ·exact a.known (o2 hl)
 ·rw [List.getElem?_eq_none hi, List.getElem?_eq_none (by rw [h.len]; exact hi)]
theorem RL.two {m : List Val} {a b : Val} (h : RL m [a, b]) : ∃ a' b', m = [a', b'] ∧ RU a' a ∧ RU b' b := by
 cases h with
 | cons x h => cases h with
  | cons y h => cases h with
   | nil => exact ⟨_, _, rfl, x, y⟩
theorem RL.one {m : List Val} {a : Val} (h : RL m [a]) : ∃ a', m = [a'] ∧ RU a' a := by
 cases h with
 | cons x h => cases h with
  | nil => exact ⟨_, rfl, x⟩
theorem Mono.eq (r : Val × Int) : Mono r r := .inl rfl
theorem qof (k : Nm) {m l : List Val} (ha : Args l) (hm : Args m) (h : RL m l) (hb : arOk k l = true) (hf : q2i k l = true) (hfm : q2i k m = true) (ho : ((spB k).strict && q1t k l) = false) : Mono (apS k l) (apS k m) := by
 have flat : (spB k).strict = true → ((lett k 0 = 110 ∨ lett k 0 = 115) ∨ lett k 0 = 78 ∨ lett k 0 = 83) ∧ ((lett k 1 = 110 ∨ lett k 1 = 115) ∨ lett k 1 = 78 ∨ lett k 1 = 83) ∧ ((lett k 2 = 110 ∨ lett k 2 = 115) ∨ lett k 2 = 78 ∨ lett k 2 = 83) → Mono (apS k l) (apS k m) := fun h1 h2 => by
  rw [h1, Bool.true_and] at ho
  rw [qr1 ha (qrj h2) hf ho h]; exact .eq _
 have opn : (spB k).strict = true → ∀ x ∈ l, x.kind ≠ 6 := fun h1 x hx => by
  rw [h1, Bool.true_and] at ho
  obtain ⟨i, hi⟩ := List.getElem?_of_mem hx
  exact (q54 ho hi).1
 cases k
 case nAbs => exact flat rfl ⟨.inl (.inl rfl), .inl (.inl rfl), .inl (.inl rfl)⟩
 case nMax => exact flat rfl ⟨.inl (.inl rfl), .inl (.inl rfl), .inl (.inl rfl)⟩
 case nMin => exact flat rfl ⟨.inl (.inl rfl), .inl (.inl rfl), .inl (.inl rfl)⟩
 case nRange => exact flat rfl ⟨.inl (.inl rfl), .inl (.inl rfl), .inl (.inl rfl)⟩
 case nSum => exact flat rfl ⟨.inr (.inl rfl), .inr (.inl rfl), .inr (.inl rfl)⟩
 case nEndswith => exact flat rfl ⟨.inl (.inr rfl), .inl (.inr rfl), .inl (.inr rfl)⟩
 case nStartswith => exact flat rfl ⟨.inl (.inr rfl), .inl (.inr rfl), .inl (.inr rfl)⟩
 case nJoin => exact flat rfl ⟨.inl (.inr rfl), .inr (.inr rfl), .inr (.inr rfl)⟩
 case nLower => exact flat rfl ⟨.inl (.inr rfl), .inl (.inr rfl), .inl (.inr rfl)⟩
 case nUpper => exact flat rfl ⟨.inl (.inr rfl), .inl (.inr rfl), .inl (.inr rfl)⟩
 case nReplace => exact flat rfl ⟨.inl (.inr rfl), .inl (.inr rfl), .inl (.inr rfl)⟩
 case nSplit => exact flat rfl ⟨.inl (.inr rfl), .inl (.inr rfl), .inl (.inr rfl)⟩
 case nTrim => exact flat rfl ⟨.inl (.inr rfl), .inl (.inr rfl), .inl (.inr rfl)⟩
 case nSort => exact flat rfl ⟨.inr (.inr rfl), .inr (.inr rfl), .inr (.inr rfl)⟩
 case nConcat => exact .of (RU.list (h.flatMap (opn rfl)))
 case nKeys =>
  obtain ⟨a, rfl⟩ := q2g hb rfl rfl
  obtain ⟨a', rfl, r⟩ := h.one
  have e := (r.parts (opn rfl a List.mem_cons_self)).2.2.2.1
  show Mono (lV (a.keys.map vText), 0) (lV (a'.keys.map vText), 0)
  rw [e]; exact .eq _
 case nValues =>
  obtain ⟨a, rfl⟩ := q2g hb rfl rfl
  obtain ⟨a', rfl, r⟩ := h.one
  exact .of (RU.list (r.parts (opn rfl a List.mem_cons_self)).2.2.2.2)
 case nMerge => exact .of (RU.mapOf ((RP.merge h (opn rfl) .nil).fold .nil))
 case nLength =>
  obtain ⟨a, rfl⟩ := q2g hb rfl rfl
  obtain ⟨a', rfl, r⟩ := h.one
  obtain ⟨e1, _, e3, _, e5⟩ := r.parts (opn rfl a List.mem_cons_self)
  show Mono (lenS a, 0) (lenS a', 0)
  unfold lenS
  rw [e1, e3, e5.len]; exact .eq _
 case nReverse =>
  obtain ⟨a, rfl⟩ := q2g hb rfl rfl
  obtain ⟨a', rfl, r⟩ := h.one
  exact .of (RU.list (r.parts (opn rfl a List.mem_cons_self)).2.2.2.2.reverse)
 case nSlice =>
  obtain ⟨v, a, b, rfl⟩ := qdb hb rfl rfl
  cases h with
  | @cons v' _ m' _ rv h =>
   obtain ⟨a', b', rfl, ra, rb⟩ := h.two
   have ka := q5j (q2a hf (i := 1) rfl)
   have kb := q5j (q2a hf (i := 2) rfl)
   have na := opn rfl a (by simp)
   have nb := opn rfl b (by simp)
   have ea := ra.flat na ((ha.ck a (by simp)).ok.shape.2.2.2.2.2.1 (by omega) (by omega))
   have eb := rb.flat nb ((ha.ck b (by simp)).ok.shape.2.2.2.2.2.1 (by omega) (by omega))
   subst ea; subst eb
   have r := (rv.parts (opn rfl v (by simp))).2.2.2.2
   show Mono (q57 v a' b') (q57 v' a' b')
   unfold q57
   rw [r.len]
   split
   ·exact .eq _
   ·exact .of (RU.list ((r.drop _).take _))
 case nCoalesce => exact qu1 h
 case nContains =>
  obtain ⟨a, b, rfl⟩ := q43 hb rfl rfl
  obtain ⟨a', b', rfl, ra, rb⟩ := h.two
  show Mono (if a.kind = 6 then (vU, 0) else (q3g a.items b, 0)) (if a'.kind = 6 then (vU, 0) else (q3g a'.items b', 0))
  by_cases h6 : a.kind = 6
  ·rw [if_pos h6]; exact .unk
  ·obtain ⟨e, _, _, _, r⟩ := ra.parts h6
   rw [if_neg h6, if_neg (by omega)]; exact qu2 r rb
 case nDistinct =>
  obtain ⟨a, rfl⟩ := q2g hb rfl rfl
  obtain ⟨a', rfl, ra⟩ := h.one
  show Mono (if a.kind = 6 then (vU, 0) else (q29 [] [] a.items, 0)) (if a'.kind = 6 then (vU, 0) else (q29 [] [] a'.items, 0))
  by_cases h6 : a.kind = 6
  ·rw [if_pos h6]; exact .unk
  ·obtain ⟨e, _, _, _, r⟩ := ra.parts h6
   rw [if_neg h6, if_neg (by omega)]; exact qu3 r .nil .nil
 case nFlatten =>
  obtain ⟨a, rfl⟩ := q2g hb rfl rfl
  obtain ⟨a', rfl, ra⟩ := h.one
  show Mono (if a.kind = 6 then (vU, (0 : Int)) else match q1c a.items with | some z => (lV z, 0) | none => (vU, 0)) (if a'.kind = 6 then (vU, (0 : Int)) else match q1c a'.items with | some z => (lV z, 0) | none => (vU, 0))
  by_cases h6 : a.kind = 6
  ·rw [if_pos h6]; exact .unk
  ·obtain ⟨e, _, _, _, r⟩ := ra.parts h6
   rw [if_neg h6, if_neg (by omega)]
   cases hz : q1c a.items with
   | none => exact .unk
   | some z =>
    obtain ⟨z', g, rz⟩ := qu5 r z hz
    rw [g]; exact .of (RU.list rz)
 case nIndex =>
  obtain ⟨a, b, rfl⟩ := q43 hb rfl rfl
  obtain ⟨a', b', rfl, ra, rb⟩ := h.two
  show Mono (if a.kind = 6 then (vU, 0) else q24 b 0 a.items) (if a'.kind = 6 then (vU, 0) else q24 b' 0 a'.items)
  by_cases h6 : a.kind = 6
  ·rw [if_pos h6]; exact .unk
  ·obtain ⟨e, _, _, _, r⟩ := ra.parts h6
   rw [if_neg h6, if_neg (by omega)]; exact qu7 rb r 0
 case nElement =>
  obtain ⟨a, b, rfl⟩ := q43 hb rfl rfl
  obtain ⟨a', b', rfl, ra, rb⟩ := h.two
  have k1 := q8y (q2a hf (i := 0) rfl)
  have k2 := q5j (q2a hf (i := 1) rfl)
  exact qu4 ra rb k1 k2 ((ha.ck b (by simp)).ok.shape.2.2.2.2.2.1 (by omega) (by omega)) fun _ => trivial
 case nLookup =>
  have hb' := hb
  unfold arOk at hb
  rw [show (spB .nLookup).least = 2 from rfl, show (spB .nLookup).most = 3 from rfl] at hb
  simp only [Bool.and_eq_true, decide_eq_true_eq] at hb
  cases h with
  | nil => simp at hb
  | @cons a' a m1 l1 ra h =>
   cases h with
   | nil => simp at hb
   | @cons b' b m2 l2 rb h =>
    have k2 := fit_s (q2a hf (i := 1) rfl)
    refine qu8 (m := a) (k := b) (m' := a') (k' := b') ra rb ((ha.ck b (by simp)).ok.shape.2.2.2.2.2.1 (by omega) (by omega)) ?_
    show (m2[0]? = none ∧ l2[0]? = none) ∨ ∃ y x, m2[0]? = some y ∧ l2[0]? = some x ∧ RU y x
    cases h with
    | nil => exact .inl ⟨rfl, rfl⟩
    | @cons y x m3 l3 r h => exact .inr ⟨y, x, rfl, rfl, r⟩
 case nZipmap =>
  obtain ⟨a, b, rfl⟩ := q43 hb rfl rfl
  obtain ⟨a', b', rfl, ra, rb⟩ := h.two
  have k1 := qb5 (q2a hf (i := 0) rfl)
  have k2 := q8y (q2a hf (i := 1) rfl)
  refine qu9 ra rb k1.1 k2 fun x hx => ?_
  rcases k1.2 x hx with h3 | h6
  ·exact .inl (((ha.ck a (by simp)).item x hx).ok.shape.2.2.2.2.2.1 (by omega) (by omega))
  ·exact .inr h6
 case nTobool =>
  obtain ⟨a, rfl⟩ := q2g hb rfl rfl
  obtain ⟨a', rfl, ra⟩ := h.one
  exact qf9 (.inl rfl) ra (ha.ck a List.mem_cons_self) (hm.ck a' List.mem_cons_self)
 case nTonumber =>
  obtain ⟨a, rfl⟩ := q2g hb rfl rfl
  obtain ⟨a', rfl, ra⟩ := h.one
  exact qf9 (.inr (.inl rfl)) ra (ha.ck a List.mem_cons_self) (hm.ck a' List.mem_cons_self)
 case nTostring =>
  obtain ⟨a, rfl⟩ := q2g hb rfl rfl
  obtain ⟨a', rfl, ra⟩ := h.one
  exact qf9 (.inr (.inr rfl)) ra (ha.ck a List.mem_cons_self) (hm.ck a' List.mem_cons_self)
theorem qpm {k : Nm} {m l : List Val} (ha : Args l) (hm : Args m) (h : RL m l) (hb : arOk k l = true) : ((q2x k l).2 ≠ 0 → (q2x k m).2 ≠ 0) ∧ ((q2x k l).2 = 0 → (q2x k m).2 ≠ 0 ∨ Refs (q2x k m).1 (q2x k l).1) := by
 unfold q2x
 by_cases h1 : q2i k m = false
 ·rw [if_pos h1]; exact ⟨fun _ => by decide, fun _ => .inl (by decide)⟩
 have h1' := eq_true_of_ne_false h1
 have h2' := qra h h1'
 rw [if_neg h1, if_neg (by rw [h2']; decide)]
 by_cases h3 : ((spB k).strict && q1t k l) = true
 ·rw [if_pos h3]
  exact ⟨fun h => absurd rfl h, fun _ => .inr (.unk rfl)⟩
 have h3' := eq_false_of_ne_true h3
 have h4 : ((spB k).strict && q1t k m) = false := by
  cases hs : (spB k).strict with
  | false => rfl
  | true =>
   rw [hs, Bool.true_and] at h3'
   rw [qvi h h3']; rfl
 rw [if_neg h3, if_neg (by rw [h4]; decide)]
 exact qr7 (qof k ha hm h hb h2' h1' h3')
end Abs
end Go.Proofs.YtagadjpmkggjdaaGreatDoor
namespace Go.Proofs.YtagadjpmkggjdaaGreatDoor
set_option linter.unusedSimpArgs false
set_option linter.unusedVariables false
namespace Abs
open Go.RowKit
theorem qm2 {n : Nat} {a : Int} (hn : 1 ≤ n) (h0 : 0 ≤ a) : rem (n : Int) a = some ((a.toNat % n : Nat) : Int) := by
 unfold rem
 rw [if_neg (by omega), Int.tmod_eq_emod_of_nonneg h0]
 congr 1
 rw [← Int.toNat_of_nonneg h0]; simp
open Classical in
theorem qr5 (v : Val) : ∀ (e : Nat) (l : List Val) (a : Int) (d : Nat), v.Fits → Good e v → e ≤ d → d ≤ 1000 → (∀ x ∈ l, x.Fits) → l.length ≤ 8 → 0 ≤ a → a ≤ 8 → ∃ q, tQ6t v l a (d : Int) = some q ∧ Refs q.1 v ∧ q.1.Fits ∧ 0 ≤ q.2 ∧ q.2 ≤ 8 := by
 induction v using wfV.induction with
 | h v ih =>
  intro e l a d hf hg hd hd2 hl hl8 ha0 ha8
  obtain ⟨f1, f2, f3, f4, f5, f6, f7⟩ := hf.parts
  have hnode := hg.node
  obtain ⟨e, rfl, hgi⟩ := hg.item
  obtain ⟨d, rfl⟩ : ∃ c, d = c + 1 := ⟨d - 1, by omega⟩
  have hn := q2v f4 (by decide)
  have eq : tQ6t v l a ((d + 1 : Nat) : Int) = gQ3v (fun a0 a1 a2 a3 => if relV a0 v then tQ6t a0 a1 a2 a3 else none) v l a ((d + 1 : Nat) : Int) := q3d v (l, a, ((d + 1 : Nat) : Int))
  rw [eq]
  have h12 : ∀ s, gQ3w (fun a0 a1 a2 a3 => if relV a0 v then tQ6t a0 a1 a2 a3 else none) v l ((d + 1 : Nat) : Int) s = gQ3x (fun a0 a1 a2 a3 => if relV a0 v then tQ6t a0 a1 a2 a3 else none) v l ((d + 1 : Nat) : Int) s := fun _ => rfl
  have loop : ∃ q, q8 (gQ3x (fun a0 a1 a2 a3 => if relV a0 v then tQ6t a0 a1 a2 a3 else none) v l ((d + 1 : Nat) : Int)) (0, a, []) = some q ∧ (Refs q.1 v ∧ q.1.Fits ∧ 0 ≤ q.2 ∧ q.2 ≤ 8) := by
   refine q2p (body := gQ3x (fun a0 a1 a2 a3 => if relV a0 v then tQ6t a0 a1 a2 a3 else none) v l ((d + 1 : Nat) : Int)) (fun s => ∃ (i : Nat) (b : Int) (acc : List Val), s = ((i : Int), b, acc) ∧ i ≤ v.items.length ∧ acc.length = i ∧ 0 ≤ b ∧ b ≤ 8 ∧ (∀ (j : Nat) y x, acc[j]? = some y → v.items[j]? = some x → Refs y x) ∧ ∀ y ∈ acc, y.Fits) (fun s => v.items.length - s.1.toNat) _ ?_ _ ⟨0, a, [], rfl, Nat.zero_le _, rfl, ha0, ha8, (fun j y x h => by simp at h), fun y h => absurd h List.not_mem_nil⟩
   rintro s ⟨i, b, acc, rfl, hi, hacc, hb0, hb8, hr, hfa⟩
   rcases Nat.eq_or_lt_of_le hi with h0 | h0
   ·right
    refine ⟨(Val.mk v.kind v.num v.str acc v.keys, b), by simp only [gQ3x, decide_eq_false (show ¬ (i : Int) < (v.items.length : Int) by omega), cond_false], ?_, ?_, hb0, hb8⟩
    ·exact .node rfl rfl rfl rfl (by show acc.length = v.items.length; omega) fun j y x hy hx => hr j y x hy hx
    ·exact .mk f1 f2 f3 (by omega) f5 f6 hfa
   ·left
    have hx := List.getElem?_eq_getElem h0
    have hm := List.getElem_mem h0
    have hw : IntKind.i64.wrap (((d + 1 : Nat) : Int) - 1) = (d : Int) := by
     rw [show ((d + 1 : Nat) : Int) - 1 = (d : Int) by omega]; exact q28 (by omega) (by omega)
    obtain ⟨q, q1, q2, q3, q4, q5⟩ := ih v.items[i] hm e l b d (f7 _ hm) (hgi _ hm) (by omega) (by omega) hl hl8 hb0 hb8
    refine ⟨(((i + 1 : Nat) : Int), q.2, acc ++ [q.1]), ?_, ⟨i + 1, q.2, acc ++ [q.1], rfl, h0, by simp [hacc], q4, q5, fun j y x hy hx2 => ?_, fun y hy => ?_⟩, by simp only [Int.toNat_natCast]; omega⟩
    ·simp only [gQ3x, decide_eq_true (show (i : Int) < (v.items.length : Int) by omega), decide_eq_true (show ((d + 1 : Nat) : Int) > 0 by omega), cond_true, qe, hx, Option.bind_some, if_pos (show relV v.items[i] v from hm), hw, q1, q2r acc _ (m := 80) (by decide) (show acc.length < v.items.length by omega) f4, qq h0 (show v.items.length ≤ 9223372036854775807 by omega)]
    ·rcases Nat.lt_or_ge j acc.length with hj | hj
     ·rw [List.getElem?_append_left hj] at hy; exact hr j y x hy hx2
     ·rw [List.getElem?_append_right hj] at hy
      have hj2 : j - acc.length = 0 := by
       rcases Nat.eq_zero_or_pos (j - acc.length) with h | h
       ·exact h
       ·rw [List.getElem?_eq_none (by simp; omega)] at hy; cases hy
      rw [hj2] at hy
      obtain rfl : q.1 = y := Option.some.inj hy
      have : j = i := by omega
      subst this
      rw [hx] at hx2
      rw [← Option.some.inj hx2]; exact q2
    ·rcases List.mem_append.1 hy with hy | hy
     ·exact hfa y hy
     ·rw [List.mem_singleton.1 hy]; exact q3
  unfold gQ3v
  by_cases h6 : v.kind = 6
  ·rw [decide_eq_true h6, cond_true]
   by_cases hl0 : l.length = 0
   ·rw [decide_eq_false (show ¬ (l.length : Int) > 0 by omega), cond_false, show gQ3w (fun a0 a1 a2 a3 => if relV a0 v then tQ6t a0 a1 a2 a3 else none) v l ((d + 1 : Nat) : Int) = _ from funext h12]
    exact loop
   ·rw [decide_eq_true (show (l.length : Int) > 0 by omega), cond_true]
    have m1 := Nat.mod_lt a.toNat (show 0 < l.length by omega)
    have m2 := Nat.mod_lt (a + 1).toNat (show 0 < l.length by omega)
    rw [qm2 (by omega) ha0, Option.bind_some, qe, List.getElem?_eq_getElem m1, Option.bind_some, q28 (by omega) (by omega), qm2 (by omega) (by omega)]
    exact ⟨_, rfl, .unk h6, hl _ (List.getElem_mem m1), by show (0 : Int) ≤ (((a + 1).toNat % l.length : Nat) : Int); omega, by show (((a + 1).toNat % l.length : Nat) : Int) ≤ 8; omega⟩
  ·rw [decide_eq_false h6, cond_false]
   exact loop
theorem qwm {args l : List Val} (ha : ∀ v ∈ args, Ck v) (hlen : args.length ≤ 70) (hl : ∀ x ∈ l, x.Fits) (hl8 : l.length ≤ 8) : ∃ q, gQ47 args l = some q ∧ (q.2 = true → RL q.1 args ∧ Args q.1) := by
 unfold gQ47
 refine q2p (body := gQ48 args l) (fun s => ∃ (i : Nat) (b : Int) (out : List Val), s = (b, (i : Int), out) ∧ i ≤ args.length ∧ 0 ≤ b ∧ b ≤ 8 ∧ RL out (args.take i) ∧ ∀ y ∈ out, Ck y ∧ q1z y ≤ 400) (fun s => args.length - s.2.1.toNat) _ ?_ _ ⟨0, 0, [], rfl, Nat.zero_le _, by decide, by decide, .nil, fun y h => absurd h List.not_mem_nil⟩
 rintro s ⟨i, b, out, rfl, hi, hb0, hb8, hr, hc⟩
 rcases Nat.eq_or_lt_of_le hi with h0 | h0
 ·right
  refine ⟨(out, true), by simp only [gQ48, decide_eq_false (show ¬ (i : Int) < (args.length : Int) by omega), cond_false], fun _ => ?_⟩
  rw [List.take_of_length_le (by omega)] at hr
  exact ⟨hr, ⟨by rw [hr.len]; exact hlen, fun v hv => (hc v hv).1, fun v hv => (hc v hv).2⟩⟩
 ·have hx := List.getElem?_eq_getElem h0
  have c := ha _ (List.getElem_mem h0)
  obtain ⟨q, q1, q2, q3, q4, q5⟩ := qr5 args[i] 32 l b 32 c.fits (qjm c.ck) (Nat.le_refl _) (by decide) hl hl8 hb0 hb8
  have q1 : tQ6t args[i] l b 32 = some q := q1
  have lo : out.length = i := by rw [hr.len, List.length_take]; omega
  have e : gQ48 args l (b, (i : Int), out) = if q3m q.1 (400 : Nat) = true then (if qf q.1 = 0 then some (.inl (q.2, ((i + 1 : Nat) : Int), out ++ [q.1])) else some (.inr ([], false))) else some (.inr ([], false)) := by
   simp only [gQ48, decide_eq_true (show (i : Int) < (args.length : Int) by omega), cond_true, qe, hx, Option.bind_some, q1, show q9e q.1 400 = some (q3m q.1 (400 : Nat)) from q2c ⟨q3, by decide, by decide⟩, q6k q3, q2r out _ (m := 80) (n := 100001) (by decide) (by omega) (by decide), qq h0 (show args.length ≤ 9223372036854775807 by omega)]
   cases q3m q.1 (400 : Nat) with
   | false => rfl
   | true =>
    by_cases hce : qf q.1 = 0
    ·rw [if_pos rfl, if_pos hce, decide_eq_true hce]; rfl
    ·rw [if_pos rfl, if_neg hce, decide_eq_false hce]; rfl
  rw [e]
  by_cases h1 : q3m q.1 (400 : Nat) = true
  case neg => rw [if_neg h1]; exact .inr ⟨_, rfl, fun h => by cases h⟩
  by_cases h2 : qf q.1 = 0
  case neg => rw [if_pos h1, if_neg h2]; exact .inr ⟨_, rfl, fun h => by cases h⟩
  rw [if_pos h1, if_pos h2]
  refine .inl ⟨_, rfl, ⟨i + 1, q.2, out ++ [q.1], rfl, h0, q4, q5, ?_, fun y hy => ?_⟩, by simp only [Int.toNat_natCast]; omega⟩
  ·rw [List.take_add_one, hx]
   exact hr.append (.cons ⟨q2, qgh _ c⟩ .nil)
  ·rcases List.mem_append.1 hy with hy | hy
   ·exact hc y hy
   ·rw [List.mem_singleton.1 hy]; exact ⟨q6l q3 h2, qfl h1⟩
theorem qpr (name : ByteArray) {m l : List Val} (ha : Args l) (hm : Args m) (h : RL m l) : ∃ r s, gQ0n name l = some r ∧ gQ0n name m = some s ∧ s.1.Fits ∧ (r.2 ≠ 0 → s.2 ≠ 0) ∧ (r.2 = 0 → s.2 ≠ 0 ∨ Refs s.1 r.1) := by
 rcases qfg name with ⟨k, rfl⟩ | ho
 ·have hbb : arOk k m = arOk k l := by unfold arOk; rw [h.len]
  by_cases hb : arOk k l = true
  ·obtain ⟨c1, c2⟩ := qpm ha hm h hb
   exact ⟨_, _, q8q ha hb, q8q hm (hbb ▸ hb), (qhn hm (hbb ▸ hb)).1, c1, c2⟩
  ·have hb' := eq_false_of_ne_true hb
   exact ⟨_, _, qar hb', qar (hbb ▸ hb'), q1v, id, fun h => by cases h⟩
 ·exact ⟨_, _, qas ho l, qas ho m, q1v, id, fun h => by cases h⟩
theorem qt5 (name : ByteArray) (args l : List Val) (hf : ∀ v ∈ args, v.Fits) (hl : ∀ v ∈ l, v.Fits) : gQ3o name args l = some true := by
 unfold gQ3o
 obtain ⟨b, h1, h2⟩ := qb1 args hf
 rw [h1, Option.bind_some]
 cases b with
 | false => rw [Bool.not_false, cond_true, awake18]; rfl
 | true =>
  have ha := (h2 rfl).args
  rw [Bool.not_true, cond_false]
  obtain ⟨b2, g1, g2⟩ := qb1 l hl
  rw [g1, Option.bind_some]
  cases b2 with
  | false => rw [Bool.not_false, cond_true, awake18]; rfl
  | true =>
   rw [Bool.not_true, cond_false]
   by_cases h8 : l.length > 8
   ·rw [decide_eq_true (show (l.length : Int) > 8 by omega), cond_true, awake18]; rfl
   rw [decide_eq_false (show ¬ (l.length : Int) > 8 by omega), cond_false]
   obtain ⟨q, q1, q2⟩ := qwm (l := l) ha.ck ha.len hl (by omega)
   rw [q1, Option.bind_some]
   cases hq : q.2 with
   | false => rw [Bool.not_false, cond_true, awake18]; rfl
   | true =>
    rw [Bool.not_true, cond_false]
    obtain ⟨hr, hm⟩ := q2 hq
    obtain ⟨r, s, r1, s1, s2, m1, m2⟩ := qpr name ha hm hr
    rw [r1, Option.bind_some, s1, Option.bind_some]
    by_cases hr0 : r.2 = 0
    ·rw [decide_eq_true hr0, Bool.not_true, cond_false]
     by_cases hs0 : s.2 = 0
     ·rw [decide_eq_true hs0, Bool.not_true, cond_false]
      obtain ⟨p, p1, p2⟩ := qy8 s.1 r.1 s2
      rw [p1, p2.2 ((m2 hr0).elim (fun h => absurd hs0 h) id), Option.bind_some, cond_true, awake18]; rfl
     ·rw [decide_eq_false hs0, Bool.not_false, cond_true, awake18]; rfl
    ·rw [decide_eq_false hr0, Bool.not_false, cond_true, decide_eq_false (m1 hr0), Bool.not_false, cond_true, awake18]; rfl
end Abs
end Go.Proofs.YtagadjpmkggjdaaGreatDoor
