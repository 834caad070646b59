/-
  The law FuncsInverse.
  The law FuncsInverse: split undoes join; the law's loops.
  The law FuncsInverse: its loops.
-/
import Derived.Test.YtagadjpmkggjdaaGreatDoorPlFun
namespace Go.Proofs.YtagadjpmkggjdaaGreatDoor
set_option linter.unusedSimpArgs false
set_option linter.unusedVariables false
namespace Abs
open Go.RowKit
theorem qhy (lv : Int) (hlv : lv ≤ 32) : ∀ (l : List Val) (n : Int), 0 ≤ n → n + l.length ≤ 4096 → (∀ x ∈ l, x.items = [] ∧ qi x = 0) → qk l lv n = (0, n + l.length)
 | [], n, _, _, _ => by rw [qk]; simp
 | x :: r, n, h0, h1, h2 => by
  rw [List.length_cons] at h1
  obtain ⟨a, b⟩ := h2 x List.mem_cons_self
  have hx : qo x lv n = (0, n + 1) := by
   rw [q46, if_neg (by omega), if_neg (by omega), if_neg (by simp [b]), a]; rfl
  rw [qk, hx, if_neg (by simp)]
  show qk r lv (n + 1) = _
  rw [qhy lv hlv r (n + 1) (by omega) (by omega) fun y hy => h2 y (List.mem_cons_of_mem _ hy), List.length_cons]
  congr 1
  omega
theorem qi3 {v : Val} (hn : qi v = 0) (hl : v.items.length ≤ 4095) (h : ∀ x ∈ v.items, x.items = [] ∧ qi x = 0) : qf v = 0 := by
 unfold qf
 rw [q46, if_neg (by decide), if_neg (by decide), if_neg (by simp [hn])]
 rw [qhy (1 + 1) (by decide) v.items (0 + 1) (by decide) (by omega) h]
theorem qul {keys : List ByteArray} {items : List Val} (hl : keys.length = items.length) (hv : ∀ s ∈ keys, vtext s = 0) (hp : keys.Pairwise fun a b => Op.bytesLess a.toList b.toList = true) : qi (Val.mk 5 0 eS items keys) = 0 := by
 have e : vtext eS = 0 := by decide
 have hk : ∀ (l : List ByteArray) (p : Option ByteArray), (∀ s ∈ l, vtext s = 0) → (l.Pairwise fun a b => Op.bytesLess a.toList b.toList = true) → (∀ q, p = some q → ∀ a ∈ l, Op.bytesLess q.toList a.toList = true) → q1k p l = 0 := by
  intro l
  induction l with
  | nil => intro p _ _ _; cases p <;> rfl
  | cons s r ih =>
   intro p h1 h2 h3
   obtain ⟨p1, p2⟩ := List.pairwise_cons.1 h2
   have tail := ih (some s) (fun x hx => h1 x (List.mem_cons_of_mem _ hx)) p2 (fun q hq a ha => by cases hq; exact p1 a ha)
   have hs : ¬ vtext s ≠ 0 := by simp [h1 s List.mem_cons_self]
   cases p with
   | none =>
    show (if vtext s ≠ 0 then vtext s else if false = true then 1 else q1k (some s) r) = 0
    rw [if_neg hs, if_neg (by decide)]; exact tail
   | some q =>
    show (if vtext s ≠ 0 then vtext s else if (!ltB q s) = true then 1 else q1k (some s) r) = 0
    have := h3 q rfl s List.mem_cons_self
    rw [if_neg hs, if_neg (by unfold ltB; rw [this]; decide)]; exact tail
 unfold qi
 rw [if_neg (show ¬ q1u (Val.mk 5 0 eS items keys) = false by simp [q1u, qa, qm, qs, qp, qn, Val.kind, Val.num, Val.str, Val.items, Val.keys, hl]), if_neg (fun hh => by cases hh.1), if_neg (by simpa using e)]
 exact hk keys none hv hp (fun q hq => by cases hq)
structure Txts (l : List ByteArray) : Prop where
 len : l.length ≤ 60
 ok : ∀ s ∈ l, vtext s = 0 ∧ s.size ≤ 50
abbrev tl (l : List ByteArray) : Val := lV (l.map vText)
theorem qgb {l : List ByteArray} (h : Txts l) : ∀ x ∈ (tl l).items, x.items = [] ∧ qi x = 0 := fun x hx => by
 obtain ⟨s, hs, rfl⟩ := List.mem_map.1 (show x ∈ l.map vText from hx)
 exact ⟨rfl, qfi (h.ok s hs).1⟩
theorem qmx {l : List ByteArray} (h : Txts l) : (tl l).Fits := q4m (by rw [List.length_map]; have := h.len; omega) fun x hx => by
 obtain ⟨s, hs, rfl⟩ := List.mem_map.1 hx
 exact q40 (by have := (h.ok s hs).2; omega)
theorem q58 {l : List ByteArray} (h : Txts l) : Ck (tl l) := q6l (qmx h) (qi3 quk (by show (l.map vText).length ≤ 4095; rw [List.length_map]; have := h.len; omega) (qgb h))
theorem qfj : ∀ (l : List Val), (∀ x ∈ l, x.items = []) → q1s l = l.length
 | [], _ => q9i
 | x :: r, h => by rw [q5p, q52, h x List.mem_cons_self, q9i, qfj r fun y hy => h y (List.mem_cons_of_mem _ hy), List.length_cons]; omega
theorem q8a {l : List ByteArray} (h : Txts l) : q1z (tl l) ≤ 61 := by
 rw [q52, qfj _ fun x hx => (qgb h x hx).1]
 have := h.len
 show 1 + (l.map vText).length ≤ 61
 rw [List.length_map]; omega
theorem qcr (s : ByteArray) : q1z (vText s) = 1 := by rw [q52]; rfl
theorem q5d {l : List Val} (hl : l.length ≤ 70) (h : ∀ v ∈ l, Ck v ∧ q1z v ≤ 400) : Args l := ⟨hl, fun v hv => (h v hv).1, fun v hv => (h v hv).2⟩
theorem Txts.rev {l : List ByteArray} (h : Txts l) : Txts l.reverse := ⟨by rw [List.length_reverse]; exact h.len, fun s hs => h.ok s (List.mem_reverse.1 hs)⟩
theorem q94 {v : Val} {k : Int} (h : v.kind = k) : isK v [k] = true := q5n.2 (.inl h)
theorem qea {v : Val} (h : v.kind = 3) : fitK v 115 = true := q94 h
theorem qj1 {v : Val} (h : v.kind = 4) : fitK v 108 = true := q94 h
theorem fitK_m {v : Val} (h : v.kind = 5) : fitK v 109 = true := q94 h
theorem qb4 (l : List ByteArray) : fitK (tl l) 83 = true := by
 show allK (tl l) 3 = true
 unfold allK
 rw [Bool.and_eq_true, List.all_eq_true]
 refine ⟨q94 rfl, fun x hx => ?_⟩
 obtain ⟨s, _, rfl⟩ := List.mem_map.1 (show x ∈ l.map vText from hx)
 exact q94 rfl
theorem fit1 {k : Nm} {a : Val} (h0 : fitK a (lett k 0) = true) : q2i k [a] = true := by
 show (fitK a (lett k 0) && true) = true
 rw [h0]; rfl
theorem fit2 {k : Nm} {a b : Val} (h0 : fitK a (lett k 0) = true) (h1 : fitK b (lett k 1) = true) : q2i k [a, b] = true := by
 show (fitK a (lett k 0) && (fitK b (lett k 1) && true)) = true
 rw [h0, h1]; rfl
theorem q7i {k : Nm} {l : List Val} (ha : Args l) (hb : arOk k l = true) (hf : q2i k l = true) (hk : ∀ v ∈ l, q7 v = true) : gQ0n (nmB k) l = some (finS (apS k l)) := by
 rw [q8q ha hb]
 unfold q2x
 rw [if_neg (by rw [hf]; decide), if_neg (by rw [qfn hk, Bool.and_false]; decide)]
theorem qb3 {v : Val} (h : qf v = 0) : finS (v, 0) = (v, 0) := by
 unfold finS; rw [if_pos rfl, if_pos h]
theorem qhp {l : List ByteArray} (h : Txts l) : gQ0n ⟨#[114, 101, 118, 101, 114, 115, 101]⟩ [tl l] = some (tl l.reverse, 0) := by
 have e := q7i (k := .nReverse) (l := [tl l]) (q5d (by simp) fun v hv => by rw [List.mem_singleton.1 hv]; exact ⟨q58 h, by have := q8a h; omega⟩) rfl (fit1 (qj1 rfl)) (fun v hv => by rw [List.mem_singleton.1 hv]; exact q6p _)
 have e2 : apS .nReverse [tl l] = (tl l.reverse, 0) := by
  show (lV (l.map vText).reverse, (0 : Int)) = (lV (l.reverse.map vText), 0)
  rw [List.map_reverse]
 rw [e2, qb3 (q58 h.rev).ck] at e
 exact e
theorem sp_of {l : List ByteArray} (hn : l.Nodup) (h : l.Pairwise fun x y => ltOf cmpS y x = false) : SP (l.map fun s => (s, ())) := by
 refine List.pairwise_map.2 ?_
 have h2 : l.Pairwise fun x y => x ≠ y ∧ ltOf cmpS y x = false := hn.and h
 refine h2.imp fun {x y} ⟨a, b⟩ => ?_
 show Op.bytesLess x.toList y.toList = true
 rcases qes x.toList y.toList with k | k | k
 ·exact k
 ·exact absurd (qdh k) a
 ·rw [ltS, k] at b; cases b
theorem qnf : ∀ (l acc : List ByteArray), acc.Nodup → (((acc ++ l).Nodup ∧ zipE acc (l.map vText) = some (acc ++ l)) ∨ (¬ (acc ++ l).Nodup ∧ zipE acc (l.map vText) = none))
 | [], acc, h => .inl ⟨by simpa using h, by rw [List.map_nil, zipE]; simp⟩
 | s :: r, acc, h => by
  rw [List.map_cons, zipE, if_neg (show ¬ (vText s).kind = 6 from (by decide : ¬ (3 : Int) = 6))]
  show _ ∧ (bif hasB acc s then none else zipE (acc ++ [s]) (r.map vText)) = _ ∨ _ ∧ (bif hasB acc s then none else zipE (acc ++ [s]) (r.map vText)) = _
  cases hb : hasB acc s with
  | true =>
   right
   refine ⟨fun hn => ?_, rfl⟩
   rw [List.nodup_append] at hn
   exact hn.2.2 s (q4k.1 hb) s List.mem_cons_self rfl
  | false =>
   rw [cond_false]
   have hs : s ∉ acc := fun hm => by rw [q4k.2 hm] at hb; cases hb
   have := qnf r (acc ++ [s]) (by
    rw [List.nodup_append]
    refine ⟨h, by simp, fun y hy z hz e => hs ?_⟩
    have : z = s := by simpa using hz
    subst this; subst e; exact hy)
   rw [List.append_assoc, List.singleton_append] at this
   exact this
theorem qnh {l : List ByteArray} : (l.Nodup ∧ zipS (tl l) (tl l.reverse) = (mapOf (qv [] (l.zip (l.reverse.map vText))), 0)) ∨ (¬ l.Nodup ∧ zipS (tl l) (tl l.reverse) = (vZ, 8)) := by
 have e : zipS (tl l) (tl l.reverse) = match zipE [] (l.map vText) with
  | none => (vZ, 8)
  | some ks => (mapOf (qv [] (ks.zip (l.reverse.map vText))), 0) := by
  unfold zipS
  rw [if_neg (fun h => h.2.2 (by show (l.map vText).length = (l.reverse.map vText).length; simp))]
  have hk : q7 (tl l) = true := q6p l
  rw [show (tl l).items = l.map vText from rfl, show (tl l.reverse).items = l.reverse.map vText from rfl]
  cases zipE [] (l.map vText) with
  | none => rfl
  | some ks =>
   show (if q7 (tl l) = false ∨ (tl l.reverse).kind = 6 then (vU, (0 : Int)) else (mapOf (qv [] (ks.zip (l.reverse.map vText))), 0)) = _
   rw [if_neg (fun h => h.elim (fun h => by rw [hk] at h; cases h) (fun h => absurd h (by decide : ¬ (4 : Int) = 6)))]
 rw [e]
 rcases qnf l [] List.nodup_nil with ⟨h1, h2⟩ | ⟨h1, h2⟩
 ·rw [List.nil_append] at h1 h2
  rw [h2]; exact .inl ⟨h1, rfl⟩
 ·rw [List.nil_append] at h1
  rw [h2]; exact .inr ⟨h1, rfl⟩
theorem qyl {l : List ByteArray} (h : Txts l) : Args [tl l, tl l.reverse] := q5d (by simp) fun v hv => by
 rcases List.mem_cons.1 hv with rfl | hv
 ·exact ⟨q58 h, by have := q8a h; omega⟩
 ·rw [List.mem_singleton.1 hv]; exact ⟨q58 h.rev, by have := q8a h.rev; omega⟩
theorem qyo {l : List ByteArray} (h : Txts l) (hn : l.Nodup) : Ck (mapOf (qv [] (l.zip (l.reverse.map vText)))) ∧ q1z (mapOf (qv [] (l.zip (l.reverse.map vText)))) ≤ 400 ∧ (qv [] (l.zip (l.reverse.map vText))).map (·.1) = q2f cmpS l := by
 have hlen : l.length = (l.reverse.map vText).length := by simp
 obtain ⟨f1, f2, f3⟩ := qjg hlen hn
 have hl := h.len
 have hz : (zipS (tl l) (tl l.reverse)).1.Fits := qng (q58 h) (q58 h.rev) (by show (l.map vText).length ≤ 100000; rw [List.length_map]; omega) (.inl rfl) (.inl rfl)
 have he : zipS (tl l) (tl l.reverse) = (mapOf (qv [] (l.zip (l.reverse.map vText))), 0) := by
  rcases qnh (l := l) with ⟨_, e⟩ | ⟨e, _⟩
  ·exact e
  ·exact absurd hn e
 rw [he] at hz
 have hi : ∀ x ∈ (mapOf (qv [] (l.zip (l.reverse.map vText)))).items, x.items = [] ∧ qi x = 0 := fun x hx => by
  obtain ⟨p, hp, rfl⟩ := List.mem_map.1 (show x ∈ (qv [] (l.zip (l.reverse.map vText))).map (·.2) from hx)
  exact qgb h.rev _ (List.of_mem_zip ((f2 p).1 hp)).2
 have hil : (mapOf (qv [] (l.zip (l.reverse.map vText)))).items.length = l.length := by
  show ((qv [] (l.zip (l.reverse.map vText))).map (·.2)).length = _
  rw [List.length_map, f3]
 have hkeys : ∀ s, s ∈ (qv [] (l.zip (l.reverse.map vText))).map (·.1) ↔ s ∈ l := fun s => by
  constructor
  ·intro hs
   obtain ⟨p, hp, rfl⟩ := List.mem_map.1 hs
   exact (List.of_mem_zip ((f2 p).1 hp)).1
  ·intro hs
   have : s ∈ (l.zip (l.reverse.map vText)).map (·.1) := by rw [List.map_fst_zip (by omega)]; exact hs
   obtain ⟨p, hp, e⟩ := List.mem_map.1 this
   exact List.mem_map.2 ⟨p, (f2 p).2 hp, e⟩
 have hnode : qi (mapOf (qv [] (l.zip (l.reverse.map vText)))) = 0 :=
  qul (by simp) (fun s hs => (h.ok s ((hkeys s).1 hs)).1) (List.pairwise_map.2 f1)
 refine ⟨q6l hz (qi3 hnode (by omega) hi), ?_, ?_⟩
 ·rw [q52, qfj _ fun x hx => (hi x hx).1]; omega
 ·have hp := qcm l
  have h1 : SP (((qv [] (l.zip (l.reverse.map vText))).map (·.1)).map fun s => (s, ())) := by
   refine List.pairwise_map.2 (List.pairwise_map.2 ?_)
   exact f1
  have h2 : SP ((q2f cmpS l).map fun s => (s, ())) := sp_of (hp.nodup_iff.2 hn) (q3c swoS l).2
  have := qg4 h1 h2 fun p => by
   simp only [List.mem_map]
   constructor
   ·rintro ⟨s, hs, rfl⟩
    exact ⟨s, hp.mem_iff.2 ((hkeys s).1 (List.mem_map.2 hs)), rfl⟩
   ·rintro ⟨s, hs, rfl⟩
    exact ⟨s, List.mem_map.1 ((hkeys s).2 (hp.mem_iff.1 hs)), rfl⟩
  have e := congrArg (List.map (·.1)) this
  have g : ∀ l : List ByteArray, (l.map fun s => (s, ())).map (·.1) = l := fun l => by rw [List.map_map]; exact List.map_id l
  rw [g, g] at e
  exact e
theorem qps {l : List ByteArray} (h : Txts l) : ∃ z ks so, gQ0n ⟨#[122, 105, 112, 109, 97, 112]⟩ [tl l, tl l.reverse] = some z ∧ gQ0n ⟨#[107, 101, 121, 115]⟩ [z.1] = some ks ∧ gQ0n ⟨#[115, 111, 114, 116]⟩ [tl l] = some so ∧
  (z.2 = 0 ↔ l.Nodup) ∧ (l.Nodup → ks.1 = so.1) ∧ ks.1.Fits := by
 have hk : ∀ v ∈ [tl l, tl l.reverse], q7 v = true := fun v hv => by
  rcases List.mem_cons.1 hv with rfl | hv
  ·exact q6p _
  ·rw [List.mem_singleton.1 hv]; exact q6p _
 have ez := q7i (k := .nZipmap) (l := [tl l, tl l.reverse]) (qyl h) rfl (fit2 (qb4 l) (qj1 rfl)) hk
 have es := q7i (k := .nSort) (l := [tl l]) (q5d (by simp) fun v hv => by rw [List.mem_singleton.1 hv]; exact ⟨q58 h, by have := q8a h; omega⟩) rfl (fit1 (qb4 l)) (fun v hv => hk v (by rw [List.mem_singleton.1 hv]; exact List.mem_cons_self))
 have e0 : apS .nZipmap [tl l, tl l.reverse] = zipS (tl l) (tl l.reverse) := rfl
 rw [e0] at ez
 rcases qnh (l := l) with ⟨hn, e⟩ | ⟨hn, e⟩
 ·obtain ⟨c, n, q⟩ := qyo h hn
  rw [e, qb3 c.ck] at ez
  have ek := q7i (k := .nKeys) (l := [mapOf (qv [] (l.zip (l.reverse.map vText)))]) (q5d (by simp) fun v hv => by rw [List.mem_singleton.1 hv]; exact ⟨c, n⟩) rfl (fit1 (fitK_m rfl)) (fun v hv => by
   rw [List.mem_singleton.1 hv]
   have := qkb (hk (tl l) List.mem_cons_self) (hk (tl l.reverse) (by simp)) (.inl rfl) (.inl rfl)
   rw [e] at this; exact this)
  have e1 : apS .nKeys [mapOf (qv [] (l.zip (l.reverse.map vText)))] = apS .nSort [tl l] := by
   show (lV (((qv [] (l.zip (l.reverse.map vText))).map (·.1)).map vText), (0 : Int)) = (lV ((q2f cmpS ((l.map vText).map Val.str)).map strV), 0)
   rw [q, List.map_map, show (Val.str ∘ vText) = id from rfl, List.map_id]; rfl
  rw [e1] at ek
  refine ⟨_, _, _, ez, ek, es, ⟨fun _ => hn, fun _ => rfl⟩, fun _ => rfl, ?_⟩
  exact (qe7 (qh5 (k := .nSort) (l := [tl l]) (q5d (by simp) fun v hv => by rw [List.mem_singleton.1 hv]; exact ⟨q58 h, by have := q8a h; omega⟩) rfl (fit1 (qb4 l)) (by rw [qfn (fun v hv => hk v (by rw [List.mem_singleton.1 hv]; exact List.mem_cons_self)), Bool.and_false]))).1
 ·rw [e] at ez
  obtain ⟨r, r1, r2, _⟩ := qdo ⟨#[107, 101, 121, 115]⟩ (l := [vZ]) (q5d (by simp) fun v hv => by rw [List.mem_singleton.1 hv]; exact ⟨qa5, by decide⟩)
  exact ⟨_, r, _, ez, r1, es, ⟨fun h => (by cases h), fun h => absurd h hn⟩, fun h => absurd h hn, r2⟩
end Abs
end Go.Proofs.YtagadjpmkggjdaaGreatDoor
namespace Go.Proofs.YtagadjpmkggjdaaGreatDoor
set_option linter.unusedSimpArgs false
set_option linter.unusedVariables false
namespace Abs
open Go.RowKit
theorem ql9 {s sub : List UInt8} {c : UInt8} {t : List UInt8} (hs : sub = c :: t) {j : Nat} (h : s[j]? ≠ some c) : Lib.occAt s sub j = false := by
 cases e : Lib.occAt s sub j with
 | false => rfl
 | true => exact absurd (Lib.occAt_head hs e) h
theorem qsg {s sub : List UInt8} {c : UInt8} {t : List UInt8} (hs : sub = c :: t) (h : c ∉ s) : Lib.index s sub = -1 :=
 Lib.index_none fun j _ => ql9 hs fun e => h (List.mem_of_getElem? e)
theorem qsf {x sub r : List UInt8} {c : UInt8} {t : List UInt8} (hs : sub = c :: t) (h : c ∉ x) : Lib.index (x ++ (sub ++ r)) sub = x.length := by
 refine Lib.index_first (by simp) ?_ fun j hj => ql9 hs fun e => ?_
 ·unfold Lib.occAt
  rw [List.drop_left]
  simp
 ·rw [List.getElem?_append_left hj] at e
  exact h (List.mem_of_getElem? e)
theorem qdg {a b : ByteArray} (h : a.data.toList = b.data.toList) : a = b := by
 obtain ⟨⟨x⟩⟩ := a
 obtain ⟨⟨y⟩⟩ := b
 simp at h
 subst h; rfl
theorem qmq {sep : ByteArray} {c : UInt8} {t : List UInt8} (hs : sep.data.toList = c :: t) : ∀ (l : List ByteArray), l ≠ [] → (∀ x ∈ l, c ∉ x.data.toList) →
  Lib.countB (q17 l sep) sep = l.length - 1 ∧ Lib.splitB sep 0 (l.length - 1) (q17 l sep) = l
 | [], h, _ => absurd rfl h
 | [x], _, h => by
  have e : q17 [x] sep = x := qdg (by unfold q17; simp [Lib.join_one])
  have hi : Lib.indexB x sep = -1 := qsg hs (h x List.mem_cons_self)
  rw [e]
  exact ⟨Lib.countB_miss x sep hi, Lib.splitB_miss sep 0 _ x hi⟩
 | x :: y :: r, _, h => by
  obtain ⟨i1, i2⟩ := qmq hs (y :: r) (by simp) fun z hz => h z (List.mem_cons_of_mem _ hz)
  have hd : (q17 (x :: y :: r) sep).data.toList = x.data.toList ++ (sep.data.toList ++ (q17 (y :: r) sep).data.toList) := by
   unfold q17
   simp only [List.map_cons, Lib.join_cons, Lib.joinTail, List.flatten_cons, List.append_assoc]
  have hx : x.data.toList.length = x.size := by simp
  have hi : Lib.indexB (q17 (x :: y :: r) sep) sep = (x.size : Nat) := by
   show Lib.index (q17 (x :: y :: r) sep).data.toList sep.data.toList = _
   rw [hd, qsf hs (h x List.mem_cons_self), hx]
  have hsz : 1 ≤ sep.size := by
   have : sep.data.toList.length = sep.size := by simp
   rw [hs, List.length_cons] at this; omega
  have hsl : sep.data.toList.length = sep.size := by simp
  have ht : (q17 (x :: y :: r) sep).extract (x.size + sep.size) (q17 (x :: y :: r) sep).size = q17 (y :: r) sep := by
   refine qdg ?_
   have e1 := Lib.extract_toList (q17 (x :: y :: r) sep) (x.size + sep.size) (q17 (x :: y :: r) sep).size
   rw [ByteArray.toList_eq] at e1
   have hsz2 : (q17 (x :: y :: r) sep).size = (q17 (x :: y :: r) sep).data.toList.length := by simp
   rw [e1, hsz2, hd, ← List.append_assoc, List.drop_left' (by simp [hx, hsl])]
   exact List.take_of_length_le (by simp only [List.length_append]; omega)
  have h0 : (q17 (x :: y :: r) sep).extract 0 (x.size + 0) = x := by
   refine qdg ?_
   rw [Lib.extract_from_zero, hd, Nat.add_zero, ← hx, List.take_left]
  rw [Lib.countB_hit _ sep x.size hsz hi, ht, i1]
  simp only [List.length_cons] at i2 ⊢
  refine ⟨by omega, ?_⟩
  rw [show r.length + 1 + 1 - 1 = (r.length + 1 - 1) + 1 by omega, Lib.splitB_hit sep 0 _ _ x.size hi, ht, i2, h0]
theorem txt_ck {s : ByteArray} (h : vtext s = 0) (hs : s.size ≤ 100000) : Ck (vText s) := qcs h (by omega)
theorem qpp {l : List ByteArray} {by_ : ByteArray} (h : Txts l) (hb : vtext by_ = 0) (hs : by_.size ≤ 50) :
  ∃ j sp, gQ0n ⟨#[106, 111, 105, 110]⟩ [vText by_, tl l] = some j ∧ gQ0n ⟨#[115, 112, 108, 105, 116]⟩ [vText by_, j.1] = some sp ∧ sp.1.Fits ∧
   (j.2 = 0 → ∀ c t, by_.data.toList = c :: t → l ≠ [] → (∀ x ∈ l, c ∉ x.data.toList) → sp = (tl l, 0)) := by
 have cb := txt_ck hb (by omega)
 have ej := q7i (k := .nJoin) (l := [vText by_, tl l]) (q5d (by simp) fun v hv => by
  rcases List.mem_cons.1 hv with rfl | hv
  ·exact ⟨cb, by rw [qcr]; decide⟩
  ·rw [List.mem_singleton.1 hv]; exact ⟨q58 h, by have := q8a h; omega⟩) rfl (fit2 (qea rfl) (qb4 l)) (fun v hv => by
  rcases List.mem_cons.1 hv with rfl | hv
  ·exact kn_T _
  ·rw [List.mem_singleton.1 hv]; exact q6p _)
 have e1 : apS .nJoin [vText by_, tl l] = (vText (q17 l by_), 0) := by
  show (vText (q17 ((l.map vText).map Val.str) by_), (0 : Int)) = _
  rw [List.map_map, show (Val.str ∘ vText) = id from rfl, List.map_id]
 rw [e1] at ej
 have hfj : (vText (q17 l by_)).Fits := by
  have := qjv by_ (l.map vText) (by omega) (by rw [List.length_map]; have := h.len; omega) (fun v hv => by
   obtain ⟨s, hs, rfl⟩ := List.mem_map.1 hv
   have := (h.ok s hs).2
   show s.size ≤ 4096; omega)
  unfold q30 at this
  rw [List.map_map, show (Val.str ∘ vText) = id from rfl, List.map_id] at this
  exact q40 this
 by_cases hc : qf (vText (q17 l by_)) = 0
 ·rw [qb3 hc] at ej
  have cj := q6l hfj hc
  have es := q7i (k := .nSplit) (l := [vText by_, vText (q17 l by_)]) (q5d (by simp) fun v hv => by
   rcases List.mem_cons.1 hv with rfl | hv
   ·exact ⟨cb, by rw [qcr]; decide⟩
   ·rw [List.mem_singleton.1 hv]; exact ⟨cj, by rw [qcr]; decide⟩) rfl (fit2 (qea rfl) (qea rfl)) (fun v hv => by
   rcases List.mem_cons.1 hv with rfl | hv
   ·exact kn_T _
   ·rw [List.mem_singleton.1 hv]; exact kn_T _)
  refine ⟨_, _, ej, es, (qe7 (show (q3z by_ (q17 l by_)).1.Fits from qmp cj.str_le)).1, fun _ c t hs2 hl hx => ?_⟩
  have hne : by_ ≠ eS := fun e => by rw [e] at hs2; cases hs2
  obtain ⟨p1, p2⟩ := qmq hs2 l hl hx
  have e2 : apS .nSplit [vText by_, vText (q17 l by_)] = (tl l, 0) := by
   show q3z by_ (q17 l by_) = _
   unfold q3z q6s
   rw [if_neg hne, p1, p2]
  rw [e2, qb3 (q58 h).ck]
 ·have e3 : finS (vText (q17 l by_), 0) = (vZ, qf (vText (q17 l by_))) := by unfold finS; rw [if_pos rfl, if_neg hc]
  rw [e3] at ej
  obtain ⟨r, r1, r2, _⟩ := qdo ⟨#[115, 112, 108, 105, 116]⟩ (l := [vText by_, vZ]) (q5d (by simp) fun v hv => by
   rcases List.mem_cons.1 hv with rfl | hv
   ·exact ⟨cb, by rw [qcr]; decide⟩
   ·rw [List.mem_singleton.1 hv]; exact ⟨qa5, by decide⟩)
  exact ⟨_, r, ej, r1, r2, fun h => absurd h hc⟩
theorem qm8 {a : Val} (h : a.Fits) : tQ6z a a = some true := by
 obtain ⟨q, h1, h2⟩ := qws a a h
 rw [h1, h2.2 rfl]
theorem qjr {l : List ByteArray} {by_ : ByteArray} (h : Txts l) (hb : vtext by_ = 0) (hs : by_.size ≤ 50) (ap once : Bool) (ho : once = true ↔ l.Nodup)
  (ha : ap = true → l ≠ [] ∧ ∃ c t, by_.data.toList = c :: t ∧ ∀ x ∈ l, c ∉ x.data.toList) (i : Int) :
  gQ3f by_ (ap, once, i, l.map vText) ((by_.size : Int), ap) = some (.inr (.inr true)) ∧ ∀ n : Int, n ≥ by_.size → gQ3f by_ (ap, once, i, l.map vText) (n, ap) = some (.inr (.inr true)) ∧ gQ3j by_ (once, i, l.map vText) n = some (.inr (.inr true)) := by
 obtain ⟨j, sp, j1, j2, j3, j4⟩ := qpp h hb hs
 obtain ⟨z, ks, so, z1, z2, z3, z4, z5, z6⟩ := qps h
 have r1 := qhp h
 have r2 := qhp h.rev
 rw [List.reverse_reverse] at r2
 have e0 := qm8 (qmx h)
 have hz : (decide (z.2 = 0)) = once := by
  rw [Bool.eq_iff_iff, decide_eq_true_eq, z4, ho]
 have hke : once = true → tQ6z ks.1 so.1 = some true := fun e => by rw [← z5 (ho.1 e)]; exact qm8 z6
 have key : ∀ n : Int, n ≥ by_.size → gQ3f by_ (ap, once, i, l.map vText) (n, ap) = some (.inr (.inr true)) ∧ gQ3j by_ (once, i, l.map vText) n = some (.inr (.inr true)) := by
  intro n hn
  constructor
  ·unfold gQ3f
   simp only [decide_eq_false (show ¬ n < (by_.size : Int) by omega), cond_false, j1, j2, r1, r2, e0, z1, z2, z3, Option.bind_some, decide_true, Bool.not_true, hz, beq_self_eq_true, awake18]
   cases ap with
   | false =>
    cases once with
    | false => rfl
    | true => rw [hke rfl]; rfl
   | true =>
    by_cases hj : j.2 = 0
    ·obtain ⟨a1, c, t, a2, a3⟩ := ha rfl
     have e := j4 hj c t a2 a1 a3
     rw [e, decide_eq_true hj]
     simp only [e0, Option.bind_some, decide_true, Bool.not_true, cond_false, cond_true]
     cases once with
     | false => rfl
     | true => rw [hke rfl]; rfl
    ·rw [decide_eq_false hj]
     simp only [cond_true, cond_false]
     cases once with
     | false => rfl
     | true => rw [hke rfl]; rfl
  ·unfold gQ3j
   simp only [decide_eq_false (show ¬ n < (by_.size : Int) by omega), cond_false, j1, j2, r1, r2, e0, z1, z2, z3, Option.bind_some, decide_true, Bool.not_true, hz, beq_self_eq_true, awake18]
   cases once with
   | false => rfl
   | true => rw [hke rfl]; rfl
 exact ⟨(key _ (by omega)).1, key⟩
end Abs
end Go.Proofs.YtagadjpmkggjdaaGreatDoor
namespace Go.Proofs.YtagadjpmkggjdaaGreatDoor
set_option linter.unusedSimpArgs false
set_option linter.unusedVariables false
namespace Abs
open Go.RowKit
theorem qcj {s : ByteArray} {i : Nat} {b : UInt8} (h : s.data.toList[i]? = some b) : sidx s (i : Int) = some ((b.toNat : Nat) : Int) := by
 have hi : i < s.size := by
  have := (List.getElem?_eq_some_iff.1 h).1
  simpa using this
 rw [qmi hi]
 congr 2
 have : s.data.toList[i]? = some s[i] := by
  rw [List.getElem?_eq_getElem (by simpa using hi)]; rfl
 rw [this] at h
 rw [Option.some.inj h]
theorem q6w (s : ByteArray) : s.data.toList.length = s.size := by simp
theorem inv_L3 (l : List ByteArray) (x : ByteArray) (ap0 once : Bool) (i : Nat) (items : List Val) (k : Int) (ap : Bool) (hi : l[i]? = some x) (hl : l.length ≤ 60) (hit : items.length ≤ 60) :
  q8 (gQ3e l x (ap0, once, (i : Int), items) (k, ap)) (0, once) = some (.inr (.inl (ap, once && (l.take i).all (fun y => !decide (y = x)), ((i + 1 : Nat) : Int), items ++ [vText x]))) := by
 have hil := (List.getElem?_eq_some_iff.1 hi).1
 have htl : (l.take i).length = i := by rw [List.length_take]; omega
 refine q1j (body := gQ3e l x (ap0, once, (i : Int), items) (k, ap)) (l.take i) (fun j (a : Bool) => ((j : Int), a)) (fun a r => .inr (.inl (ap, a && r.all (fun y => !decide (y = x)), ((i + 1 : Nat) : Int), items ++ [vText x]))) (fun _ _ => True) rfl trivial (fun a _ => ?_) (fun j y r a hj hx _ _ => ?_)
 ·rw [htl]
  simp only [gQ3e, decide_eq_false (show ¬ (i : Int) < (i : Int) by omega), cond_false, q2r items (vText x) (m := 80) (n := 100001) (by decide) (by omega) (by decide), Option.bind_some, qq hil (show l.length ≤ 9223372036854775807 by omega), List.all_nil, Bool.and_true]
 ·left
  rw [htl] at hj
  have hy : l[j]? = some y := by rw [← hx, List.getElem?_take, if_pos hj]
  simp only [gQ3e, decide_eq_true (show (j : Int) < (i : Int) by omega), cond_true, qe, hy, hi, Option.bind_some, qq (show j < l.length by omega) (show l.length ≤ 9223372036854775807 by omega), List.all_cons]
  cases a with
  | true => exact ⟨!decide (y = x), trivial, rfl, by rw [Bool.true_and]⟩
  | false => exact ⟨false, trivial, rfl, by rw [Bool.false_and, Bool.false_and]⟩
theorem inv_L2 (l : List ByteArray) (by_ x : ByteArray) (c : UInt8) (t : List UInt8) (hb : by_.data.toList = c :: t) (ap once : Bool) (i : Nat) (items : List Val) (hi : l[i]? = some x) (hl : l.length ≤ 60) (hit : items.length ≤ 60) (hx : x.size ≤ 50) :
  q8 (gQ3d l by_ x (ap, once, (i : Int), items)) (0, ap) = some (.inl (ap && x.data.toList.all (fun b => !decide (b = c)), once && (l.take i).all (fun y => !decide (y = x)), ((i + 1 : Nat) : Int), items ++ [vText x])) := by
 have hc : sidx by_ 0 = some ((c.toNat : Nat) : Int) := qcj (i := 0) (by rw [hb]; rfl)
 refine q1j (body := gQ3d l by_ x (ap, once, (i : Int), items)) x.data.toList (fun j (a : Bool) => ((j : Int), a)) (fun a r => .inl (a && r.all (fun b => !decide (b = c)), once && (l.take i).all (fun y => !decide (y = x)), ((i + 1 : Nat) : Int), items ++ [vText x])) (fun _ _ => True) rfl trivial (fun a _ => ?_) (fun j b r a hj hbx _ _ => ?_)
 ·rw [q6w]
  simp only [gQ3d, qe, hi, Option.bind_some, decide_eq_false (show ¬ (x.size : Int) < (x.size : Int) by omega), cond_false]
  rw [inv_L3 l x ap once i items (x.size : Int) a hi hl hit]
  simp only [List.all_nil, Bool.and_true]
 ·left
  rw [q6w] at hj
  simp only [gQ3d, qe, hi, Option.bind_some, decide_eq_true (show (j : Int) < (x.size : Int) by omega), cond_true, qcj hbx, hc, qq hj (show x.size ≤ 9223372036854775807 by omega), List.all_cons]
  have hd : decide (((b.toNat : Nat) : Int) = ((c.toNat : Nat) : Int)) = decide (b = c) := by
   by_cases h : b = c
   ·subst h; simp
   ·rw [decide_eq_false h, decide_eq_false fun e => h (UInt8.toNat_inj.1 (by omega))]
  rw [hd]
  cases a with
  | true => exact ⟨!decide (b = c), trivial, rfl, by rw [Bool.true_and]⟩
  | false => exact ⟨false, trivial, rfl, by rw [Bool.false_and, Bool.false_and]⟩
theorem inv_L7 (l : List ByteArray) (x : ByteArray) (once : Bool) (i : Nat) (items : List Val) (hi : l[i]? = some x) (hl : l.length ≤ 60) (hit : items.length ≤ 60) :
  q8 (gQ3i l x (once, (i : Int), items)) (0, once) = some (.inr (.inl (once && (l.take i).all (fun y => !decide (y = x)), ((i + 1 : Nat) : Int), items ++ [vText x]))) := by
 have hil := (List.getElem?_eq_some_iff.1 hi).1
 have htl : (l.take i).length = i := by rw [List.length_take]; omega
 refine q1j (body := gQ3i l x (once, (i : Int), items)) (l.take i) (fun j (a : Bool) => ((j : Int), a)) (fun a r => .inr (.inl (a && r.all (fun y => !decide (y = x)), ((i + 1 : Nat) : Int), items ++ [vText x]))) (fun _ _ => True) rfl trivial (fun a _ => ?_) (fun j y r a hj hx _ _ => ?_)
 ·rw [htl]
  simp only [gQ3i, decide_eq_false (show ¬ (i : Int) < (i : Int) by omega), cond_false, q2r items (vText x) (m := 80) (n := 100001) (by decide) (by omega) (by decide), Option.bind_some, qq hil (show l.length ≤ 9223372036854775807 by omega), List.all_nil, Bool.and_true]
 ·left
  rw [htl] at hj
  have hy : l[j]? = some y := by rw [← hx, List.getElem?_take, if_pos hj]
  simp only [gQ3i, decide_eq_true (show (j : Int) < (i : Int) by omega), cond_true, qe, hy, hi, Option.bind_some, qq (show j < l.length by omega) (show l.length ≤ 9223372036854775807 by omega), List.all_cons]
  cases a with
  | true => exact ⟨!decide (y = x), trivial, rfl, by rw [Bool.true_and]⟩
  | false => exact ⟨false, trivial, rfl, by rw [Bool.false_and, Bool.false_and]⟩
theorem inv_L6 (l : List ByteArray) (x : ByteArray) (once : Bool) (i : Nat) (items : List Val) (hi : l[i]? = some x) (hl : l.length ≤ 60) (hit : items.length ≤ 60) (hx : x.size ≤ 50) :
  q8 (gQ3h l x (once, (i : Int), items)) 0 = some (.inl (once && (l.take i).all (fun y => !decide (y = x)), ((i + 1 : Nat) : Int), items ++ [vText x])) := by
 refine q1j (body := gQ3h l x (once, (i : Int), items)) x.data.toList (fun j (_ : Unit) => (j : Int)) (fun _ _ => .inl (once && (l.take i).all (fun y => !decide (y = x)), ((i + 1 : Nat) : Int), items ++ [vText x])) (fun _ _ => True) (a := ()) rfl trivial (fun _ _ => ?_) (fun j b r _ hj hbx _ _ => ?_)
 ·rw [q6w]
  simp only [gQ3h, qe, hi, Option.bind_some, decide_eq_false (show ¬ (x.size : Int) < (x.size : Int) by omega), cond_false]
  rw [inv_L7 l x once i items hi hl hit]
 ·left
  rw [q6w] at hj
  simp only [gQ3h, qe, hi, Option.bind_some, decide_eq_true (show (j : Int) < (x.size : Int) by omega), cond_true, qq hj (show x.size ≤ 9223372036854775807 by omega)]
  exact ⟨(), trivial, trivial, trivial⟩
theorem ql5 {l : List ByteArray} {i : Nat} {x : ByteArray} (hx : l[i]? = some x) : (l.take (i + 1)).Nodup ↔ (l.take i).Nodup ∧ (l.take i).all (fun y => !decide (y = x)) = true := by
 rw [List.take_add_one, hx, Option.toList_some, List.nodup_append]
 simp only [List.all_eq_true, Bool.not_eq_true', decide_eq_false_iff_not, List.mem_singleton, List.nodup_cons, List.not_mem_nil, not_false_eq_true, List.nodup_nil, and_self, true_and]
 constructor
 ·rintro ⟨a, b⟩; exact ⟨a, fun y hy e => b y hy x rfl e⟩
 ·rintro ⟨a, b⟩; exact ⟨a, fun y hy z hz e => b y hy (e.trans hz)⟩
theorem qt3 (l : List ByteArray) (by_ : ByteArray) (hl : ∀ s ∈ l, s.size ≤ 140737488351232) (hby : by_.size ≤ 140737488351232) : gQ3b l by_ = some true := by
 unfold gQ3b
 by_cases h1 : l.length > 60
 ·rw [decide_eq_true (show (l.length : Int) > 60 by omega), cond_true, awake18]; rfl
 rw [decide_eq_false (show ¬ (l.length : Int) > 60 by omega), cond_false]
 by_cases h2 : by_.size > 50
 ·rw [decide_eq_true (show (by_.size : Int) > 50 by omega), cond_true, awake18]; rfl
 rw [decide_eq_false (show ¬ (by_.size : Int) > 50 by omega), cond_false]
 have hfb : (vText by_).Fits := q40 hby
 rw [show q21 (Val.mk 3 0 by_ [] []) = some (qf (vText by_)) from q6k hfb, Option.bind_some]
 by_cases h3 : qf (vText by_) = 0
 case neg => rw [decide_eq_false h3, Bool.not_false, cond_true, awake18]; rfl
 rw [decide_eq_true h3, Bool.not_true, cond_false]
 have hvb : vtext by_ = 0 := (q80 (q6l hfb h3).ok.2.choose_spec.node).2.2.1
 have txt : ∀ i, i ≤ l.length → (∀ s ∈ l.take i, vtext s = 0 ∧ s.size ≤ 50) → Txts (l.take i) := fun i _ h => ⟨by rw [List.length_take]; omega, h⟩
 have step1 : ∀ {i : Nat} {x : ByteArray}, l[i]? = some x → (∀ s ∈ l.take i, vtext s = 0 ∧ s.size ≤ 50) → qf (vText x) = 0 → x.size ≤ 50 → ∀ s ∈ l.take (i + 1), vtext s = 0 ∧ s.size ≤ 50 := fun {i x} hx hv hc hs s hm => by
  rw [List.take_add_one, hx] at hm
  rcases List.mem_append.1 hm with hm | hm
  ·exact hv s hm
  ·have : s = x := by simpa using hm
   subst this
   exact ⟨(q80 (q6l (q40 (hl s (List.mem_of_getElem? hx))) hc).ok.2.choose_spec.node).2.2.1, hs⟩
 by_cases hne : by_ = eS
 ·rw [decide_eq_true hne, Bool.not_true, cond_false]
  obtain ⟨q, q1, q2⟩ := q2p (body := gQ3g l by_) (fun s => ∃ (i : Nat) (once : Bool), s = (once, (i : Int), (l.take i).map vText) ∧ i ≤ l.length ∧ (∀ s ∈ l.take i, vtext s = 0 ∧ s.size ≤ 50) ∧ (once = true ↔ (l.take i).Nodup)) (fun s => l.length - s.2.1.toNat) (fun q => q = true) (by
   rintro s ⟨i, once, rfl, hi, hv, ho⟩
   rcases Nat.eq_or_lt_of_le hi with h0 | h0
   ·right
    refine ⟨true, ?_, rfl⟩
    rw [List.take_of_length_le (by omega)] at hv ho ⊢
    have T : Txts l := ⟨by omega, hv⟩
    simp only [gQ3g, decide_eq_false (show ¬ (i : Int) < (l.length : Int) by omega), cond_false]
    refine q2o ?_
    exact ((qjr T hvb (by omega) false once ho (fun h => by cases h) (i : Int)).2 1 (by rw [hne]; decide)).2
   ·have hx := List.getElem?_eq_getElem h0
    have hm := List.getElem_mem h0
    have hfx : (vText l[i]).Fits := q40 (hl _ hm)
    have e : gQ3g l by_ (once, (i : Int), (l.take i).map vText) = if l[i].size > 50 then some (.inr true) else if qf (vText l[i]) = 0 then q8 (gQ3h l l[i] (once, (i : Int), (l.take i).map vText)) 0 else some (.inr true) := by
     simp only [gQ3g, decide_eq_true (show (i : Int) < (l.length : Int) by omega), cond_true, qe, hx, Option.bind_some, awake18, show q21 (Val.mk 3 0 l[i] [] []) = some (qf (vText l[i])) from q6k hfx]
     by_cases c1 : l[i].size > 50
     ·rw [decide_eq_true (show (l[i].size : Int) > 50 by omega), if_pos c1]; rfl
     rw [decide_eq_false (show ¬ (l[i].size : Int) > 50 by omega), if_neg c1, cond_false]
     by_cases c2 : qf (vText l[i]) = 0
     ·rw [decide_eq_true c2, if_pos c2]; rfl
     ·rw [decide_eq_false c2, if_neg c2]; rfl
    rw [e]
    by_cases c1 : l[i].size > 50
    ·rw [if_pos c1]; exact .inr ⟨true, rfl, rfl⟩
    rw [if_neg c1]
    by_cases c2 : qf (vText l[i]) = 0
    case neg => rw [if_neg c2]; exact .inr ⟨true, rfl, rfl⟩
    rw [if_pos c2, inv_L6 l l[i] once i _ hx (by omega) (by rw [List.length_map, List.length_take]; omega) (by omega)]
    left
    refine ⟨_, rfl, ⟨i + 1, once && (l.take i).all (fun y => !decide (y = l[i])), ?_, h0, step1 hx hv c2 (by omega), ?_⟩, by simp only [Int.toNat_natCast]; omega⟩
    ·rw [List.take_add_one, hx]; simp only [Option.toList_some, List.map_append, List.map_cons, List.map_nil]
    ·rw [ql5 hx, Bool.and_eq_true, ho]) (true, 0, []) ⟨0, true, rfl, Nat.zero_le _, by simp, by simp⟩
  rw [q1, q2]
 ·rw [decide_eq_false hne, Bool.not_false, cond_true]
  obtain ⟨c, t, hct⟩ : ∃ c t, by_.data.toList = c :: t := by
   cases hd : by_.data.toList with
   | nil =>
    exfalso
    have := qcp hne
    rw [← q6w, hd] at this
    simp at this
   | cons c t => exact ⟨c, t, rfl⟩
  have hbs := qcp hne
  obtain ⟨q, q1, q2⟩ := q2p (body := gQ3c l by_) (fun s => ∃ (i : Nat) (ap once : Bool), s = (ap, once, (i : Int), (l.take i).map vText) ∧ i ≤ l.length ∧ (∀ s ∈ l.take i, vtext s = 0 ∧ s.size ≤ 50) ∧ (once = true ↔ (l.take i).Nodup) ∧ (ap = true → l ≠ [] ∧ ∀ x ∈ l.take i, c ∉ x.data.toList)) (fun s => l.length - s.2.2.1.toNat) (fun q => q = true) (by
   rintro s ⟨i, ap, once, rfl, hi, hv, ho, hap⟩
   rcases Nat.eq_or_lt_of_le hi with h0 | h0
   ·right
    refine ⟨true, ?_, rfl⟩
    rw [List.take_of_length_le (by omega)] at hv ho hap ⊢
    have T : Txts l := ⟨by omega, hv⟩
    simp only [gQ3c, decide_eq_false (show ¬ (i : Int) < (l.length : Int) by omega), cond_false]
    obtain ⟨p, p1, p2⟩ := q2p (body := gQ3f by_ (ap, once, (i : Int), l.map vText)) (fun s => ∃ (k : Nat) (a : Bool), s = ((k : Int), a) ∧ k ≤ by_.size ∧ (a = true → ap = true)) (fun s => by_.size - s.1.toNat) (fun q => q = .inr true) (by
     rintro s ⟨k, a, rfl, hk, ha⟩
     rcases Nat.eq_or_lt_of_le hk with k0 | k0
     ·right
      refine ⟨_, ?_, rfl⟩
      exact ((qjr T hvb (by omega) a once ho (fun h => ⟨(hap (ha h)).1, c, t, hct, (hap (ha h)).2⟩) (i : Int)).2 (k : Int) (by omega)).1
     ·left
      have hkb : by_.data.toList[k]? = some (by_.data.toList[k]'(by rw [q6w]; exact k0)) := List.getElem?_eq_getElem _
      have hc0 : sidx by_ 0 = some ((c.toNat : Nat) : Int) := qcj (i := 0) (by rw [hct]; rfl)
      cases a with
      | true =>
       refine ⟨(((k + 1 : Nat) : Int), !decide ((((by_.data.toList[k]'(by rw [q6w]; exact k0)).toNat : Nat) : Int) = ((c.toNat : Nat) : Int))), by simp only [gQ3f, decide_eq_true (show (k : Int) < (by_.size : Int) by omega), cond_true, qcj hkb, hc0, Option.bind_some, qq k0 (show by_.size ≤ 9223372036854775807 by omega)], ⟨k + 1, _, rfl, k0, fun _ => ha rfl⟩, by simp only [Int.toNat_natCast]; omega⟩
      | false =>
       refine ⟨(((k + 1 : Nat) : Int), false), by simp only [gQ3f, decide_eq_true (show (k : Int) < (by_.size : Int) by omega), cond_true, cond_false, qq k0 (show by_.size ≤ 9223372036854775807 by omega)], ⟨k + 1, _, rfl, k0, fun h => by cases h⟩, by simp only [Int.toNat_natCast]; omega⟩) (1, ap) ⟨1, ap, rfl, hbs, id⟩
    rw [p1, p2]
   ·have hx := List.getElem?_eq_getElem h0
    have hm := List.getElem_mem h0
    have hfx : (vText l[i]).Fits := q40 (hl _ hm)
    have e : gQ3c l by_ (ap, once, (i : Int), (l.take i).map vText) = if l[i].size > 50 then some (.inr true) else if qf (vText l[i]) = 0 then q8 (gQ3d l by_ l[i] (ap, once, (i : Int), (l.take i).map vText)) (0, ap) else some (.inr true) := by
     simp only [gQ3c, decide_eq_true (show (i : Int) < (l.length : Int) by omega), cond_true, qe, hx, Option.bind_some, awake18, show q21 (Val.mk 3 0 l[i] [] []) = some (qf (vText l[i])) from q6k hfx]
     by_cases c1 : l[i].size > 50
     ·rw [decide_eq_true (show (l[i].size : Int) > 50 by omega), if_pos c1]; rfl
     rw [decide_eq_false (show ¬ (l[i].size : Int) > 50 by omega), if_neg c1, cond_false]
     by_cases c2 : qf (vText l[i]) = 0
     ·rw [decide_eq_true c2, if_pos c2]; rfl
     ·rw [decide_eq_false c2, if_neg c2]; rfl
    rw [e]
    by_cases c1 : l[i].size > 50
    ·rw [if_pos c1]; exact .inr ⟨true, rfl, rfl⟩
    rw [if_neg c1]
    by_cases c2 : qf (vText l[i]) = 0
    case neg => rw [if_neg c2]; exact .inr ⟨true, rfl, rfl⟩
    rw [if_pos c2, inv_L2 l by_ l[i] c t hct ap once i _ hx (by omega) (by rw [List.length_map, List.length_take]; omega) (by omega)]
    left
    refine ⟨_, rfl, ⟨i + 1, ap && l[i].data.toList.all (fun b => !decide (b = c)), once && (l.take i).all (fun y => !decide (y = l[i])), ?_, h0, step1 hx hv c2 (by omega), ?_, fun ha => ?_⟩, by simp only [Int.toNat_natCast]; omega⟩
    ·rw [List.take_add_one, hx]; simp only [Option.toList_some, List.map_append, List.map_cons, List.map_nil]
    ·rw [ql5 hx, Bool.and_eq_true, ho]
    ·rw [Bool.and_eq_true, List.all_eq_true] at ha
     obtain ⟨a1, a2⟩ := hap ha.1
     refine ⟨a1, fun y hy => ?_⟩
     rw [List.take_add_one, hx] at hy
     rcases List.mem_append.1 hy with hy | hy
     ·exact a2 y hy
     ·have : y = l[i] := by simpa using hy
      subst this
      intro hc
      have := ha.2 c hc
      simp at this) (decide ((l.length : Int) > 0), true, 0, []) ⟨0, _, true, rfl, Nat.zero_le _, by simp, by simp, fun h => ⟨fun e => by rw [e] at h; simp at h, by simp⟩⟩
  rw [q1, q2]
end Abs
end Go.Proofs.YtagadjpmkggjdaaGreatDoor
