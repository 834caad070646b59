/-
  Schema's masks: Go functions as functions over plain values, with the proof that the code computes them; printed by gen.py.
-/
import Derived.Test.YtkffpfapfljinaaGreatDoorFnZ
import Derived.Test.YtkffpfapfljinaaGreatDoorAbsV
import Derived.Test.YtkffpfapfljinaaGreatDoorAbsN
namespace Go.Proofs.YtkffpfapfljinaaGreatDoor
namespace Abs
open Go.RowKit
variable {E : World → Prop} {E0 : Nat} {G : Nat → Option (List PV)}
set_option maxRecDepth 100000
set_option linter.unusedVariables false
set_option linter.unusedSimpArgs false
attribute [local irreducible] adv J KE KO mPut mSto q5a mFrm qb5 hedS unl Pure Ok sl qb awpL awp asq asqD asqX asqF
noncomputable def gQ9m (v_ : Val) (s1ii : Int × List Val) : Option ((Int × List Val) ⊕ (List Val)) :=
 bif (decide (s1ii.1 < (v_.items.length : Int))) then (idx v_.items s1ii.1).bind fun x5 => (tQb6 x5).bind fun y6 => (app 80 s1ii.2 [y6]).bind fun l7 => some (.inl ((IntKind.i64.wrap (s1ii.1 + 1)), l7)) else bif (decide ((s1ii.2.length : Int) = 0)) then none else some (.inr (s1ii.2))
noncomputable def gQ9l  (v_ : Val) (x_ : Val) (y1 : List ByteArray) : Option (List Val) :=
 bif (decide ((v_.items.length : Int) = 0)) then some ([]) else (mkc 80 (v_.items.length : Int)).bind fun u3 => qb (gQ9m v_) (0, [])
theorem gQ9n (hb : Base E E0 G) (he : ∀ w, E w → EnvV w)   (v_ : Val) (x_ : Val) (y1 : List ByteArray) : ∀ r_ : List Val, gQ9l v_ x_ y1 = some r_ →
 Ok E E0 Tryz.prog 138 [.cell (vL flV v_.items)] [bx (aV v_), bx (aV x_), bx zV, bx [vi v_.kind, vi v_.num, vS v_.str, vL flV v_.items, vL flS y1], bx zV] (c1 (vO flV 5 r_)) [bx (aV v_), bx (aV x_), bx zV, bx [vi v_.kind, vi v_.num, vS v_.str, vL flV v_.items, vL flS y1], bx zV, some (arO true flV.sz 0 (flV.f r_))] := by
 refine fnO2 hb Tryz.func138 rfl fun r_ hq => ?_
 refine ifE hb 11 [8] [] hq (fun hq _ => ?_) (fun hq _ => ?_)
 refine q4s hb 5 2 5 ?_
 exact q2s hb 0 [2] [] 6 (σ1 := fun r_ : List Val => [bx (aV v_), bx (aV x_), bx zV, bx [vi v_.kind, vi v_.num, vS v_.str, vL flV v_.items, vL flS y1], bx zV, some (arO true flV.sz 0 (flV.f r_))]) (injO hq).symm ⟨(by kernel_rfl), (by kernel_rfl), (by kernel_rfl), (by kernel_rfl), (by kernel_rfl), (q8 _ _ _ _ _), trivial⟩
 refine mk0E flV hb 6 hq fun u3 hu3 hq => ?_
 refine qj hb 10 (gQ9m v_) (fun s1ii => sl 25 [(3, c1 (vO flV 5 s1ii.2)), (12, c1 (vL flV v_.items)), (13, c1 (vi (v_.items.length : Int))), (14, c1 (vi s1ii.1))]) (fun s1ii => [bx (aV v_), bx (aV x_), bx zV, bx [vi v_.kind, vi v_.num, vS v_.str, vL flV v_.items, vL flS y1], bx zV, some (arO false flV.sz 0 (flV.f s1ii.2))]) [3, 12, 13, 14] [] 6 (s0 := (0, [])) ⟨(by kernel_rfl), (by kernel_rfl), (by kernel_rfl), (by kernel_rfl), (by kernel_rfl), (q8 _ _ _ _ _), trivial⟩ hq (fun s1ii x1 hq hn1 he1 => ?_)
 refine ifE hb 5 [15] [] hq (fun hq _ => ?_) (fun hq _ => ?_)
 refine idxE hb flV 6 hq fun x5 hx5 hq => ?_
 refine q6 hb 7 hq (tQb7 hb he x5) fun y6 hy6 hq => ?_
 refine qg flV hb 1 5 false 0 (flV.one y6) hq fun l7 hl7 hq => ?_
 exact q9 hb 7 [3, 12, 13, 14] [] 6 (hn1 _ (injO hq)) ⟨(by kernel_rfl), (by kernel_rfl), (by kernel_rfl), (by kernel_rfl), (by kernel_rfl), (q8 _ _ _ _ _), trivial⟩
 refine wkE hb flV 7 5 (fr := 0) (xs := s1ii.2) hq (fun hq => ?_)
 exact q2s hb 0 [2] [] 6 (σ1 := fun r_ : List Val => [bx (aV v_), bx (aV x_), bx zV, bx [vi v_.kind, vi v_.num, vS v_.str, vL flV v_.items, vL flS y1], bx zV, some (arO true flV.sz 0 (flV.f r_))]) (he1 _ (injO hq)) ⟨(by kernel_rfl), (by kernel_rfl), (by kernel_rfl), (by kernel_rfl), (by kernel_rfl), (q8 _ _ _ _ _), trivial⟩
noncomputable def gQ9j  (v_ : Val) (x_ : Val) : Option (Int × Int × ByteArray × List Val × List ByteArray) :=
 (clone 16 v_.keys).bind fun y1 => (gQ9l v_ x_ y1).bind fun y8 => some (v_.kind, v_.num, v_.str, y8, y1)
theorem gQ9k (hb : Base E E0 G) (he : ∀ w, E w → EnvV w)   (v_ : Val) (x_ : Val) : ∀ r_ : Int × Int × ByteArray × List Val × List ByteArray, gQ9j v_ x_ = some r_ →
 Ok E E0 Tryz.prog 109 [.agg (aV v_)] [bx (aV v_), bx (aV x_), bx zV] (.one (.agg [vi r_.1, vi r_.2.1, vS r_.2.2.1, vO flV 5 r_.2.2.2.1, vL flS r_.2.2.2.2])) [bx (aV v_), bx (aV x_), bx zV, none, bx [vi r_.1, vi r_.2.1, vS r_.2.2.1, vO flV 5 r_.2.2.2.1, vL flS r_.2.2.2.2], some (arO true flV.sz 0 (flV.f r_.2.2.2.1))] := by
 refine fnO2 hb Tryz.func109 rfl fun r_ hq => ?_
 refine q6 hb 9 hq (q6x hb he v_.keys) fun y1 hy1 hq => ?_
 refine q45 hb 7 hq (gQ9n hb he v_ x_ y1) fun y8 hy8 hq => ?_
 exact q2s hb 8 [2] [3] 6 (σ1 := fun r_ : Int × Int × ByteArray × List Val × List ByteArray => [bx (aV v_), bx (aV x_), bx zV, none, bx [vi r_.1, vi r_.2.1, vS r_.2.2.1, vO flV 5 r_.2.2.2.1, vL flS r_.2.2.2.2], some (arO true flV.sz 0 (flV.f r_.2.2.2.1))]) (injO hq).symm ⟨(by kernel_rfl), (by kernel_rfl), (by kernel_rfl), rfl, (by kernel_rfl), (q8 _ _ _ _ _), trivial⟩
noncomputable def gQ9i  (v_ : Val) (key_ : ByteArray) (x_ : Val) : Option (Val) :=
 (gQ9j v_ x_).bind fun y9 => (gQ7x y9.2.2.2.2 key_).bind fun y10 => bif (decide (y10.1 > (y9.2.2.2.1.length : Int))) then some (Val.mk y9.1 y9.2.1 y9.2.2.1 y9.2.2.2.1 y9.2.2.2.2) else bif y10.2 then bif (decide (y10.1 = (y9.2.2.2.1.length : Int))) then some (Val.mk y9.1 y9.2.1 y9.2.2.1 y9.2.2.2.1 y9.2.2.2.2) else (tQb6 x_).bind fun y14 => (idx y9.2.2.2.1 y10.1).bind fun x15 => some (Val.mk y9.1 y9.2.1 y9.2.2.1 (upd y9.2.2.2.1 y10.1 y14) y9.2.2.2.2) else none
theorem gQ9o (hb : Base E E0 G) (he : ∀ w, E w → EnvV w)   (v_ : Val) (key_ : ByteArray) (x_ : Val) : ∀ r_ : Val, gQ9i v_ key_ x_ = some r_ →
 Pure E E0 Tryz.prog 92 [.agg (aV v_), .cell (vS key_), .agg (aV x_)] (.one (.agg (aV r_))) := by
 refine fnE hb Tryz.func92 rfl fun r_ hq => ?_
 refine q45 hb 9 hq (gQ9k hb he v_ x_) fun y9 hy9 hq => ?_
 refine q6 hb 8 hq (gQ7z hb he y9.2.2.2.2 key_) fun y10 hy10 hq => ?_
 refine q5z flV hb 12 5 true 0 y9.2.2.2.1 ?_
 refine ifE hb 2 [23, 24] [] hq (fun hq _ => ?_) (fun hq _ => ?_)
 refine qq hb 16 5 true (sz := flV.sz) (fr := 0) (cs := flV.f y9.2.2.2.1) (by kernel_rfl) (Nat.zero_le _) ?_
 refine qn hb 0 2 3 (cs := [vi y9.1, vi y9.2.1, vS y9.2.2.1, vO flV 5 y9.2.2.2.1, vL flS y9.2.2.2.2]) (c := vO flV 5 y9.2.2.2.1) (qr flV (nb := true) (id := 5) (xs := y9.2.2.2.1) (by kernel_rfl)) (by kernel_rfl) ?_
 exact retE hb 0 (injO hq).symm
 refine ifE hb 2 [9, 18, 25, 26] [] hq (fun hq _ => ?_) (fun hq _ => ?_)
 refine q5z flV hb 3 5 true 0 y9.2.2.2.1 ?_
 refine ifE hb 4 [31, 32, 33] [] hq (fun hq _ => ?_) (fun hq _ => ?_)
 refine qq hb 6 5 true (sz := flV.sz) (fr := 0) (cs := flV.f y9.2.2.2.1) (by kernel_rfl) (Nat.zero_le _) ?_
 refine qn hb 0 2 3 (cs := [vi y9.1, vi y9.2.1, vS y9.2.2.1, vO flV 5 y9.2.2.2.1, vL flS y9.2.2.2.2]) (c := vO flV 5 y9.2.2.2.1) (qr flV (nb := true) (id := 5) (xs := y9.2.2.2.1) (by kernel_rfl)) (by kernel_rfl) ?_
 exact retE hb 0 (injO hq).symm
 refine qe hb mixed 11 5 [] ?_
 refine q6 hb 4 hq (tQb7 hb he x_) fun y14 hy14 hq => ?_
 refine q46 flV hb 1 5 true 0 hq fun x15 hx15 hq => ?_
 refine qfk flV hb 0 5 true hx15 y14 ?_
 refine qn hb 1 4 3 (cs := [vi y9.1, vi y9.2.1, vS y9.2.2.1, vO flV 5 y9.2.2.2.1, vL flS y9.2.2.2.2]) (c := vO flV 5 y9.2.2.2.1) (q55 (q5j flV (q4c y9.2.2.2.1 y10.1 y14))) (by kernel_rfl) ?_
 refine qn hb 0 6 3 (cs := [vi y9.1, vi y9.2.1, vS y9.2.2.1, vO flV 5 y9.2.2.2.1, vL flS y9.2.2.2.2]) (c := vO flV 5 y9.2.2.2.1) (q55 (q5j flV (q4c y9.2.2.2.1 y10.1 y14))) (by kernel_rfl) ?_
 refine qq hb 5 5 true (sz := flV.sz) (fr := 0) (cs := flV.f (upd y9.2.2.2.1 y10.1 y14)) (by kernel_rfl) (Nat.zero_le _) ?_
 refine qn hb 0 2 3 (cs := [vi y9.1, vi y9.2.1, vS y9.2.2.1, vO flV 5 (upd y9.2.2.2.1 y10.1 y14), vL flS y9.2.2.2.2]) (c := vO flV 5 (upd y9.2.2.2.1 y10.1 y14)) (qr flV (nb := true) (id := 5) (xs := (upd y9.2.2.2.1 y10.1 y14)) (by kernel_rfl)) (by kernel_rfl) ?_
 exact retE hb 0 (injO hq).symm
 cases hq
noncomputable def gQ7h (l_ : List AttrG) (s1 : Int × Int × ByteArray × List Val × List ByteArray × Int) : Option ((Int × Int × ByteArray × List Val × List ByteArray × Int) ⊕ (Val)) :=
 bif (decide (s1.2.2.2.2.2 < (l_.length : Int))) then (idx l_ s1.2.2.2.2.2).bind fun x2 => (gQ91 (Val.mk s1.1 s1.2.1 s1.2.2.1 s1.2.2.2.1 s1.2.2.2.2.1) x2.name).bind fun y3 => bif y3.2 then bif x2.sensitive then bif (!decide (y3.1.kind = 0)) then (gQ9u (⟨#[40, 115, 101, 110, 115, 105, 116, 105, 118, 101, 41]⟩ : ByteArray)).bind fun y7 => (gQ9i (Val.mk s1.1 s1.2.1 s1.2.2.1 s1.2.2.2.1 s1.2.2.2.2.1) x2.name y7).bind fun y8 => some (.inl (y8.kind, y8.num, y8.str, y8.items, y8.keys, (IntKind.i64.wrap (s1.2.2.2.2.2 + 1)))) else some (.inl (s1.1, s1.2.1, s1.2.2.1, s1.2.2.2.1, s1.2.2.2.2.1, (IntKind.i64.wrap (s1.2.2.2.2.2 + 1)))) else some (.inl (s1.1, s1.2.1, s1.2.2.1, s1.2.2.2.1, s1.2.2.2.2.1, (IntKind.i64.wrap (s1.2.2.2.2.2 + 1)))) else some (.inl (s1.1, s1.2.1, s1.2.2.1, s1.2.2.2.1, s1.2.2.2.2.1, (IntKind.i64.wrap (s1.2.2.2.2.2 + 1)))) else some (.inr (Val.mk s1.1 s1.2.1 s1.2.2.1 s1.2.2.2.1 s1.2.2.2.2.1))
noncomputable def gQ7g  (v_ : Val) (l_ : List AttrG) : Option (Val) :=
 qb (gQ7h l_) (v_.kind, v_.num, v_.str, v_.items, v_.keys, 0)
theorem gQ7i (hb : Base E E0 G) (he : ∀ w, E w → EnvV w)   (v_ : Val) (l_ : List AttrG) : ∀ r_ : Val, gQ7g v_ l_ = some r_ →
 Pure E E0 Tryz.prog 90 [.agg (aV v_), .cell (vL q7 l_)] (.one (.agg (aV r_))) := by
 refine fnE hb Tryz.func90 rfl fun r_ hq => ?_
 refine qj hb 13 (gQ7h l_) (fun s1 => sl 39 [(2, pt 0), (4, pt 1), (9, c1 (vL q7 l_)), (10, c1 (vi (l_.length : Int))), (11, c1 (vi s1.2.2.2.2.2))]) (fun s1 => [bx [vi s1.1, vi s1.2.1, vS s1.2.2.1, vL flV s1.2.2.2.1, vL flS s1.2.2.2.2.1], bx zV]) [2, 4, 9, 10, 11] [] 2 (s0 := (v_.kind, v_.num, v_.str, v_.items, v_.keys, 0)) ⟨(by kernel_rfl), (by kernel_rfl), trivial⟩ hq (fun s1 x1 hq hn1 he1 => ?_)
 refine ifE hb 5 [12] [] hq (fun hq _ => ?_) (fun hq _ => ?_)
 refine idxE hb q7 6 hq fun x2 hx2 hq => ?_
 refine q6 hb 9 hq (gQ92 hb he (Val.mk s1.1 s1.2.1 s1.2.2.1 s1.2.2.2.1 s1.2.2.2.2.1) x2.name) fun y3 hy3 hq => ?_
 refine ifE hb 11 [8, 21, 22, 23] [] hq (fun hq _ => ?_) (fun hq _ => ?_)
 refine ifE hb 4 [25, 26, 27] [] hq (fun hq _ => ?_) (fun hq _ => ?_)
 refine ifE hb 5 [30, 31] [] hq (fun hq _ => ?_) (fun hq _ => ?_)
 refine qe hb mixed 1 4 [] ?_
 refine q6 hb 3 hq (gQ9v hb he (⟨#[40, 115, 101, 110, 115, 105, 116, 105, 118, 101, 41]⟩ : ByteArray)) fun y7 hy7 hq => ?_
 refine q6 hb 1 hq (gQ9o hb he (Val.mk s1.1 s1.2.1 s1.2.2.1 s1.2.2.2.1 s1.2.2.2.2.1) x2.name y7) fun y8 hy8 hq => ?_
 exact q9 hb 7 [2, 4, 9, 10, 11] [] 2 (hn1 _ (injO hq)) ⟨(by kernel_rfl), (by kernel_rfl), trivial⟩
 exact q9 hb 7 [2, 4, 9, 10, 11] [] 2 (hn1 _ (injO hq)) ⟨(by kernel_rfl), (by kernel_rfl), trivial⟩
 exact q9 hb 12 [2, 4, 9, 10, 11] [] 2 (hn1 _ (injO hq)) ⟨(by kernel_rfl), (by kernel_rfl), trivial⟩
 exact q9 hb 16 [2, 4, 9, 10, 11] [] 2 (hn1 _ (injO hq)) ⟨(by kernel_rfl), (by kernel_rfl), trivial⟩
 exact retE hb 7 (he1 _ (injO hq))
noncomputable def gQ5z (x10 : Val) (s1iii : Int × List Val) : Option ((Int × List Val) ⊕ (List Val)) :=
 bif (decide (s1iii.1 < (x10.items.length : Int))) then (idx x10.items s1iii.1).bind fun x15 => (tQb6 x15).bind fun y16 => (app 80 s1iii.2 [y16]).bind fun l17 => some (.inl ((IntKind.i64.wrap (s1iii.1 + 1)), l17)) else bif (decide ((s1iii.2.length : Int) = 0)) then none else some (.inr (s1iii.2))
noncomputable def gQ5y  (x5 : NestedG) (x10 : Val) (y11 : List ByteArray) (s1 : Int × Int × ByteArray × List Val × List ByteArray × Int) : Option (List Val) :=
 bif (decide ((x10.items.length : Int) = 0)) then some ([]) else (mkc 80 (x10.items.length : Int)).bind fun u13 => qb (gQ5z x10) (0, [])
theorem gQ60 (hb : Base E E0 G) (he : ∀ w, E w → EnvV w)   (x5 : NestedG) (x10 : Val) (y11 : List ByteArray) (s1 : Int × Int × ByteArray × List Val × List ByteArray × Int) : ∀ r_ : List Val, gQ5y x5 x10 y11 s1 = some r_ →
 Ok E E0 Tryz.prog 138 [.cell (vL flV x10.items)] [none, none, bx zV, bx [vi s1.1, vi s1.2.1, vS s1.2.2.1, vL flV s1.2.2.2.1, vL flS s1.2.2.2.2.1], bx [vS x5.name, vi x5.min, vi x5.max, vL q7 x5.attrs, vB x5.replace], bx [vi s1.1, vi s1.2.1, vS s1.2.2.1, vL flV s1.2.2.2.1, vL flS s1.2.2.2.2.1], bx zV, bx [vi x10.kind, vi x10.num, vS x10.str, vL flV x10.items, vL flS y11], bx zV] (c1 (vO flV 9 r_)) [none, none, bx zV, bx [vi s1.1, vi s1.2.1, vS s1.2.2.1, vL flV s1.2.2.2.1, vL flS s1.2.2.2.2.1], bx [vS x5.name, vi x5.min, vi x5.max, vL q7 x5.attrs, vB x5.replace], bx [vi s1.1, vi s1.2.1, vS s1.2.2.1, vL flV s1.2.2.2.1, vL flS s1.2.2.2.2.1], bx zV, bx [vi x10.kind, vi x10.num, vS x10.str, vL flV x10.items, vL flS y11], bx zV, some (arO true flV.sz 0 (flV.f r_))] := by
 refine fnO2 hb Tryz.func138 rfl fun r_ hq => ?_
 refine ifE hb 11 [8] [] hq (fun hq _ => ?_) (fun hq _ => ?_)
 refine q4s hb 5 2 5 ?_
 exact q2s hb 0 [2] [] 10 (σ1 := fun r_ : List Val => [none, none, bx zV, bx [vi s1.1, vi s1.2.1, vS s1.2.2.1, vL flV s1.2.2.2.1, vL flS s1.2.2.2.2.1], bx [vS x5.name, vi x5.min, vi x5.max, vL q7 x5.attrs, vB x5.replace], bx [vi s1.1, vi s1.2.1, vS s1.2.2.1, vL flV s1.2.2.2.1, vL flS s1.2.2.2.2.1], bx zV, bx [vi x10.kind, vi x10.num, vS x10.str, vL flV x10.items, vL flS y11], bx zV, some (arO true flV.sz 0 (flV.f r_))]) (injO hq).symm ⟨rfl, rfl, (by kernel_rfl), (by kernel_rfl), (by kernel_rfl), (by kernel_rfl), (by kernel_rfl), (by kernel_rfl), (by kernel_rfl), (q8 _ _ _ _ _), trivial⟩
 refine mk0E flV hb 6 hq fun u13 hu13 hq => ?_
 refine qj hb 10 (gQ5z x10) (fun s1iii => sl 25 [(3, c1 (vO flV 9 s1iii.2)), (12, c1 (vL flV x10.items)), (13, c1 (vi (x10.items.length : Int))), (14, c1 (vi s1iii.1))]) (fun s1iii => [none, none, bx zV, bx [vi s1.1, vi s1.2.1, vS s1.2.2.1, vL flV s1.2.2.2.1, vL flS s1.2.2.2.2.1], bx [vS x5.name, vi x5.min, vi x5.max, vL q7 x5.attrs, vB x5.replace], bx [vi s1.1, vi s1.2.1, vS s1.2.2.1, vL flV s1.2.2.2.1, vL flS s1.2.2.2.2.1], bx zV, bx [vi x10.kind, vi x10.num, vS x10.str, vL flV x10.items, vL flS y11], bx zV, some (arO false flV.sz 0 (flV.f s1iii.2))]) [3, 12, 13, 14] [] 10 (s0 := (0, [])) ⟨rfl, rfl, (by kernel_rfl), (by kernel_rfl), (by kernel_rfl), (by kernel_rfl), (by kernel_rfl), (by kernel_rfl), (by kernel_rfl), (q8 _ _ _ _ _), trivial⟩ hq (fun s1iii x1 hq hn1 he1 => ?_)
 refine ifE hb 5 [15] [] hq (fun hq _ => ?_) (fun hq _ => ?_)
 refine idxE hb flV 6 hq fun x15 hx15 hq => ?_
 refine q6 hb 7 hq (tQb7 hb he x15) fun y16 hy16 hq => ?_
 refine qg flV hb 1 9 false 0 (flV.one y16) hq fun l17 hl17 hq => ?_
 exact q9 hb 7 [3, 12, 13, 14] [] 10 (hn1 _ (injO hq)) ⟨rfl, rfl, (by kernel_rfl), (by kernel_rfl), (by kernel_rfl), (by kernel_rfl), (by kernel_rfl), (by kernel_rfl), (by kernel_rfl), (q8 _ _ _ _ _), trivial⟩
 refine wkE hb flV 7 9 (fr := 0) (xs := s1iii.2) hq (fun hq => ?_)
 exact q2s hb 0 [2] [] 10 (σ1 := fun r_ : List Val => [none, none, bx zV, bx [vi s1.1, vi s1.2.1, vS s1.2.2.1, vL flV s1.2.2.2.1, vL flS s1.2.2.2.2.1], bx [vS x5.name, vi x5.min, vi x5.max, vL q7 x5.attrs, vB x5.replace], bx [vi s1.1, vi s1.2.1, vS s1.2.2.1, vL flV s1.2.2.2.1, vL flS s1.2.2.2.2.1], bx zV, bx [vi x10.kind, vi x10.num, vS x10.str, vL flV x10.items, vL flS y11], bx zV, some (arO true flV.sz 0 (flV.f r_))]) (he1 _ (injO hq)) ⟨rfl, rfl, (by kernel_rfl), (by kernel_rfl), (by kernel_rfl), (by kernel_rfl), (by kernel_rfl), (by kernel_rfl), (by kernel_rfl), (q8 _ _ _ _ _), trivial⟩
noncomputable def gQ5w  (x5 : NestedG) (x10 : Val) (s1 : Int × Int × ByteArray × List Val × List ByteArray × Int) : Option (Int × Int × ByteArray × List Val × List ByteArray) :=
 (clone 16 x10.keys).bind fun y11 => (gQ5y x5 x10 y11 s1).bind fun y18 => some (x10.kind, x10.num, x10.str, y18, y11)
theorem gQ5x (hb : Base E E0 G) (he : ∀ w, E w → EnvV w)   (x5 : NestedG) (x10 : Val) (s1 : Int × Int × ByteArray × List Val × List ByteArray × Int) : ∀ r_ : Int × Int × ByteArray × List Val × List ByteArray, gQ5w x5 x10 s1 = some r_ →
 Ok E E0 Tryz.prog 109 [.agg (aV x10)] [none, none, bx zV, bx [vi s1.1, vi s1.2.1, vS s1.2.2.1, vL flV s1.2.2.2.1, vL flS s1.2.2.2.2.1], bx [vS x5.name, vi x5.min, vi x5.max, vL q7 x5.attrs, vB x5.replace], bx [vi s1.1, vi s1.2.1, vS s1.2.2.1, vL flV s1.2.2.2.1, vL flS s1.2.2.2.2.1], bx zV] (.one (.agg [vi r_.1, vi r_.2.1, vS r_.2.2.1, vO flV 9 r_.2.2.2.1, vL flS r_.2.2.2.2])) [none, none, bx zV, bx [vi s1.1, vi s1.2.1, vS s1.2.2.1, vL flV s1.2.2.2.1, vL flS s1.2.2.2.2.1], bx [vS x5.name, vi x5.min, vi x5.max, vL q7 x5.attrs, vB x5.replace], bx [vi s1.1, vi s1.2.1, vS s1.2.2.1, vL flV s1.2.2.2.1, vL flS s1.2.2.2.2.1], bx zV, none, bx [vi r_.1, vi r_.2.1, vS r_.2.2.1, vO flV 9 r_.2.2.2.1, vL flS r_.2.2.2.2], some (arO true flV.sz 0 (flV.f r_.2.2.2.1))] := by
 refine fnO2 hb Tryz.func109 rfl fun r_ hq => ?_
 refine q6 hb 9 hq (q6x hb he x10.keys) fun y11 hy11 hq => ?_
 refine q45 hb 7 hq (gQ60 hb he x5 x10 y11 s1) fun y18 hy18 hq => ?_
 exact q2s hb 8 [2] [7] 10 (σ1 := fun r_ : Int × Int × ByteArray × List Val × List ByteArray => [none, none, bx zV, bx [vi s1.1, vi s1.2.1, vS s1.2.2.1, vL flV s1.2.2.2.1, vL flS s1.2.2.2.2.1], bx [vS x5.name, vi x5.min, vi x5.max, vL q7 x5.attrs, vB x5.replace], bx [vi s1.1, vi s1.2.1, vS s1.2.2.1, vL flV s1.2.2.2.1, vL flS s1.2.2.2.2.1], bx zV, none, bx [vi r_.1, vi r_.2.1, vS r_.2.2.1, vO flV 9 r_.2.2.2.1, vL flS r_.2.2.2.2], some (arO true flV.sz 0 (flV.f r_.2.2.2.1))]) (injO hq).symm ⟨rfl, rfl, (by kernel_rfl), (by kernel_rfl), (by kernel_rfl), (by kernel_rfl), (by kernel_rfl), rfl, (by kernel_rfl), (q8 _ _ _ _ _), trivial⟩
noncomputable def gQ5u  (x5 : NestedG) (s1 : Int × Int × ByteArray × List Val × List ByteArray × Int) : Option (Int × Int × ByteArray × List Val × List ByteArray × Bool) :=
 (gQ7x s1.2.2.2.2.1 x5.name).bind fun y6 => bif (!decide (s1.1 = 5)) then some (0, 0, eS, [], [], false) else bif (!y6.2) then some (0, 0, eS, [], [], false) else bif (decide (y6.1 ≥ (s1.2.2.2.1.length : Int))) then some (0, 0, eS, [], [], false) else (idx s1.2.2.2.1 y6.1).bind fun x10 => (gQ5w x5 x10 s1).bind fun y19 => some (y19.1, y19.2.1, y19.2.2.1, y19.2.2.2.1, y19.2.2.2.2, true)
theorem gQ5v (hb : Base E E0 G) (he : ∀ w, E w → EnvV w)   (x5 : NestedG) (s1 : Int × Int × ByteArray × List Val × List ByteArray × Int) : ∀ r_ : Int × Int × ByteArray × List Val × List ByteArray × Bool, gQ5u x5 s1 = some r_ →
 Ok E E0 Tryz.prog 91 [.agg [vi s1.1, vi s1.2.1, vS s1.2.2.1, vL flV s1.2.2.2.1, vL flS s1.2.2.2.2.1], .cell (vS x5.name)] [none, none, bx zV, bx [vi s1.1, vi s1.2.1, vS s1.2.2.1, vL flV s1.2.2.2.1, vL flS s1.2.2.2.2.1], bx [vS x5.name, vi x5.min, vi x5.max, vL q7 x5.attrs, vB x5.replace]] (.tup [.agg [vi r_.1, vi r_.2.1, vS r_.2.2.1, vO flV 9 r_.2.2.2.1, vL flS r_.2.2.2.2.1], .cell (vB r_.2.2.2.2.2)]) [none, none, bx zV, bx [vi s1.1, vi s1.2.1, vS s1.2.2.1, vL flV s1.2.2.2.1, vL flS s1.2.2.2.2.1], bx [vS x5.name, vi x5.min, vi x5.max, vL q7 x5.attrs, vB x5.replace], none, bx [vi r_.1, vi r_.2.1, vS r_.2.2.1, vO flV 9 r_.2.2.2.1, vL flS r_.2.2.2.2.1], none, none, some (arO true flV.sz 0 (flV.f r_.2.2.2.1))] := by
 refine fnO2 hb Tryz.func91 rfl fun r_ hq => ?_
 refine q6 hb 11 hq (gQ7z hb he s1.2.2.2.2.1 x5.name) fun y6 hy6 hq => ?_
 refine ifE hb 13 [17, 18] [] hq (fun hq _ => ?_) (fun hq _ => ?_)
 refine padE hb 18 ?_
 refine padE hb 0 ?_
 refine q17 hb 0 6 3 5 (cs := zV) (by kernel_rfl) ?_
 refine qn hb 0 6 4 (cs := [vi 0, vi 0, vS eS, vO flV 9 [], vN]) (c := vN) (q86 flS) (by kernel_rfl) ?_
 exact q2s hb 0 [4, 5] [5] 10 (σ1 := fun r_ : Int × Int × ByteArray × List Val × List ByteArray × Bool => [none, none, bx zV, bx [vi s1.1, vi s1.2.1, vS s1.2.2.1, vL flV s1.2.2.2.1, vL flS s1.2.2.2.2.1], bx [vS x5.name, vi x5.min, vi x5.max, vL q7 x5.attrs, vB x5.replace], none, bx [vi r_.1, vi r_.2.1, vS r_.2.2.1, vO flV 9 r_.2.2.2.1, vL flS r_.2.2.2.2.1], none, none, some (arO true flV.sz 0 (flV.f r_.2.2.2.1))]) (injO hq).symm ⟨rfl, rfl, (by kernel_rfl), (by kernel_rfl), (by kernel_rfl), rfl, (by kernel_rfl), rfl, rfl, (q8 _ _ _ _ _), trivial⟩
 refine ifE hb 4 [20, 21, 22] [] hq (fun hq _ => ?_) (fun hq _ => ?_)
 refine padE hb 14 ?_
 refine padE hb 0 ?_
 refine q17 hb 0 6 3 5 (cs := zV) (by kernel_rfl) ?_
 refine qn hb 0 6 4 (cs := [vi 0, vi 0, vS eS, vO flV 9 [], vN]) (c := vN) (q86 flS) (by kernel_rfl) ?_
 exact q2s hb 0 [4, 5] [5] 10 (σ1 := fun r_ : Int × Int × ByteArray × List Val × List ByteArray × Bool => [none, none, bx zV, bx [vi s1.1, vi s1.2.1, vS s1.2.2.1, vL flV s1.2.2.2.1, vL flS s1.2.2.2.2.1], bx [vS x5.name, vi x5.min, vi x5.max, vL q7 x5.attrs, vB x5.replace], none, bx [vi r_.1, vi r_.2.1, vS r_.2.2.1, vO flV 9 r_.2.2.2.1, vL flS r_.2.2.2.2.1], none, none, some (arO true flV.sz 0 (flV.f r_.2.2.2.1))]) (injO hq).symm ⟨rfl, rfl, (by kernel_rfl), (by kernel_rfl), (by kernel_rfl), rfl, (by kernel_rfl), rfl, rfl, (q8 _ _ _ _ _), trivial⟩
 refine ifE hb 7 [27, 28] [] hq (fun hq _ => ?_) (fun hq _ => ?_)
 refine padE hb 7 ?_
 refine padE hb 0 ?_
 refine q17 hb 0 6 3 5 (cs := zV) (by kernel_rfl) ?_
 refine qn hb 0 6 4 (cs := [vi 0, vi 0, vS eS, vO flV 9 [], vN]) (c := vN) (q86 flS) (by kernel_rfl) ?_
 exact q2s hb 0 [4, 5] [5] 10 (σ1 := fun r_ : Int × Int × ByteArray × List Val × List ByteArray × Bool => [none, none, bx zV, bx [vi s1.1, vi s1.2.1, vS s1.2.2.1, vL flV s1.2.2.2.1, vL flS s1.2.2.2.2.1], bx [vS x5.name, vi x5.min, vi x5.max, vL q7 x5.attrs, vB x5.replace], none, bx [vi r_.1, vi r_.2.1, vS r_.2.2.1, vO flV 9 r_.2.2.2.1, vL flS r_.2.2.2.2.1], none, none, some (arO true flV.sz 0 (flV.f r_.2.2.2.1))]) (injO hq).symm ⟨rfl, rfl, (by kernel_rfl), (by kernel_rfl), (by kernel_rfl), rfl, (by kernel_rfl), rfl, rfl, (q8 _ _ _ _ _), trivial⟩
 refine idxE hb flV 7 hq fun x10 hx10 hq => ?_
 refine q45 hb 1 hq (gQ5x hb he x5 x10 s1) fun y19 hy19 hq => ?_
 exact q2s hb 3 [4, 5] [5, 8] 10 (σ1 := fun r_ : Int × Int × ByteArray × List Val × List ByteArray × Bool => [none, none, bx zV, bx [vi s1.1, vi s1.2.1, vS s1.2.2.1, vL flV s1.2.2.2.1, vL flS s1.2.2.2.2.1], bx [vS x5.name, vi x5.min, vi x5.max, vL q7 x5.attrs, vB x5.replace], none, bx [vi r_.1, vi r_.2.1, vS r_.2.2.1, vO flV 9 r_.2.2.2.1, vL flS r_.2.2.2.2.1], none, none, some (arO true flV.sz 0 (flV.f r_.2.2.2.1))]) (injO hq).symm ⟨rfl, rfl, (by kernel_rfl), (by kernel_rfl), (by kernel_rfl), rfl, (by kernel_rfl), rfl, rfl, (q8 _ _ _ _ _), trivial⟩
noncomputable def gQ5t (x5 : NestedG) (s1 : Int × Int × ByteArray × List Val × List ByteArray × Int) (y20 : Int × Int × ByteArray × List Val × List ByteArray × Bool) (s2 : Int × List Val) : Option ((Int × List Val) ⊕ ((Int × Int × ByteArray × List Val × List ByteArray × Int) ⊕ (Val))) :=
 bif (decide (s2.1 < (y20.2.2.2.1.length : Int))) then (idx s2.2 s2.1).bind fun x24 => bif (decide (x24.kind = 5)) then (gQ7g x24 x5.attrs).bind fun y26 => (idx s2.2 s2.1).bind fun x27 => some (.inl ((IntKind.i64.wrap (s2.1 + 1)), (upd s2.2 s2.1 y26))) else some (.inl ((IntKind.i64.wrap (s2.1 + 1)), s2.2)) else (gQ9i (Val.mk s1.1 s1.2.1 s1.2.2.1 s1.2.2.2.1 s1.2.2.2.2.1) x5.name (Val.mk y20.1 y20.2.1 y20.2.2.1 s2.2 y20.2.2.2.2.1)).bind fun y28 => some (.inr (.inl (y28.kind, y28.num, y28.str, y28.items, y28.keys, (IntKind.i64.wrap (s1.2.2.2.2.2 + 1)))))
noncomputable def gQ5s (s_ : SchemaG) (s1 : Int × Int × ByteArray × List Val × List ByteArray × Int) : Option ((Int × Int × ByteArray × List Val × List ByteArray × Int) ⊕ (Val)) :=
 bif (decide (s1.2.2.2.2.2 < (s_.nested.length : Int))) then (idx s_.nested s1.2.2.2.2.2).bind fun x5 => (gQ5u x5 s1).bind fun y20 => bif (!y20.2.2.2.2.2) then some (.inl (s1.1, s1.2.1, s1.2.2.1, s1.2.2.2.1, s1.2.2.2.2.1, (IntKind.i64.wrap (s1.2.2.2.2.2 + 1)))) else bif (!decide (y20.1 = 4)) then some (.inl (s1.1, s1.2.1, s1.2.2.1, s1.2.2.2.1, s1.2.2.2.2.1, (IntKind.i64.wrap (s1.2.2.2.2.2 + 1)))) else qb (gQ5t x5 s1 y20) (0, y20.2.2.2.1) else some (.inr (Val.mk s1.1 s1.2.1 s1.2.2.1 s1.2.2.2.1 s1.2.2.2.2.1))
noncomputable def gQ5r  (s_ : SchemaG) (v_ : Val) : Option (Val) :=
 (cpy v_).bind fun y1 => bif (!decide (v_.kind = 5)) then some (y1) else (gQ7g y1 s_.attrs).bind fun y3 => qb (gQ5s s_) (y3.kind, y3.num, y3.str, y3.items, y3.keys, 0)
theorem gQ61 (hb : Base E E0 G) (he : ∀ w, E w → EnvV w)   (s_ : SchemaG) (v_ : Val) : ∀ r_ : Val, gQ5r s_ v_ = some r_ →
 Pure E E0 Tryz.prog 42 [.agg [vL q7 s_.attrs, vL qd s_.nested], .agg (aV v_)] (.one (.agg (aV r_))) := by
 refine fnE hb Tryz.func42 rfl fun r_ hq => ?_
 refine q6 hb 9 hq (qob hb he v_) fun y1 hy1 hq => ?_
 refine ifE hb 10 [16] [] hq (fun hq _ => ?_) (fun hq _ => ?_)
 exact retE hb 6 (injO hq).symm
 refine q6 hb 7 hq (gQ7i hb he y1 s_.attrs) fun y3 hy3 hq => ?_
 refine qj hb 11 (gQ5s s_) (fun s1 => sl 70 [(4, pt 2), (5, pt 3), (23, c1 (vL qd s_.nested)), (24, c1 (vi (s_.nested.length : Int))), (25, c1 (vi s1.2.2.2.2.2))]) (fun s1 => [none, none, bx zV, bx [vi s1.1, vi s1.2.1, vS s1.2.2.1, vL flV s1.2.2.2.1, vL flS s1.2.2.2.2.1]]) [4, 5, 23, 24, 25] [0, 1] 4 (s0 := (y3.kind, y3.num, y3.str, y3.items, y3.keys, 0)) ⟨rfl, rfl, (by kernel_rfl), (by kernel_rfl), trivial⟩ hq (fun s1 x1 hq hn1 he1 => ?_)
 refine ifE hb 5 [26] [] hq (fun hq _ => ?_) (fun hq _ => ?_)
 refine idxE hb qd 6 hq fun x5 hx5 hq => ?_
 refine q45 hb 9 hq (gQ5v hb he x5 s1) fun y20 hy20 hq => ?_
 refine ifE hb 13 [37, 38] [] hq (fun hq _ => ?_) (fun hq _ => ?_)
 exact q9 hb 11 [4, 5, 23, 24, 25] [] 4 (hn1 _ (injO hq)) ⟨rfl, rfl, (by kernel_rfl), (by kernel_rfl), trivial⟩
 refine ifE hb 5 [41, 42] [] hq (fun hq _ => ?_) (fun hq _ => ?_)
 exact q9 hb 6 [4, 5, 23, 24, 25] [] 4 (hn1 _ (injO hq)) ⟨rfl, rfl, (by kernel_rfl), (by kernel_rfl), trivial⟩
 refine q5z flV hb 7 9 true 0 y20.2.2.2.1 ?_
 refine cpE hb 3 [4, 5, 7, 8, 23, 24, 25, 44, 45, 46] (s' := ⟨none, [pk Tryz.f42 512826], [(2, [pk Tryz.f42 128207]), (1, [pk Tryz.f42 4007, pk Tryz.f42 250]), (0, [pk Tryz.f42 63])], sl 70 [(4, pt 2), (5, pt 3), (7, pt 4), (8, pt 10), (23, c1 (vL qd s_.nested)), (24, c1 (vi (s_.nested.length : Int))), (25, c1 (vi s1.2.2.2.2.2)), (44, c1 (vO flV 9 y20.2.2.2.1)), (45, c1 (vi (y20.2.2.2.1.length : Int))), (46, c1 (vi 0))], [none, none, bx zV, bx [vi s1.1, vi s1.2.1, vS s1.2.2.1, vL flV s1.2.2.2.1, vL flS s1.2.2.2.2.1], bx [vS x5.name, vi x5.min, vi x5.max, vL q7 x5.attrs, vB x5.replace], none, bx [vi y20.1, vi y20.2.1, vS y20.2.2.1, vO flV 9 y20.2.2.2.1, vL flS y20.2.2.2.2.1], none, none, some (arO true flV.sz 0 (flV.f y20.2.2.2.1)), bx [vi y20.1, vi y20.2.1, vS y20.2.2.1, vO flV 9 y20.2.2.2.1, vL flS y20.2.2.2.2.1]]⟩) ?_
 refine qj hb 0 (gQ5t x5 s1 y20) (fun s2 => sl 70 [(4, pt 2), (5, pt 3), (7, pt 4), (8, pt 10), (23, c1 (vL qd s_.nested)), (24, c1 (vi (s_.nested.length : Int))), (25, c1 (vi s1.2.2.2.2.2)), (44, c1 (vO flV 9 s2.2)), (45, c1 (vi (y20.2.2.2.1.length : Int))), (46, c1 (vi s2.1))]) (fun s2 => [none, none, bx zV, bx [vi s1.1, vi s1.2.1, vS s1.2.2.1, vL flV s1.2.2.2.1, vL flS s1.2.2.2.2.1], bx [vS x5.name, vi x5.min, vi x5.max, vL q7 x5.attrs, vB x5.replace], none, none, none, none, some (arO true flV.sz 0 (flV.f s2.2)), bx [vi y20.1, vi y20.2.1, vS y20.2.2.1, vO flV 9 s2.2, vL flS y20.2.2.2.2.1]]) [4, 5, 7, 8, 23, 24, 25, 44, 45, 46] [6] 11 (s0 := (0, y20.2.2.2.1)) ⟨rfl, rfl, (by kernel_rfl), (by kernel_rfl), (by kernel_rfl), rfl, rfl, rfl, rfl, (q8 _ _ _ _ _), (by kernel_rfl), trivial⟩ hq (fun s2 x2 hq hn2 he2 => ?_)
 refine ifE hb 5 [47] [] hq (fun hq _ => ?_) (fun hq _ => ?_)
 refine q46 flV hb 7 9 true 0 hq fun x24 hx24 hq => ?_
 refine qjm flV hb 0 9 true 0 hx24 ?_
 refine ifE hb 10 [53] [] hq (fun hq _ => ?_) (fun hq _ => ?_)
 refine qe hb mixed 1 7 [] ?_
 refine q6 hb 6 hq (gQ7i hb he x24 x5.attrs) fun y26 hy26 hq => ?_
 refine q46 flV hb 1 9 true 0 hq fun x27 hx27 hq => ?_
 refine qfk flV hb 0 9 true hx27 y26 ?_
 refine q54 hb 2 44 (c := vO flV 9 s2.2) (q55 (q5j flV (q4c s2.2 s2.1 y26))) ?_
 refine qn hb 0 10 3 (cs := [vi y20.1, vi y20.2.1, vS y20.2.2.1, vO flV 9 s2.2, vL flS y20.2.2.2.2.1]) (c := vO flV 9 s2.2) (q55 (q5j flV (q4c s2.2 s2.1 y26))) (by kernel_rfl) ?_
 exact q9 hb 4 [4, 5, 7, 8, 23, 24, 25, 44, 45, 46] [] 11 (hn2 _ (injO hq)) ⟨rfl, rfl, (by kernel_rfl), (by kernel_rfl), (by kernel_rfl), rfl, rfl, rfl, rfl, (q8 _ _ _ _ _), (by kernel_rfl), trivial⟩
 exact q9 hb 7 [4, 5, 7, 8, 23, 24, 25, 44, 45, 46] [] 11 (hn2 _ (injO hq)) ⟨rfl, rfl, (by kernel_rfl), (by kernel_rfl), (by kernel_rfl), rfl, rfl, rfl, rfl, (q8 _ _ _ _ _), (by kernel_rfl), trivial⟩
 refine qq hb 2 9 true (sz := flV.sz) (fr := 0) (cs := flV.f s2.2) (by kernel_rfl) (Nat.zero_le _) ?_
 refine qn hb 0 10 3 (cs := [vi y20.1, vi y20.2.1, vS y20.2.2.1, vO flV 9 s2.2, vL flS y20.2.2.2.2.1]) (c := vO flV 9 s2.2) (qr flV (nb := true) (id := 9) (xs := s2.2) (by kernel_rfl)) (by kernel_rfl) ?_
 refine q6 hb 5 hq (gQ9o hb he (Val.mk s1.1 s1.2.1 s1.2.2.1 s1.2.2.2.1 s1.2.2.2.2.1) x5.name (Val.mk y20.1 y20.2.1 y20.2.2.1 s2.2 y20.2.2.2.2.1)) fun y28 hy28 hq => ?_
 exact q9 hb 7 [4, 5, 23, 24, 25] [] 4 (hn1 _ ((he2 _ (injO hq)).symm)) ⟨rfl, rfl, (by kernel_rfl), (by kernel_rfl), trivial⟩
 exact retE hb 7 (he1 _ (injO hq))
noncomputable def gQ4t (l_ : List AttrG) (v_ : Val) (s1 : Int × List Val) : Option ((Int × List Val) ⊕ (Val)) :=
 bif (decide (s1.1 < (v_.items.length : Int))) then (idx v_.items s1.1).bind fun x3 => (idx v_.keys s1.1).bind fun x4 => (gQ3i l_ x4).bind fun y5 => bif y5.2 then bif y5.1.sensitive then bif (!decide (x3.kind = 0)) then (app 80 s1.2 [(Val.mk 3 0 (⟨#[40, 115, 101, 110, 115, 105, 116, 105, 118, 101, 41]⟩ : ByteArray) [] [])]).bind fun l9 => some (.inl ((IntKind.i64.wrap (s1.1 + 1)), l9)) else (app 80 s1.2 [x3]).bind fun l10 => some (.inl ((IntKind.i64.wrap (s1.1 + 1)), l10)) else (app 80 s1.2 [x3]).bind fun l11 => some (.inl ((IntKind.i64.wrap (s1.1 + 1)), l11)) else (app 80 s1.2 [x3]).bind fun l12 => some (.inl ((IntKind.i64.wrap (s1.1 + 1)), l12)) else some (.inr (Val.mk 5 0 eS s1.2 v_.keys))
noncomputable def gQ4s  (l_ : List AttrG) (v_ : Val) : Option (Val) :=
 bif (!decide (v_.kind = 5)) then some (v_) else qb (gQ4t l_ v_) (0, [])
theorem gQ4u (hb : Base E E0 G) (he : ∀ w, E w → EnvV w)   (l_ : List AttrG) (v_ : Val) : ∀ r_ : Val, gQ4s l_ v_ = some r_ →
 Pure E E0 Tryz.prog 93 [.cell (vL q7 l_), .agg (aV v_)] (.one (.agg (aV r_))) := by
 refine fnE hb Tryz.func93 rfl fun r_ hq => ?_
 refine ifE hb 12 [12] [] hq (fun hq _ => ?_) (fun hq _ => ?_)
 exact retE hb 6 (injO hq).symm
 refine q17 hb 16 2 3 5 (cs := [vi 5, vi 0, vS eS, vN, vL flS v_.keys]) (by kernel_rfl) ?_
 refine qj hb 0 (gQ4t l_ v_) (fun s1 => sl 57 [(0, c1 (vL q7 l_)), (3, pt 0), (4, pt 1), (5, pt 2), (6, c1 (vi s1.1))]) (fun s1 => [bx (aV v_), bx zV, bx [vi 5, vi 0, vS eS, vO flV 3 s1.2, vL flS v_.keys], some (arO true flV.sz 0 (flV.f s1.2))]) [0, 3, 4, 5, 6] [] 4 (s0 := (0, [])) ⟨(by kernel_rfl), (by kernel_rfl), (by kernel_rfl), (q8 _ _ _ _ _), trivial⟩ hq (fun s1 x1 hq hn1 he1 => ?_)
 refine ifE hb 9 [21] [] hq (fun hq _ => ?_) (fun hq _ => ?_)
 refine idxE hb flV 9 hq fun x3 hx3 hq => ?_
 refine idxE hb flS 10 hq fun x4 hx4 hq => ?_
 refine q6 hb 1 hq (gQ3k hb he l_ x4) fun y5 hy5 hq => ?_
 refine ifE hb 12 [9, 38, 39, 40] [] hq (fun hq _ => ?_) (fun hq _ => ?_)
 refine ifE hb 4 [42, 43, 44] [] hq (fun hq _ => ?_) (fun hq _ => ?_)
 refine ifE hb 5 [47, 48] [] hq (fun hq _ => ?_) (fun hq _ => ?_)
 refine qg flV hb 10 3 true 0 (flV.one (Val.mk 3 0 (⟨#[40, 115, 101, 110, 115, 105, 116, 105, 118, 101, 41]⟩ : ByteArray) [] [])) hq fun l9 hl9 hq => ?_
 exact q9 hb 9 [0, 3, 4, 5, 6] [] 4 (hn1 _ (injO hq)) ⟨(by kernel_rfl), (by kernel_rfl), (by kernel_rfl), (q8 _ _ _ _ _), trivial⟩
 refine qg flV hb 7 3 true 0 (flV.one x3) hq fun l10 hl10 hq => ?_
 exact q9 hb 9 [0, 3, 4, 5, 6] [] 4 (hn1 _ (injO hq)) ⟨(by kernel_rfl), (by kernel_rfl), (by kernel_rfl), (q8 _ _ _ _ _), trivial⟩
 refine qg flV hb 12 3 true 0 (flV.one x3) hq fun l11 hl11 hq => ?_
 exact q9 hb 9 [0, 3, 4, 5, 6] [] 4 (hn1 _ (injO hq)) ⟨(by kernel_rfl), (by kernel_rfl), (by kernel_rfl), (q8 _ _ _ _ _), trivial⟩
 refine qg flV hb 16 3 true 0 (flV.one x3) hq fun l12 hl12 hq => ?_
 exact q9 hb 9 [0, 3, 4, 5, 6] [] 4 (hn1 _ (injO hq)) ⟨(by kernel_rfl), (by kernel_rfl), (by kernel_rfl), (q8 _ _ _ _ _), trivial⟩
 refine qq hb 7 3 true (sz := flV.sz) (fr := 0) (cs := flV.f s1.2) (by kernel_rfl) (Nat.zero_le _) ?_
 refine qn hb 0 1 3 (cs := [vi 5, vi 0, vS eS, vO flV 3 s1.2, vL flS v_.keys]) (c := vO flV 3 s1.2) (qr flV (nb := true) (id := 3) (xs := s1.2) (by kernel_rfl)) (by kernel_rfl) ?_
 exact retE hb 0 (he1 _ (injO hq))
noncomputable def gQ3y (x4 : Val) (y6 : NestedG × Bool) (s1 : Int × List Val) (s2 : Int × List Val) : Option ((Int × List Val) ⊕ ((Int × List Val) ⊕ (Val))) :=
 bif (decide (s2.1 < (x4.items.length : Int))) then (idx x4.items s2.1).bind fun x10 => (gQ4s y6.1.attrs x10).bind fun y11 => (app 80 s2.2 [y11]).bind fun l12 => some (.inl ((IntKind.i64.wrap (s2.1 + 1)), l12)) else (app 80 s1.2 [(Val.mk 4 0 eS s2.2 [])]).bind fun l13 => some (.inr (.inl ((IntKind.i64.wrap (s1.1 + 1)), l13)))
noncomputable def gQ3x (s_ : SchemaG) (y2 : Val) (s1 : Int × List Val) : Option ((Int × List Val) ⊕ (Val)) :=
 bif (decide (s1.1 < (y2.items.length : Int))) then (idx y2.items s1.1).bind fun x4 => (idx y2.keys s1.1).bind fun x5 => (gQ42 s_ x5).bind fun y6 => bif y6.2 then bif (decide (x4.kind = 4)) then qb (gQ3y x4 y6 s1) (0, []) else (app 80 s1.2 [x4]).bind fun l14 => some (.inl ((IntKind.i64.wrap (s1.1 + 1)), l14)) else (app 80 s1.2 [x4]).bind fun l15 => some (.inl ((IntKind.i64.wrap (s1.1 + 1)), l15)) else some (.inr (Val.mk 5 0 eS s1.2 y2.keys))
noncomputable def gQ3w  (s_ : SchemaG) (v_ : Val) : Option (Val) :=
 bif (!decide (v_.kind = 5)) then some (v_) else (gQ4s s_.attrs v_).bind fun y2 => qb (gQ3x s_ y2) (0, [])
theorem gQ3z (hb : Base E E0 G) (he : ∀ w, E w → EnvV w)   (s_ : SchemaG) (v_ : Val) : ∀ r_ : Val, gQ3w s_ v_ = some r_ →
 Pure E E0 Tryz.prog 43 [.agg [vL q7 s_.attrs, vL qd s_.nested], .agg (aV v_)] (.one (.agg (aV r_))) := by
 refine fnE hb Tryz.func43 rfl fun r_ hq => ?_
 refine ifE hb 13 [15] [] hq (fun hq _ => ?_) (fun hq _ => ?_)
 exact retE hb 6 (injO hq).symm
 refine q6 hb 7 hq (gQ4u hb he s_.attrs v_) fun y2 hy2 hq => ?_
 refine q17 hb 17 4 3 5 (cs := [vi 5, vi 0, vS eS, vN, vL flS y2.keys]) (by kernel_rfl) ?_
 refine qj hb 0 (gQ3x s_ y2) (fun s1 => sl 81 [(2, pt 0), (4, pt 2), (5, pt 3), (6, pt 4), (7, c1 (vi s1.1))]) (fun s1 => [bx [vL q7 s_.attrs, vL qd s_.nested], none, bx zV, bx (aV y2), bx [vi 5, vi 0, vS eS, vO flV 5 s1.2, vL flS y2.keys], some (arO true flV.sz 0 (flV.f s1.2))]) [2, 4, 5, 6, 7] [1] 6 (s0 := (0, [])) ⟨(by kernel_rfl), rfl, (by kernel_rfl), (by kernel_rfl), (by kernel_rfl), (q8 _ _ _ _ _), trivial⟩ hq (fun s1 x1 hq hn1 he1 => ?_)
 refine ifE hb 9 [28] [] hq (fun hq _ => ?_) (fun hq _ => ?_)
 refine idxE hb flV 9 hq fun x4 hx4 hq => ?_
 refine qe hb mixed 5 11 [9] ?_
 refine idxE hb flS 4 hq fun x5 hx5 hq => ?_
 refine q6 hb 1 hq (gQ44 hb he s_ x5) fun y6 hy6 hq => ?_
 refine ifE hb 13 [10, 45, 46, 47] [] hq (fun hq _ => ?_) (fun hq _ => ?_)
 refine ifE hb 5 [50, 51] [] hq (fun hq _ => ?_) (fun hq _ => ?_)
 refine cpE hb 13 [2, 4, 5, 6, 7, 8, 9, 11, 12] (s' := ⟨none, [pk Tryz.f43 2050474], [(2, [pk Tryz.f43 512619, pk Tryz.f43 32039]), (1, [pk Tryz.f43 2003, pk Tryz.f43 250]), (0, [pk Tryz.f43 63])], sl 81 [(2, pt 0), (4, pt 2), (5, pt 3), (6, pt 4), (7, c1 (vi s1.1)), (8, pt 6), (9, pt 7), (11, pt 8), (12, c1 (vi 0))], [bx [vL q7 s_.attrs, vL qd s_.nested], none, bx zV, bx (aV y2), bx [vi 5, vi 0, vS eS, vO flV 5 s1.2, vL flS y2.keys], some (arO true flV.sz 0 (flV.f s1.2)), bx (aV x4), bx [vS y6.1.name, vi y6.1.min, vi y6.1.max, vL q7 y6.1.attrs, vB y6.1.replace], bx [vi 4, vi 0, vS eS, vN, vN]]⟩) ?_
 refine q17 hb 0 8 3 5 (cs := [vi 4, vi 0, vS eS, vN, vN]) (by kernel_rfl) ?_
 refine qj hb 0 (gQ3y x4 y6 s1) (fun s2 => sl 81 [(2, pt 0), (4, pt 2), (5, pt 3), (6, pt 4), (7, c1 (vi s1.1)), (8, pt 6), (9, pt 7), (11, pt 8), (12, c1 (vi s2.1))]) (fun s2 => [bx [vL q7 s_.attrs, vL qd s_.nested], none, bx zV, bx (aV y2), bx [vi 5, vi 0, vS eS, vO flV 5 s1.2, vL flS y2.keys], some (arO true flV.sz 0 (flV.f s1.2)), bx (aV x4), bx [vS y6.1.name, vi y6.1.min, vi y6.1.max, vL q7 y6.1.attrs, vB y6.1.replace], bx [vi 4, vi 0, vS eS, vO flV 9 s2.2, vN], some (arO true flV.sz 0 (flV.f s2.2))]) [2, 4, 5, 6, 7, 8, 9, 11, 12] [] 10 (s0 := (0, [])) ⟨(by kernel_rfl), rfl, (by kernel_rfl), (by kernel_rfl), (by kernel_rfl), (q8 _ _ _ _ _), (by kernel_rfl), (by kernel_rfl), (by kernel_rfl), (q8 _ _ _ _ _), trivial⟩ hq (fun s2 x2 hq hn2 he2 => ?_)
 refine ifE hb 9 [57] [] hq (fun hq _ => ?_) (fun hq _ => ?_)
 refine qe hb mixed 4 11 [] ?_
 refine idxE hb flV 7 hq fun x10 hx10 hq => ?_
 refine q6 hb 1 hq (gQ4u hb he y6.1.attrs x10) fun y11 hy11 hq => ?_
 refine qg flV hb 2 9 true 0 (flV.one y11) hq fun l12 hl12 hq => ?_
 exact q9 hb 9 [2, 4, 5, 6, 7, 8, 9, 11, 12] [] 10 (hn2 _ (injO hq)) ⟨(by kernel_rfl), rfl, (by kernel_rfl), (by kernel_rfl), (by kernel_rfl), (q8 _ _ _ _ _), (by kernel_rfl), (by kernel_rfl), (by kernel_rfl), (q8 _ _ _ _ _), trivial⟩
 refine qq hb 6 9 true (sz := flV.sz) (fr := 0) (cs := flV.f s2.2) (by kernel_rfl) (Nat.zero_le _) ?_
 refine qn hb 0 6 3 (cs := [vi 4, vi 0, vS eS, vO flV 9 s2.2, vN]) (c := vO flV 9 s2.2) (qr flV (nb := true) (id := 9) (xs := s2.2) (by kernel_rfl)) (by kernel_rfl) ?_
 refine qg flV hb 5 5 true 0 (flV.one (Val.mk 4 0 eS s2.2 [])) hq fun l13 hl13 hq => ?_
 exact q9 hb 9 [2, 4, 5, 6, 7] [] 6 (hn1 _ ((he2 _ (injO hq)).symm)) ⟨(by kernel_rfl), rfl, (by kernel_rfl), (by kernel_rfl), (by kernel_rfl), (q8 _ _ _ _ _), trivial⟩
 refine qg flV hb 7 5 true 0 (flV.one x4) hq fun l14 hl14 hq => ?_
 exact q9 hb 9 [2, 4, 5, 6, 7] [] 6 (hn1 _ (injO hq)) ⟨(by kernel_rfl), rfl, (by kernel_rfl), (by kernel_rfl), (by kernel_rfl), (q8 _ _ _ _ _), trivial⟩
 refine qg flV hb 12 5 true 0 (flV.one x4) hq fun l15 hl15 hq => ?_
 exact q9 hb 9 [2, 4, 5, 6, 7] [] 6 (hn1 _ (injO hq)) ⟨(by kernel_rfl), rfl, (by kernel_rfl), (by kernel_rfl), (by kernel_rfl), (q8 _ _ _ _ _), trivial⟩
 refine qq hb 7 5 true (sz := flV.sz) (fr := 0) (cs := flV.f s1.2) (by kernel_rfl) (Nat.zero_le _) ?_
 refine qn hb 0 2 3 (cs := [vi 5, vi 0, vS eS, vO flV 5 s1.2, vL flS y2.keys]) (c := vO flV 5 s1.2) (qr flV (nb := true) (id := 5) (xs := s1.2) (by kernel_rfl)) (by kernel_rfl) ?_
 exact retE hb 0 (he1 _ (injO hq))
noncomputable def gQ0u  (s_ : SchemaG) (v_ : Val) : Option (Bool) :=
 (gQ1y s_).bind fun y1 => bif (!y1) then (gQ1e).bind fun y3 => some (y3) else (gQ1p v_).bind fun y4 => bif (!y4) then (gQ1e).bind fun y6 => some (y6) else (gQ5r s_ v_).bind fun y7 => (gQ3w s_ v_).bind fun y8 => (tQa6 y7 y8).bind fun y9 => bif y9 then (gQ1e).bind fun y11 => some (y11) else some (false)
theorem gQ0v (hb : Base E E0 G) (he : ∀ w, E w → EnvV w)   (s_ : SchemaG) (v_ : Val) : ∀ r_ : Bool, gQ0u s_ v_ = some r_ →
 Pure E E0 Tryz.prog 10 [.agg [vL q7 s_.attrs, vL qd s_.nested], .agg (aV v_)] (c1 (vB r_)) := by
 refine fnE hb Tryz.func10 rfl fun r_ hq => ?_
 refine q6 hb 10 hq (gQ1z hb he s_) fun y1 hy1 hq => ?_
 refine ifE hb 2 [7, 8] [] hq (fun hq _ => ?_) (fun hq _ => ?_)
 refine q6 hb 8 hq (gQ1g hb he ) fun y3 hy3 hq => ?_
 exact retE hb 2 (injO hq).symm
 refine q6 hb 1 hq (gQ1q hb he v_) fun y4 hy4 hq => ?_
 refine ifE hb 3 [11, 12] [] hq (fun hq _ => ?_) (fun hq _ => ?_)
 refine q6 hb 3 hq (gQ1g hb he ) fun y6 hy6 hq => ?_
 exact retE hb 2 (injO hq).symm
 refine qe hb mixed 3 5 [] ?_
 refine q6 hb 2 hq (gQ61 hb he s_ v_) fun y7 hy7 hq => ?_
 refine q6 hb 3 hq (gQ3z hb he s_ v_) fun y8 hy8 hq => ?_
 refine q6 hb 0 hq (tQa7 hb he y7 y8) fun y9 hy9 hq => ?_
 refine ifE hb 1 [20, 21] [] hq (fun hq _ => ?_) (fun hq _ => ?_)
 refine q6 hb 0 hq (gQ1g hb he ) fun y11 hy11 hq => ?_
 exact retE hb 3 (injO hq).symm
 exact retE hb 4 (injO hq).symm
end Abs
end Go.Proofs.YtkffpfapfljinaaGreatDoor
