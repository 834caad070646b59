/-
  Plain laws on what printed functions use: loops over lists, elements, appends.
-/
import Derived.Test.YtpidpioifnnllaaGreatDoorAbsY
namespace Go.Proofs.YtpidpioifnnllaaGreatDoor
namespace Abs
open Go.RowKit
theorem q1n {α:Type} (l:List α) (i:Nat):idx l (i:Int)=l[i]?:=by simp[idx]
theorem q3l {α:Type} {l:List α} {i:Nat} {x:α} {r:List α} (h:l.drop i=x::r):i < l.length∧l[i]?=some x∧l.drop (i+1)=r:=by
 have hi:i < l.length:=by
  rcases Nat.lt_or_ge i l.length with k | k
  ·exact k
  ·rw[List.drop_eq_nil_of_le k]at h; cases h
 rw[List.drop_eq_getElem_cons hi]at h
 simp only[List.cons.injEq]at h
 exact ⟨hi,by rw[List.getElem?_eq_getElem hi,h.1],h.2⟩
theorem q37 {i n:Nat} (h:i < n) (hn:n≤9223372036854775807):IntKind.i64.wrap ((i:Int)+1)=((i+1:Nat):Int):=qxc (by omega)
theorem q62 {α:Type} {by_:Nat} {xs ys:List α} (hb:0 < by_) (h:(xs.length+ys.length)*by_≤140737488355328):app by_ xs ys=some (xs++ys):=by
 have h2:xs.length+ys.length≤9223372036854775807:=by
  have:=Nat.le_mul_of_pos_right (xs.length+ys.length) hb
  omega
 unfold app
 rw[if_pos ⟨h,h2⟩]
theorem qsu {α A O St:Type} (l:List α) (F:Nat→A→St) {body:St→Option (St⊕O)} (spec:A→List α→O) (Q:A→List α→Prop)
  (hnil:∀ a,Q a []→body (F l.length a)=some (.inr (spec a [])))
  (hcons:∀ i x r a,i < l.length→l[i]?=some x→l.drop i=x::r→Q a (x::r)→(∃ a',Q a' r∧body (F i a)=some (.inl (F (i+1) a'))∧spec a (x::r)=spec a' r)∨body (F i a)=some (.inr (spec a (x::r)))) :
  ∀ i a,i≤l.length→Q a (l.drop i)→qf body (F i a)=some (spec a (l.drop i)):=by
 have key:∀ n i a,l.length - i=n→i≤l.length→Q a (l.drop i)→qf body (F i a)=some (spec a (l.drop i)):=by
  intro n
  induction n with
  | zero =>
   intro i a hn hi hq
   obtain rfl:i=l.length:=by omega
   rw[List.drop_length]at hq ⊢
   exact qs (hnil a hq)
  | succ n ih =>
   intro i a hn hi hq
   have hlt:i < l.length:=by omega
   have hd:=List.drop_eq_getElem_cons hlt
   rw[hd]at hq ⊢
   rcases hcons i _ _ a hlt (List.getElem?_eq_getElem hlt) hd hq with ⟨a',h1,h2,h3⟩ | h
   ·rw[q1v h2,h3]
    exact ih (i+1) a' (by omega) (by omega) h1
   ·exact qs h
 exact fun i a hi hq=>key _ i a rfl hi hq
theorem qsv {α A O St:Type} (l:List α) (F:Nat→A→St) {body:St→Option (St⊕O)} (spec:A→List α→O) (Q:A→List α→Prop) {s0:St} {a:A} (h0:s0=F 0 a) (hq:Q a l)
  (hnil:∀ a,Q a []→body (F l.length a)=some (.inr (spec a [])))
  (hcons:∀ i x r a,i < l.length→l[i]?=some x→l.drop i=x::r→Q a (x::r)→(∃ a',Q a' r∧body (F i a)=some (.inl (F (i+1) a'))∧spec a (x::r)=spec a' r)∨body (F i a)=some (.inr (spec a (x::r)))) :
  qf body s0=some (spec a l):=by
 rw[h0]
 have:=qsu l F spec Q hnil hcons 0 a (Nat.zero_le _) hq
 rwa [List.drop_zero]at this
theorem q6e {St O:Type} {body:St→Option (St⊕O)} (I:St→Prop) (μ:St→Nat) (R:O→Prop)
  (step:∀ s,I s→(∃ s',body s=some (.inl s')∧I s'∧μ s' < μ s)∨∃ q,body s=some (.inr q)∧R q):∀ s,I s→∃ q,qf body s=some q∧R q:=by
 have key:∀ n s,μ s < n→I s→∃ q,qf body s=some q∧R q:=by
  intro n
  induction n with
  | zero=>intro s h; omega
  | succ n ih =>
   intro s h hi
   rcases step s hi with ⟨s',h1,h2,h3⟩ | ⟨q,h1,h2⟩
   ·rw[q1v h1]; exact ih s' (by omega) h2
   ·exact ⟨q,qs h1,h2⟩
 exact fun s hi=>key _ s (Nat.lt_succ_self _) hi
end Abs
end Go.Proofs.YtpidpioifnnllaaGreatDoor
