/-
  The parts of a region, with what changes in the frame alone.
-/
import Derived.Test.YtkmhhboihgckcaaGreatDoorAbsY
namespace Go.Proofs.YtkmhhboihgckcaaGreatDoor
set_option linter.unusedVariables false
namespace Abs
open Go.RowKit
section
variable {E : World → Prop} {E0 : Nat} {P : Program} {G : Nat → Option (List PV)} {D : Bool} {ops : Array Oper} {l : List Oper} {T T' : List TV} {σ σ' : Sto} {R : List TV → Sto → Prop} {N : Nat} {L : List (Nat × TV)} {d : Option Tmp} {v : TV}
/-- The next n operations; the store is as it was. -/
theorem runS (n : Nat) (h : asqF D P G ops (l.take n) T σ = some (T', σ)) (k : asqX D E E0 P G ops (l.drop n) T' σ R) : asqX D E E0 P G ops l T σ R := runF n h k
/-- The same: A is what is new in the frame. -/
theorem runD (n : Nat) (A : List (Nat × TV)) (h : asqF D P G ops (l.take n) (sl N L) σ = some (sl N (A ++ L), σ')) (k : asqX D E E0 P G ops (l.drop n) (sl N (A ++ L)) σ' R) : asqX D E E0 P G ops l (sl N L) σ R := runF n h k
theorem runDS (n : Nat) (A : List (Nat × TV)) (h : asqF D P G ops (l.take n) (sl N L) σ = some (sl N (A ++ L), σ)) (k : asqX D E E0 P G ops (l.drop n) (sl N (A ++ L)) σ R) : asqX D E E0 P G ops l (sl N L) σ R := runF n h k
theorem runP (n : Nat) (A : List (Nat × TV)) (h : asqF D P G ops (l.take n) (putT (sl N L) d v) σ = some (sl N (A ++ L), σ')) (k : asqX D E E0 P G ops (l.drop n) (sl N (A ++ L)) σ' R) : asqX D E E0 P G ops l (putT (sl N L) d v) σ R := runF n h k
theorem runPS (n : Nat) (A : List (Nat × TV)) (h : asqF D P G ops (l.take n) (putT (sl N L) d v) σ = some (sl N (A ++ L), σ)) (k : asqX D E E0 P G ops (l.drop n) (sl N (A ++ L)) σ R) : asqX D E E0 P G ops l (putT (sl N L) d v) σ R := runF n h k
theorem partsD (b : Bool) (A : Bool → List (Nat × TV)) (hT : sl N L = sl N (A b ++ L)) (k1 : b = true → asqX D E E0 P G ops l (sl N (A true ++ L)) σ R) (k2 : b = false → asqX D E E0 P G ops l (sl N (A false ++ L)) σ R) : asqX D E E0 P G ops l (sl N L) σ R :=
  partsF b (fun b => sl N (A b ++ L)) hT k1 k2
theorem partsDT (b : Bool) (A : Bool → List (Nat × TV)) (hT : sl N L = sl N (A b ++ L)) (h : b = true) (k : asqX D E E0 P G ops l (sl N (A true ++ L)) σ R) : asqX D E E0 P G ops l (sl N L) σ R :=
  partsT b (fun b => sl N (A b ++ L)) hT h k
theorem partsDF (b : Bool) (A : Bool → List (Nat × TV)) (hT : sl N L = sl N (A b ++ L)) (h : b = false) (k : asqX D E E0 P G ops l (sl N (A false ++ L)) σ R) : asqX D E E0 P G ops l (sl N L) σ R :=
  partsFF b (fun b => sl N (A b ++ L)) hT h k
theorem lastFS (h : asqF D P G ops l T σ = some (T', σ)) (k : R T' σ) : asqX D E E0 P G ops l T σ R := lastF h k
variable {m : Nat} {r : List Code} {K : Ex → List TV → Sto → Prop}
theorem lastKS {ks : List Nat} (h : (asqF D P G ops l T σ).map (fun q => (keepF ks q.1, q.2)) = some (T', σ)) (hR : ∀ T' σ', awpL E E0 P m r (keepF ks T') σ' K → R T' σ') (k : awpL E E0 P m r T' σ K) : asqX D E E0 P G ops l T σ R := lastK h hR k
theorem L_regS (hb : Base E E0 G) (ks : List Nat) {id : Nat} {opl : List Oper} {c : Code} (h : (asqF false P G opl.toArray opl T σ).map (fun q => (keepF ks q.1, q.2)) = some (T', σ)) (k : awpL E E0 P m (c :: r) T' σ K) : awpL E E0 P m (.region id opl.toArray false :: c :: r) T σ K := L_regF hb ks h k
/-- A pointer to a variable. -/
abbrev pt (id : Nat) : TV := c1 (.ptr id 0 0)
/-- A variable. -/
abbrev bx (cs : List AC) : Option AObj := some (.box cs)
end
end Abs
end Go.Proofs.YtkmhhboihgckcaaGreatDoor
