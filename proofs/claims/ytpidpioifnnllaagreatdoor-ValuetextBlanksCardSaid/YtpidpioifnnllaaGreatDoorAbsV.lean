/-
  Cells of a struct in a slot, in other words; an array of one's own that may be nil.
-/
import Derived.Test.YtpidpioifnnllaaGreatDoorAbsN
import Derived.Test.YtpidpioifnnllaaGreatDoorAbsS
namespace Go.Proofs.YtpidpioifnnllaaGreatDoor
set_option linter.unusedSimpArgs false
set_option linter.unusedVariables false
namespace Abs
open Go.RowKit
section
variable {E : World → Prop} {E0 : Nat} {P : Program} {G : Nat → Option (List PV)} {m : Nat} {T T' : List TV} {σ σ' : Sto} {K : Ex → List TV → Sto → Prop} {r : List Code}
end
section
variable {E : World → Prop} {E0 : Nat} {P : Program} {G : Nat → Option (List PV)} {m : Nat} {K : Ex → List TV → Sto → Prop} {s : MS} {α ρ : Type} {x : ρ}
theorem q9b (hb:Base E E0 G) (n:Nat) (k:J E E0 P G m K (unl (adv P G n s))) (hl:q8y (adv P G n s)=true:=by kernel_rfl):J E E0 P G m K s:=by
 refine q2q hb n ?_
 generalize adv P G n s=t at *
 obtain ⟨b,r,e⟩:=qex hl
 obtain ⟨reg,c,ctx,T,σ⟩:=t
 simp only[MS.mk.injEq]at e
 obtain ⟨rfl,rfl,_⟩:=e
 exact qcm k
end
end Abs
end Go.Proofs.YtpidpioifnnllaaGreatDoor
