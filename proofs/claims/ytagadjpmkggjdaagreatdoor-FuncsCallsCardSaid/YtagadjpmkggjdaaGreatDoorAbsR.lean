import Derived.Test.YtagadjpmkggjdaaGreatDoorAbsS
namespace Go.Proofs.YtagadjpmkggjdaaGreatDoor
set_option linter.unusedSimpArgs false
set_option linter.unusedVariables false
namespace Abs
open Go.RowKit
variable {E : World -> Prop} {E0 : Nat} {P : Program} {G : Nat -> Option (List PV)} {m : Nat} {K : Ex -> List TV -> Sto -> Prop} {s : MS} {ρ β : Type} {e : Option β} {kk : β -> Option ρ} {x : ρ}
theorem qhh (hb:Base E E0 G) (n:Nat) {g:FuncId} {ws:List AV} {σ:Sto} {σ1:β->Sto} {enc:β->TV} (hq:e.bind kk=some x) (hp:∀y,e=some y->Ok E E0 P g ws σ (enc y) (σ1 y)) (k:∀y,e=some y->kk y=some x->J E E0 P G m K (mSto (adv P G n s) (enc y) (σ1 y)))
  (hs:(adv P G n s).σ=σ:=by kernel_rfl) (h:mPre (q7r P G) (adv P G n s)=some (false,g,ws):=by kernel_rfl):J E E0 P G m K s :=
 q93 hb n hq (fun y hy=>hs ▸ hp y hy) k h
end Abs
end Go.Proofs.YtagadjpmkggjdaaGreatDoor
