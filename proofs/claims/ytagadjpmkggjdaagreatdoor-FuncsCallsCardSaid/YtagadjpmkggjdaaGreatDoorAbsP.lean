import Derived.Test.YtagadjpmkggjdaaGreatDoorAbsS
namespace Go.Proofs.YtagadjpmkggjdaaGreatDoor
namespace Abs
open Go.RowKit
set_option linter.unusedVariables false
set_option linter.unusedSimpArgs false
def permB (π:List Nat) (n:Nat):Bool:=π.length==n&&((List.range n).all fun i=>π.any (Nat.beq i))&&(π.all fun i=>Nat.blt i n)&&(List.range n).all fun p=>Nat.beq (π.idxOf (π.getD p 0)) p
section
variable {π : List Nat} {ops : List Oper} (h : permB π ops.length = true)
include h
end
section
variable {E : World -> Prop} {E0 : Nat} {P : Program} {G : Nat -> Option (List PV)} {m : Nat} {K : Ex -> List TV -> Sto -> Prop} {s : MS}
end
end Abs
end Go.Proofs.YtagadjpmkggjdaaGreatDoor
