/-
  Contracts: value.Bool, Number, String; convert.toBool, toNumber, toString.
-/
import Derived.Test.YtpidpioifnnllaaGreatDoorAVal
namespace Go.Proofs.YtpidpioifnnllaaGreatDoor
set_option linter.unusedSimpArgs false
set_option linter.unusedVariables false
namespace Abs
open Go.RowKit
variable {E : World → Prop} {E0 : Nat} {G : Nat → Option (List PV)}
set_option maxRecDepth 100000
set_option maxHeartbeats 1000000
def noS:ByteArray:=⟨#[]⟩
def intA (n:Int):AV:=.cell (.pv (.sc (.int .i64 n)))
def strA (s:ByteArray):AV:=.cell (.pv (.sc (.string s)))
def qdc (b:Bool):AV:=.cell (.pv (.sc (.bool b)))
attribute [simp] intA strA qdc noS
end Abs
end Go.Proofs.YtpidpioifnnllaaGreatDoor
