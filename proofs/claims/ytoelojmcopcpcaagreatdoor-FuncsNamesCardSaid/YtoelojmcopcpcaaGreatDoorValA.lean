/-
  Contracts of the reference's functions on values that only read: left, Small, node, check, Check.
-/
import Derived.Test.YtoelojmcopcpcaaGreatDoorVal
namespace Go.Proofs.YtoelojmcopcpcaaGreatDoor
open Go.RowKit




end Go.Proofs.YtoelojmcopcpcaaGreatDoor
