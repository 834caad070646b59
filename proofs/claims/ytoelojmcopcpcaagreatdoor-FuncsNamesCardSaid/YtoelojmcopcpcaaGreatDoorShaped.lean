import Derived.Test.YtoelojmcopcpcaaGreatDoorVal
import Derived.Deep.DeepCutAuto
namespace Go.Proofs.YtoelojmcopcpcaaGreatDoor
open Go.RowKit

def numOk (k n : Int) : Bool := k == 2 || (k == 1 && (n == 0 || n == 1)) || n == 0
def strOk (k : Int) (s : ByteArray) : Bool := k == 3 || s.toList.isEmpty
def itemsOk (k : Int) (il : Nat) : Bool := k == 4 || k == 5 || (il : Int) == 0
def keysOk (k : Int) (kl il : Nat) : Bool := (k == 5 && (kl : Int) == (il : Int)) || (k != 5 && (kl : Int) == 0)
/-- The kind exists, and fields that it does not use are zero. -/
def shapedB (k n : Int) (s : ByteArray) (il kl : Nat) : Bool := decide (0 ≤ k) && decide (k ≤ 6) && numOk k n && strOk k s && itemsOk k il && keysOk k kl il
def shapedV (x : Val) : Bool := shapedB x.kind x.num x.str x.items.length x.keys.length


end Go.Proofs.YtoelojmcopcpcaaGreatDoor
