/-
  Values, types, strings and numbers as the elements of lists of cells.
-/
import Derived.Test.YtagadjpmkggjdaaGreatDoorAbsY
import Derived.Test.YtagadjpmkggjdaaGreatDoorFacts
import Derived.Test.YtagadjpmkggjdaaGreatDoorATy
namespace Go.Proofs.YtagadjpmkggjdaaGreatDoor
namespace Abs
open Go.RowKit
def flV : Fl Val where
 c x := [pI .i64 x.kind, pI .i64 x.num, pS x.str, .sl false x.items.length (qr x.items), .sl false x.keys.length (x.keys.map strP)]
 f := qr
 sz := 5
 pos := by decide
 len _ := rfl
 nil := qj9
 cons x r := by rw [qb6]; rfl
def flT : Fl Ty where
 c x := [pI .i64 x.kind, .sl false x.elems.length (q3h x.elems), .sl false x.names.length (x.names.map strP)]
 f := q3h
 sz := 3
 pos := by decide
 len _ := rfl
 nil := qri
 cons x r := by rw [qrg]; rfl
def flS : Fl ByteArray where
 c x := [pS x]
 f l := l.map strP
 sz := 1
 pos := by decide
 len _ := rfl
 nil := rfl
 cons x r := rfl
def flI (k : IntKind) : Fl Int where
 c x := [pI k x]
 f l := l.map fun x => pI k x
 sz := 1
 pos := by decide
 len _ := rfl
 nil := rfl
 cons x r := rfl
def aV (x : Val) : List AC := [vi x.kind, vi x.num, vS x.str, vL flV x.items, vL flS x.keys]
def aT (x : Ty) : List AC := [vi x.kind, vL flT x.elems, vL flS x.names]
end Abs
end Go.Proofs.YtagadjpmkggjdaaGreatDoor
