/-
  Values, types, strings and numbers as the elements of lists of cells.
-/
import Derived.Test.YtoelojmcopcpcaaGreatDoorAbsY
import Derived.Test.YtoelojmcopcpcaaGreatDoorFacts
import Derived.Test.YtoelojmcopcpcaaGreatDoorATy
namespace Go.Proofs.YtoelojmcopcpcaaGreatDoor
namespace Abs
open Go.RowKit

def flV : Fl Val where
  c x := [pI .i64 x.kind, pI .i64 x.num, pS x.str, .sl false x.items.length (flatP x.items), .sl false x.keys.length (x.keys.map strP)]
  f := flatP
  sz := 5
  pos := by decide
  len _ := rfl
  nil := flatP_nil
  cons x r := by rw [flatP_cons]; rfl
def flT : Fl Ty where
  c x := [pI .i64 x.kind, .sl false x.elems.length (flatT x.elems), .sl false x.names.length (x.names.map strP)]
  f := flatT
  sz := 3
  pos := by decide
  len _ := rfl
  nil := flatT_nil
  cons x r := by rw [flatT_cons]; rfl
def flS : Fl ByteArray where
  c x := [pS x]
  f l := l.map strP
  sz := 1
  pos := by decide
  len _ := rfl
  nil := rfl
  cons x r := rfl
def flI (k : IntKind) : Fl Int where
  c x := [pI k x]
  f l := l.map fun x => pI k x
  sz := 1
  pos := by decide
  len _ := rfl
  nil := rfl
  cons x r := rfl
def flB : Fl Bool where
  c x := [pB x]
  f l := l.map fun x => pB x
  sz := 1
  pos := by decide
  len _ := rfl
  nil := rfl
  cons x r := rfl
def aV (x : Val) : List AC := [vi x.kind, vi x.num, vS x.str, vL flV x.items, vL flS x.keys]
def aT (x : Ty) : List AC := [vi x.kind, vL flT x.elems, vL flS x.names]
end Abs
end Go.Proofs.YtoelojmcopcpcaaGreatDoor
