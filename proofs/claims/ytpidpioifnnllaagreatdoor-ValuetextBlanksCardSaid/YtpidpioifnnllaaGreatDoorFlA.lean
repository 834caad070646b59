/-
  Values, types, strings and numbers as the elements of lists of cells.
-/
import Derived.Test.YtpidpioifnnllaaGreatDoorAbsY
import Derived.Test.YtpidpioifnnllaaGreatDoorFacts
import Derived.Test.YtpidpioifnnllaaGreatDoorATy
namespace Go.Proofs.YtpidpioifnnllaaGreatDoor
namespace Abs
open Go.RowKit
def flV:Fl Val where
 c x:=[pI .i64 x.kind,pI .i64 x.num,pS x.str,.sl false x.items.length (q2f x.items),.sl false x.keys.length (x.keys.map strP)]
 f:=q2f
 sz:=5
 pos:=by decide
 len _:=rfl
 nil:=qr7
 cons x r:=by rw[qj4]; rfl
def flT:Fl Ty where
 c x:=[pI .i64 x.kind,.sl false x.elems.length (q2x x.elems),.sl false x.names.length (x.names.map strP)]
 f:=q2x
 sz:=3
 pos:=by decide
 len _:=rfl
 nil:=qra
 cons x r:=by rw[qr8]; rfl
def flS:Fl ByteArray where
 c x:=[pS x]
 f l:=l.map strP
 sz:=1
 pos:=by decide
 len _:=rfl
 nil:=rfl
 cons x r:=rfl
def flI (k:IntKind):Fl Int where
 c x:=[pI k x]
 f l:=l.map fun x=>pI k x
 sz:=1
 pos:=by decide
 len _:=rfl
 nil:=rfl
 cons x r:=rfl
def flB:Fl Bool where
 c x:=[pB x]
 f l:=l.map fun x=>pB x
 sz:=1
 pos:=by decide
 len _:=rfl
 nil:=rfl
 cons x r:=rfl
def aV (x:Val):List AC:=[vi x.kind,vi x.num,vS x.str,vL flV x.items,vL flS x.keys]
def aT (x:Ty):List AC:=[vi x.kind,vL flT x.elems,vL flS x.names]
end Abs
end Go.Proofs.YtpidpioifnnllaaGreatDoor
