import Derived.Test.YtagadjpmkggjdaaGreatDoorAbsY
import Derived.Test.YtagadjpmkggjdaaGreatDoorFacts
import Derived.Test.YtagadjpmkggjdaaGreatDoorATy
namespace Go.Proofs.YtagadjpmkggjdaaGreatDoor
namespace Abs
open Go.RowKit
def flV:Fl Val where
 c x:=[pI .i64 x.kind,pI .i64 x.num,pS x.str,.sl false x.items.length (qo x.items),.sl false x.keys.length (x.keys.map strP)]
 f:=qo
 sz:=5
 pos:=by decide
 len _:=rfl
 nil:=qj2
 cons x r:=by rw[qax];rfl
def flT:Fl Ty where
 c x:=[pI .i64 x.kind,.sl false x.elems.length (q3n x.elems),.sl false x.names.length (x.names.map strP)]
 f:=q3n
 sz:=3
 pos:=by decide
 len _:=rfl
 nil:=qrq
 cons x r:=by rw[qro];rfl
def flS:Fl ByteArray where
 c x:=[pS x]
 f l:=l.map strP
 sz:=1
 pos:=by decide
 len _:=rfl
 nil:=rfl
 cons x r:=rfl
def flI (k:IntKind):Fl Int where
 c x:=[pI k x]
 f l:=l.map fun x=>pI k x
 sz:=1
 pos:=by decide
 len _:=rfl
 nil:=rfl
 cons x r:=rfl
def aV (x:Val):List AC:=[vi x.kind,vi x.num,vS x.str,vL flV x.items,vL flS x.keys]
def aT (x:Ty):List AC:=[vi x.kind,vL flT x.elems,vL flS x.names]
end Abs
end Go.Proofs.YtagadjpmkggjdaaGreatDoor
