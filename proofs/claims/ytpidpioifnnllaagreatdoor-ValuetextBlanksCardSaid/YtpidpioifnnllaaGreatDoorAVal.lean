/-
  Values of the configuration language as the evaluator holds them.
-/
import Derived.Test.YtpidpioifnnllaaGreatDoorFacts
import Derived.Test.YtpidpioifnnllaaGreatDoorAbsU
import Derived.Test.YtpidpioifnnllaaGreatDoorVal
namespace Go.Proofs.YtpidpioifnnllaaGreatDoor
namespace Abs
open Go.RowKit
@[simp] def strP (s:ByteArray):PV:=.sc (.string s)
mutual
/-- The five cells of a value. -/
def toP:Val→List PV
 | .mk k n s items keys=>[.sc (.int .i64 k),.sc (.int .i64 n),.sc (.string s),.sl false items.length (q2f items),.sl false keys.length (keys.map strP)]
def q2f:List Val→List PV
 | []=>[]
 | x::r=>toP x++q2f r
end
@[simp] theorem qr7:q2f []=[]:=by simp[q2f]
theorem qnz (x:Val):toP x=[.sc (.int .i64 x.kind),.sc (.int .i64 x.num),.sc (.string x.str),.sl false x.items.length (q2f x.items),.sl false x.keys.length (x.keys.map strP)]:=by cases x; simp[toP,Val.kind,Val.num,Val.str,Val.items,Val.keys]
@[simp] theorem qj4 (x:Val) (l:List Val):q2f (x::l)=.sc (.int .i64 x.kind)::.sc (.int .i64 x.num)::.sc (.string x.str)::.sl false x.items.length (q2f x.items)::.sl false x.keys.length (x.keys.map strP)::q2f l:=by
 rw[q2f,qnz]; rfl
theorem qwf (x:Val):(toP x).length=5:=by rw[qnz]; rfl
@[simp] theorem qr6:∀ l:List Val,(q2f l).length=l.length*5
 | []=>by simp[q2f]
 | x::r=>by rw[q2f,List.length_append,qwf,qr6 r]; simp; omega
def valA (x:Val):AV:=.agg [.pv (.sc (.int .i64 x.kind)),.pv (.sc (.int .i64 x.num)),.pv (.sc (.string x.str)),.pv (.sl false x.items.length (q2f x.items)),.pv (.sl false x.keys.length (x.keys.map strP))]
@[simp] theorem kind_mk {k n s l ks}:(Val.mk k n s l ks).kind=k:=rfl
@[simp] theorem qls {k n s l ks}:(Val.mk k n s l ks).num=n:=rfl
@[simp] theorem qnm {k n s l ks}:(Val.mk k n s l ks).str=s:=rfl
@[simp] theorem qk0 {k n s l ks}:(Val.mk k n s l ks).items=l:=rfl
@[simp] theorem qk9 {k n s l ks}:(Val.mk k n s l ks).keys=ks:=rfl
end Abs
end Go.Proofs.YtpidpioifnnllaaGreatDoor
