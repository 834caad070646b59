/-
  Types of the configuration language as a plain type, and as the evaluator holds them.
-/
import Derived.Test.YtpidpioifnnllaaGreatDoorAVal
namespace Go.Proofs.YtpidpioifnnllaaGreatDoor
inductive Ty where
 | mk (kind:Int) (elems:List Ty) (names:List ByteArray)
namespace Ty
def kind:Ty→Int | .mk k _ _=>k
def elems:Ty→List Ty | .mk _ l _=>l
def names:Ty→List ByteArray | .mk _ _ l=>l
@[simp] theorem kind_mk {k l ks}:(Ty.mk k l ks).kind=k:=rfl
@[simp] theorem elems_mk {k l ks}:(Ty.mk k l ks).elems=l:=rfl
@[simp] theorem names_mk {k l ks}:(Ty.mk k l ks).names=ks:=rfl
theorem ind {p:Ty→Prop} (h:∀ k elems names,(∀ x ∈ elems,p x)→p (.mk k elems names)) (v:Ty):p v :=
 Ty.rec (motive_1:=p) (motive_2:=fun l=>∀ x ∈ l,p x) (fun k elems names ih=>h k elems names ih) (fun _ hx=>absurd hx List.not_mem_nil)
  (fun a l ha hl x hx=>by
   rcases List.mem_cons.1 hx with rfl | hx
   ·exact ha
   ·exact hl x hx) v
end Ty
inductive Ty.Fits:Ty→Prop
 | mk {k:Int} {elems:List Ty} {names:List ByteArray}:(-9223372036854775808≤k∧k≤9223372036854775807)→elems.length*56≤140737488351232→names.length*16≤140737488351232→(∀ t ∈ names,t.size≤140737488351232)→(∀ x ∈ elems,Ty.Fits x)→Ty.Fits (.mk k elems names)
theorem Ty.Fits.parts {x:Ty} (h:x.Fits):(-9223372036854775808≤x.kind∧x.kind≤9223372036854775807)∧x.elems.length*56≤140737488351232∧x.names.length*16≤140737488351232∧(∀ t ∈ x.names,t.size≤140737488351232)∧(∀ y ∈ x.elems,y.Fits):=by
 cases h with
 | mk h1 h2 h3 h4 h5=>exact ⟨h1,h2,h3,h4,h5⟩
namespace Abs
open Go.RowKit
mutual
/-- The three cells of a type. -/
def toT:Ty→List PV
 | .mk k elems names=>[.sc (.int .i64 k),.sl false elems.length (q2x elems),.sl false names.length (names.map strP)]
def q2x:List Ty→List PV
 | []=>[]
 | x::r=>toT x++q2x r
end
@[simp] theorem qra:q2x []=[]:=by simp[q2x]
theorem qo0 (x:Ty):toT x=[.sc (.int .i64 x.kind),.sl false x.elems.length (q2x x.elems),.sl false x.names.length (x.names.map strP)]:=by cases x; simp[toT]
@[simp] theorem qr8 (x:Ty) (l:List Ty):q2x (x::l)=.sc (.int .i64 x.kind)::.sl false x.elems.length (q2x x.elems)::.sl false x.names.length (x.names.map strP)::q2x l:=by
 rw[q2x,qo0]; rfl
theorem qwg (x:Ty):(toT x).length=3:=by rw[qo0]; rfl
@[simp] theorem qr9:∀ l:List Ty,(q2x l).length=l.length*3
 | []=>by simp[q2x]
 | x::r=>by rw[q2x,List.length_append,qwg,qr9 r]; simp; omega
end Abs
end Go.Proofs.YtpidpioifnnllaaGreatDoor
