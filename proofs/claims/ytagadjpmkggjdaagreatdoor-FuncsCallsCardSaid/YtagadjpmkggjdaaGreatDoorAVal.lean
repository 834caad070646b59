import Derived.Test.YtagadjpmkggjdaaGreatDoorFacts
import Derived.Test.YtagadjpmkggjdaaGreatDoorAbsU
import Derived.Test.YtagadjpmkggjdaaGreatDoorVal
namespace Go.Proofs.YtagadjpmkggjdaaGreatDoor
namespace Abs
open Go.RowKit
@[simp] def strP (s:ByteArray):PV:=.sc (.string s)
mutual
/-- The five cells of a value. -/
def toP:Val->List PV
 | .mk k n s items keys=>[.sc (.int .i64 k),.sc (.int .i64 n),.sc (.string s),.sl false items.length (qo items),.sl false keys.length (keys.map strP)]
def qo:List Val->List PV
 | []=>[]
 | x::r=>toP x++qo r
end
@[simp] theorem qj2:qo []=[]:=by simp[qo]
theorem qnh (x:Val):toP x=[.sc (.int .i64 x.kind),.sc (.int .i64 x.num),.sc (.string x.str),.sl false x.items.length (qo x.items),.sl false x.keys.length (x.keys.map strP)]:=by cases x;simp[toP,Val.kind,Val.num,Val.str,Val.items,Val.keys]
@[simp] theorem qax (x:Val) (l:List Val):qo (x::l)=.sc (.int .i64 x.kind)::.sc (.int .i64 x.num)::.sc (.string x.str)::.sl false x.items.length (qo x.items)::.sl false x.keys.length (x.keys.map strP)::qo l:=by
 rw[qo,qnh];rfl
theorem q8l (x:Val):(toP x).length=5:=by rw[qnh];rfl
@[simp] theorem qrn:∀l:List Val,(qo l).length=l.length*5
 | []=>by simp[qo]
 | x::r=>by rw[qo,List.length_append,q8l,qrn r];simp;omega
theorem qj0:∀a b:List Val,qo (a++b)=qo a++qo b
 | [],b=>by simp[qo]
 | x::r,b=>by rw[List.cons_append,qo,qo,qj0 r b,List.append_assoc]
theorem qdz:∀(l:List Val) (i:Nat),(qo l).drop (i*5)=qo (l.drop i)
 | l,0=>by simp
 | [],i+1=>by simp[qo]
 | x::r,i+1=>by
  rw[qo,show (i+1)*5=(toP x).length+i*5 by rw[q8l];omega,List.drop_append,List.drop_succ_cons]
  simp[q8l,qdz r i]
def valA (x:Val):AV:=.agg [.pv (.sc (.int .i64 x.kind)),.pv (.sc (.int .i64 x.num)),.pv (.sc (.string x.str)),.pv (.sl false x.items.length (qo x.items)),.pv (.sl false x.keys.length (x.keys.map strP))]
theorem qj4:∀(l:List Val) (i:Nat),(qo l).take (i*5)=qo (l.take i)
 | l,0=>by simp
 | [],i+1=>by simp[qo]
 | x::r,i+1=>by
  rw[List.take_succ_cons,qo,qo,show (i+1)*5=(toP x).length+i*5 by rw[q8l];omega,List.take_append]
  rw[List.take_of_length_le (by rw[q8l];omega)]
  simp[q8l,qj4 r i]
theorem qrm {l:List Val} {i:Nat} (h:i<l.length):(qo l).drop (i*5)=.sc (.int .i64 l[i].kind)::.sc (.int .i64 l[i].num)::.sc (.string l[i].str)::.sl false l[i].items.length (qo l[i].items)::.sl false l[i].keys.length (l[i].keys.map strP)::qo (l.drop (i+1)):=by
 rw[qdz,List.drop_eq_getElem_cons h,qax]
theorem qj1 {l:List Val} {i:Nat} (h:i<l.length):((qo l).map AC.pv).drop (i*5)=.pv (.sc (.int .i64 l[i].kind))::.pv (.sc (.int .i64 l[i].num))::.pv (.sc (.string l[i].str))::.pv (.sl false l[i].items.length (qo l[i].items))::.pv (.sl false l[i].keys.length (l[i].keys.map strP))::(qo (l.drop (i+1))).map AC.pv:=by
 rw[←List.map_drop,qrm h];rfl
theorem qj3 {l:List Val} {i:Nat} (h:i<l.length) (y:Val):(qo l).take (i*5)++.sc (.int .i64 y.kind)::.sc (.int .i64 y.num)::.sc (.string y.str)::.sl false y.items.length (qo y.items)::.sl false y.keys.length (y.keys.map strP)::(qo l).drop (i*5+5)=qo (l.set i y):=by
 rw[List.set_eq_take_append_cons_drop,if_pos h,qj0,qax,qj4,show i*5+5=(i+1)*5 by omega,qdz]
@[simp] theorem kind_mk {k n s l ks}:(Val.mk k n s l ks).kind=k:=rfl
@[simp] theorem q3i {k n s l ks}:(Val.mk k n s l ks).num=n:=rfl
@[simp] theorem q3l {k n s l ks}:(Val.mk k n s l ks).str=s:=rfl
@[simp] theorem q3e {k n s l ks}:(Val.mk k n s l ks).items=l:=rfl
@[simp] theorem q3f {k n s l ks}:(Val.mk k n s l ks).keys=ks:=rfl
end Abs
end Go.Proofs.YtagadjpmkggjdaaGreatDoor
