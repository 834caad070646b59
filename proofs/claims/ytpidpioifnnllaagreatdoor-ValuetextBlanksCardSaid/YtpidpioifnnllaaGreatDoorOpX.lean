/-
  Arguments of one cell, opened.
-/
import Derived.Test.YtpidpioifnnllaaGreatDoorOpV
import Derived.Test.YtpidpioifnnllaaGreatDoorFnCZ
namespace Go.Proofs.YtpidpioifnnllaaGreatDoor
set_option linter.unusedSimpArgs false
set_option linter.unusedVariables false
namespace Abs
set_option maxRecDepth 1000000
open Go.RowKit
section
variable {H : Type} {enc : TypeId × Value → H} {P : Program} {W : World}
theorem qud {n:Nat} {t:TypeId} (ht:P.underlying t=some (.int .i64)):q5z enc P W n t (flI .i64) fun k=>-9223372036854775808≤k∧k≤9223372036854775807:=by
 intro cs d ps h hw
 obtain ⟨k,rfl,hx,b⟩:=DataW.trod_int ht h
 exact ⟨k,bounds_i64 b,⟨rfl,rfl⟩,trivial⟩
theorem que {n:Nat} {t:TypeId} (ht:P.underlying t=some (.int .u8)):q5z enc P W n t (flI .u8) fun k=>0≤k∧k≤255:=by
 intro cs d ps h hw
 obtain ⟨k,rfl,hx,b⟩:=DataW.trod_int ht h
 exact ⟨k,bounds_u8 b,⟨rfl,rfl⟩,trivial⟩
end
section
variable {H : Type} {enc : TypeId × Value → H} {W : World}
theorem qfb {P:Program} {W:World} {r:Reach} {b:Nat} {t:TypeId} {u} (ht:P.underlying t=some u) (hu:match u with | .int _ | .bool | .string | .slice _=>True | _=>False) {v:Value} (h:Value.okWide P W r b t v):v.cells=#[v]:=by
 unfold Value.okWide at h
 rw[ht]at h
 cases v with
 | agg cs =>
  exfalso
  cases u <;> first | exact hu.elim | (simp only[Cell.okWide,ht,Cell.ok]at h)
 | _=>rfl
theorem qfe {α:Type} {F:Fl α} {good:α→Prop} {t:TypeId} {f:α→PV} (hF:∀ x,F.c x=[f x]) {v:Value} (hu:v.cells=#[v]) (ho:∀ n,q5z enc Tryz.prog W n t F good)
  {d:DataW H} {ps:List MemPlace} (hd:DataW.Trod enc Tryz.prog W 0 (fun _=>true) true t v d ps) (hw:∀ m ∈ d.weights Tryz.prog t,m≤reachBytes) :
  ∃ x,good x∧q9 (Cx.bare W.heap.size W.heap.size fun _ _=>True) W (.cell (.pv (f x))) v:=by
 obtain ⟨fuel,hf⟩:=hd
 rw[hu]at hf
 obtain ⟨x,hx,hr⟩:=ho fuel _ _ _ hf hw
 rw[hF]at hr
 exact ⟨x,hx,PRep.mono (fun b o hb=>⟨.inl ⟨hb,trivial⟩,rfl⟩) hr.1⟩
theorem quc {t:TypeId} (ht:Tryz.prog.underlying t=some (.int .i64)) {v:Value} (hval:Value.okWide Tryz.prog W .any 0 t v) {d:DataW H} {ps:List MemPlace} (hd:DataW.Trod enc Tryz.prog W 0 (fun _=>true) true t v d ps) (hw:∀ m ∈ d.weights Tryz.prog t,m≤reachBytes) :
  ∃ x:Int,(-9223372036854775808≤x∧x≤9223372036854775807)∧q9 (Cx.bare W.heap.size W.heap.size fun _ _=>True) W (.cell (vi x)) v:=qfe (fun _=>rfl) (qfb ht trivial hval) (fun _=>qud ht) hd hw
theorem qly {t:TypeId} (ht:Tryz.prog.underlying t=some (.int .u8)) {v:Value} (hval:Value.okWide Tryz.prog W .any 0 t v) {d:DataW H} {ps:List MemPlace} (hd:DataW.Trod enc Tryz.prog W 0 (fun _=>true) true t v d ps) (hw:∀ m ∈ d.weights Tryz.prog t,m≤reachBytes) :
  ∃ x:Int,(0≤x∧x≤255)∧q9 (Cx.bare W.heap.size W.heap.size fun _ _=>True) W (.cell (vI .u8 x)) v:=qfe (fun _=>rfl) (qfb ht trivial hval) (fun _=>que ht) hd hw
theorem qlx {t:TypeId} (ht:Tryz.prog.underlying t=some .string) {v:Value} (hval:Value.okWide Tryz.prog W .any 0 t v) {d:DataW H} {ps:List MemPlace} (hd:DataW.Trod enc Tryz.prog W 0 (fun _=>true) true t v d ps) (hw:∀ m ∈ d.weights Tryz.prog t,m≤reachBytes) :
  ∃ x:ByteArray,x.size≤140737488351232∧q9 (Cx.bare W.heap.size W.heap.size fun _ _=>True) W (.cell (vS x)) v:=qfe (fun _=>rfl) (qfb ht trivial hval) (fun _=>qff ht) hd hw
end
end Abs
end Go.Proofs.YtpidpioifnnllaaGreatDoor
