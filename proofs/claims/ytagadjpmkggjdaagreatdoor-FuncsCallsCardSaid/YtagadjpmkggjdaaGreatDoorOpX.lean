import Derived.Test.YtagadjpmkggjdaaGreatDoorOpV
import Derived.Test.YtagadjpmkggjdaaGreatDoorFnZ
namespace Go.Proofs.YtagadjpmkggjdaaGreatDoor
set_option linter.unusedSimpArgs false
set_option linter.unusedVariables false
namespace Abs
set_option maxRecDepth 1000000
open Go.RowKit
section
variable {H : Type} {enc : TypeId × Value -> H} {P : Program} {W : World}
def flL {α:Type} (F:Fl α):Fl (List α):=Fl.of (fun l=>[pL F l]) 1 (by decide) (fun _=>rfl)
theorem qvf {α:Type} (F:Fl α) {good:α->Prop} {t e:TypeId} (ht:P.underlying t=some (.slice e)) (hc:P.cellsOf e=F.sz) {b:Nat} (hbt:P.bytesOf e=b) (he:∀n,q6q enc P W n e F good) (n:Nat) :
  q6q enc P W n t (flL F) fun l=>l.length*b<=140737488351232/\∀y∈l,good y:=by
 intro cs d ps h hw
 obtain ⟨l,u,rfl,g,nb,r⟩:=qf8 (F:=F) ht hc (N:=n) (fun j _=>he j) h hw
 exact ⟨l,⟨hbt ▸ nb,g⟩,r,trivial⟩
end
section
variable {H : Type} {enc : TypeId × Value -> H} {W : World}
theorem qlf {P:Program} {W:World} {r:Reach} {b:Nat} {t:TypeId} {u} (ht:P.underlying t=some u) (hu:match u with|.int _|.bool|.string|.slice _=>True|_=>False) {v:Value} (h:Value.okWide P W r b t v):v.cells=#[v]:=by
 unfold Value.okWide at h
 rw[ht]at h
 cases v with
 | agg cs =>
  exfalso
  cases u<;>first|exact hu.elim|(simp only[Cell.okWide,ht,Cell.ok]at h)
 | _=>rfl
theorem qli {α:Type} {F:Fl α} {good:α->Prop} {t:TypeId} {f:α->PV} (hF:∀x,F.c x=[f x]) {v:Value} (hu:v.cells=#[v]) (ho:∀n,q6q enc Tryz.prog W n t F good)
  {d:DataW H} {ps:List MemPlace} (hd:DataW.Trod enc Tryz.prog W 0 (fun _=>true) true t v d ps) (hw:∀m∈d.weights Tryz.prog t,m<=reachBytes) :
  ∃x,good x/\qf (Cx.bare W.heap.size W.heap.size fun _ _=>True) W (.cell (.pv (f x))) v:=by
 obtain ⟨fuel,hf⟩:=hd
 rw[hu]at hf
 obtain ⟨x,hx,hr⟩:=ho fuel _ _ _ hf hw
 rw[hF]at hr
 exact ⟨x,hx,PRep.mono (fun b o hb=>⟨.inl ⟨hb,trivial⟩,rfl⟩) hr.1⟩
theorem qvd {t:TypeId} (ht:Tryz.prog.underlying t=some .string) {v:Value} (hval:Value.okWide Tryz.prog W .any 0 t v) {d:DataW H} {ps:List MemPlace} (hd:DataW.Trod enc Tryz.prog W 0 (fun _=>true) true t v d ps) (hw:∀m∈d.weights Tryz.prog t,m<=reachBytes) :
  ∃x:ByteArray,x.size<=140737488351232/\qf (Cx.bare W.heap.size W.heap.size fun _ _=>True) W (.cell (vS x)) v:=qli (fun _=>rfl) (qlf ht trivial hval) (fun _=>qf9 ht) hd hw
theorem qvc {α:Type} (F:Fl α) {good:α->Prop} {t e:TypeId} (ht:Tryz.prog.underlying t=some (.slice e)) (hc:Tryz.prog.cellsOf e=F.sz) {b:Nat} (hbt:Tryz.prog.bytesOf e=b) (he:∀n,q6q enc Tryz.prog W n e F good)
  {v:Value} (hval:Value.okWide Tryz.prog W .any 0 t v) {d:DataW H} {ps:List MemPlace} (hd:DataW.Trod enc Tryz.prog W 0 (fun _=>true) true t v d ps) (hw:∀m∈d.weights Tryz.prog t,m<=reachBytes) :
  ∃x:List α,(x.length*b<=140737488351232/\∀y∈x,good y)/\qf (Cx.bare W.heap.size W.heap.size fun _ _=>True) W (.cell (vL F x)) v:=qli (F:=flL F) (fun _=>rfl) (qlf ht trivial hval) (fun n=>qvf F ht hc hbt he n) hd hw
end
end Abs
end Go.Proofs.YtagadjpmkggjdaaGreatDoor
