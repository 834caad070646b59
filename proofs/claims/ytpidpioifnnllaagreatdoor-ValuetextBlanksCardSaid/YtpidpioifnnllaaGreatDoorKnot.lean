/-
  Functions that call themselves on a part of what they were handed.
-/
import Derived.Test.YtpidpioifnnllaaGreatDoorFlA
namespace Go.Proofs.YtpidpioifnnllaaGreatDoor
namespace Abs
open Go.RowKit
open Classical in
/-- The function whose calls of itself,on what lies below its argument,are its own. -/
noncomputable def tieF {A B R:Type} (rel:A→A→Prop) (wf:WellFounded rel) (Φ:(A→B→Option R)→A→B→Option R):A→B→Option R :=
 wf.fix fun a rec b=>Φ (fun a' b'=>if h:rel a' a then rec a' h b' else none) a b
open Classical in
theorem q42 {A B R:Type} {rel:A→A→Prop} {wf:WellFounded rel} {Φ:(A→B→Option R)→A→B→Option R} (a:A) (b:B) :
  tieF rel wf Φ a b=Φ (fun a' b'=>if rel a' a then tieF rel wf Φ a' b' else none) a b:=by
 unfold tieF
 rw[wf.fix_eq]
 rfl
theorem q4h {A B R:Type} {rel:A→A→Prop} {wf:WellFounded rel} {Φ:(A→B→Option R)→A→B→Option R} {C:A→B→R→Prop}
  (h:∀ rec:A→B→Option R,(∀ a b r,rec a b=some r→C a b r)→∀ a b r,Φ rec a b=some r→C a b r):∀ a b r,tieF rel wf Φ a b=some r→C a b r:=by
 intro a
 induction a using wf.induction with
 | h a ih =>
  intro b r hq
  rw[q42]at hq
  refine h _ (fun a' b' r' e=>?_) a b r hq
  split at e
  ·rename_i hr; exact ih a' hr b' r' e
  ·cases e
def relV (y x:Val):Prop:=y ∈ x.items
theorem wfV:WellFounded relV:=⟨fun x=>by
 induction x using Val.ind with
 | h k n s items keys ih=>exact ⟨_,fun y hy=>ih y hy⟩⟩
open Classical in
/-- A value under a condition. -/
noncomputable def gd {α:Type} (p:Prop) (x:α):Option α:=if p then some x else none
theorem q4s {α:Type} {p:Prop} {x r:α} (h:gd p x=some r):p∧r=x:=by
 unfold gd at h
 split at h
 ·rename_i hp; simp at h; exact ⟨hp,h.symm⟩
 ·cases h
theorem q3y {α:Type} {p:Prop} {x:α} (h:p):gd p x=some x:=by unfold gd; rw[if_pos h]
end Abs
end Go.Proofs.YtpidpioifnnllaaGreatDoor
