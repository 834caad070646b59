import Derived.Test.YtagadjpmkggjdaaGreatDoorFlA
namespace Go.Proofs.YtagadjpmkggjdaaGreatDoor
namespace Abs
open Go.RowKit
open Classical in
/-- The function whose calls of itself,on what lies below its argument,are its own. -/
noncomputable def tieF {A B R:Type} (rel:A->A->Prop) (wf:WellFounded rel) (Φ:(A->B->Option R)->A->B->Option R):A->B->Option R :=
 wf.fix fun a rec b=>Φ (fun a' b'=>if h:rel a' a then rec a' h b' else none) a b
open Classical in
theorem q30 {A B R:Type} {rel:A->A->Prop} {wf:WellFounded rel} {Φ:(A->B->Option R)->A->B->Option R} (a:A) (b:B) :
  tieF rel wf Φ a b=Φ (fun a' b'=>if rel a' a then tieF rel wf Φ a' b' else none) a b:=by
 unfold tieF
 rw[wf.fix_eq]
 rfl
theorem q4b {A B R:Type} {rel:A->A->Prop} {wf:WellFounded rel} {Φ:(A->B->Option R)->A->B->Option R} {C:A->B->R->Prop}
  (h:∀rec:A->B->Option R,(∀a b r,rec a b=some r->C a b r)->∀a b r,Φ rec a b=some r->C a b r):∀a b r,tieF rel wf Φ a b=some r->C a b r:=by
 intro a
 induction a using wf.induction with
 | h a ih =>
  intro b r hq
  rw[q30]at hq
  refine h _ (fun a' b' r' e=>?_) a b r hq
  split at e
  .rename_i hr;exact ih a' hr b' r' e
  .cases e
def relV (y x:Val):Prop:=y∈x.items
def relT (y x:Ty):Prop:=y∈x.elems
theorem wfV:WellFounded relV:=⟨fun x=>by
 induction x using Val.ind with
 | h k n s items keys ih=>exact ⟨_,fun y hy=>ih y hy⟩⟩
theorem wfT:WellFounded relT:=⟨fun x=>by
 induction x using Ty.ind with
 | h k elems names ih=>exact ⟨_,fun y hy=>ih y hy⟩⟩
def q6i (y x:List Val):Prop:=∃v∈x,y=v.items
theorem wfVL:WellFounded q6i:=by
 have h:∀v:Val,Acc q6i v.items:=fun v=>by
  induction v using wfV.induction with
  | h v ih=>exact ⟨_,fun y ⟨u,hu,e⟩=>e ▸ ih u hu⟩
 exact ⟨fun x=>⟨_,fun y ⟨u,_,e⟩=>e ▸ h u⟩⟩
open Classical in
/-- A value under a condition. -/
noncomputable def gd {α:Type} (p:Prop) (x:α):Option α:=if p then some x else none
theorem q2t {α:Type} {p:Prop} {x r:α} (h:gd p x=some r):p/\r=x:=by
 unfold gd at h
 split at h
 .rename_i hp;simp at h;exact ⟨hp,h.symm⟩
 .cases h
theorem q1v {α:Type} {p:Prop} {x:α} (h:p):gd p x=some x:=by unfold gd;rw[if_pos h]
theorem oB_ {α β : Type} {a : α} {f : α -> Option β} : (some a).bind f = f a := rfl
theorem dT_ {p : Prop} [Decidable p] (h : p) : decide p = true := decide_eq_true h
theorem dF_ {p : Prop} [Decidable p] (h : ¬p) : decide p = false := decide_eq_false h
theorem cT_ {α : Type} {a b : α} : (bif true then a else b) = a := rfl
theorem cF_ {α : Type} {a b : α} : (bif false then a else b) = b := rfl
theorem gE_ {α:Type}{l:List α}{i:Nat}(h:i<l.length):l[i]?=some l[i]:=List.getElem?_eq_getElem h
theorem mC_ {α:Type}{a:α}{l:List α}(b:α)(h:a∈l):a∈b::l:=List.mem_cons_of_mem b h
theorem mS_ {α:Type}{a:α}{l:List α}:a∈a::l:=List.mem_cons_self
theorem lC_ {α:Type}{a:α}{l:List α}:(a::l).length=l.length+1:=rfl
theorem lA_ {α:Type}{a b:List α}:(a++b).length=a.length+b.length:=List.length_append
theorem nT_:(!true)=false:=rfl
theorem nF_:(!false)=true:=rfl
theorem oM_ {α β:Type}{x:Option α}{f:α->β}{b:β}:x.map f=some b<->∃a,x=some a/\f a=b:=Option.map_eq_some_iff
theorem l1_ {α:Type}{a:α}:[a].length=1:=rfl
theorem lM_ {α β:Type}{l:List α}{f:α->β}:(l.map f).length=l.length:=List.length_map f
theorem mA_ {α:Type}{a:α}{s t:List α}:a∈s++t<->a∈s\/a∈t:=List.mem_append
theorem mN_ {α:Type}{a:α}:¬a∈([]:List α):=List.not_mem_nil
theorem m1_ {α:Type}{a b:α}:a∈[b]<->a=b:=List.mem_singleton
end Abs
end Go.Proofs.YtagadjpmkggjdaaGreatDoor
