import Derived.Test.YtagadjpmkggjdaaGreatDoorAbsN
import Derived.Test.YtagadjpmkggjdaaGreatDoorAbsS
namespace Go.Proofs.YtagadjpmkggjdaaGreatDoor
set_option linter.unusedSimpArgs false
set_option linter.unusedVariables false
namespace Abs
open Go.RowKit
section
variable {E : World -> Prop} {E0 : Nat} {P : Program} {G : Nat -> Option (List PV)} {m : Nat} {T T' : List TV} {σ σ' : Sto} {K : Ex -> List TV -> Sto -> Prop} {r : List Code}
theorem len_of {α β:Type} {a:List α} {b:List β} (h:decide ((a.length:Int)=(b.length:Int))=true):a.length=b.length:=by
 have:=of_decide_eq_true h
 omega
end
section
variable {E : World -> Prop} {E0 : Nat} {P : Program} {G : Nat -> Option (List PV)} {m : Nat} {K : Ex -> List TV -> Sto -> Prop} {s : MS} {α ρ : Type} {x : ρ}
def qig (P:Program) (fn:Func) (t:MS):Option (TV×Sto) :=
 match t.reg with
 | none=>match t.c with
  | []=>match t.ctx with
   | []=>match q6l P t.T t.σ fn.results.toList with
    | some v=>some (v,t.σ)
    | none=>none
   | _::_=>none
  | _::_=>none
 | some _=>none
theorem qif (hb:Base E E0 G) (n:Nat) {fn:Func} {enc:ρ->TV} {σ1:ρ->Sto} {r x:ρ} (hq:x=r) (h:qig P fn (adv P G n s)=some (enc x,σ1 x):=by kernel_rfl):J E E0 P G m (KO P fn enc r (σ1 r)) s:=by
 refine q3z hb n ?_
 subst hq
 generalize adv P G n s=t at *
 obtain ⟨reg,c,ctx,T,σ⟩:=t
 unfold qig at h
 split at h
 .rename_i e;simp only at e;subst e
  split at h
  .rename_i e;simp only at e;subst e
   split at h
   .rename_i e;simp only at e;subst e
    split at h
    .rename_i v hv
     simp only[Option.some.injEq,Prod.mk.injEq]at h
     exact (show KO P fn enc x (σ1 x) .normal T σ from ⟨v,hv,h.1,h.2⟩)
    .cases h
   .cases h
  .cases h
 .cases h
theorem peelE (hb:Base E E0 G) (n:Nat) (k:J E E0 P G m K (unl (adv P G n s))) (hl:q9e (adv P G n s)=true:=by kernel_rfl):J E E0 P G m K s:=by
 refine q3z hb n ?_
 generalize adv P G n s=t at *
 obtain ⟨b,r,e⟩:=qek hl
 obtain ⟨reg,c,ctx,T,σ⟩:=t
 simp only[MS.mk.injEq]at e
 obtain ⟨rfl,rfl,_⟩:=e
 exact q6o k
theorem qso (hb:Base E E0 G) (F:Fl α) (n id:Nat) (nb:Bool) (fr:Nat) {xs ys:List α} {i:Int} {kk:α->Option ρ} (hv:ys.length=xs.length) (hq:(idx ys i).bind kk=some x)
  (k:∀y,idx ys i=some y->kk y=some x->J E E0 P G m K (mPut (adv P G n s) (c1 (.ptr id (F.f ys).length (i.toNat*F.sz)))))
  (h:mPre (qe3 P G) (adv P G n s)=some (vO F id xs,F.sz,i):=by kernel_rfl)
  (ho:(adv P G n s).σ[id]?=some (some (arO nb F.sz fr (F.f ys))):=by kernel_rfl):J E E0 P G m K s :=
 q6b F hb n id nb fr hq k (h.trans (by rw[q7b F hv])) ho
theorem chkE {c:Bool} {e:Option ρ} (hq:(bif c then e else none)=some x) (k:c=true->e=some x->J E E0 P G m K s):J E E0 P G m K s:=by
 cases c with
 | true=>exact k rfl hq
 | false=>cases hq
end
end Abs
end Go.Proofs.YtagadjpmkggjdaaGreatDoor
