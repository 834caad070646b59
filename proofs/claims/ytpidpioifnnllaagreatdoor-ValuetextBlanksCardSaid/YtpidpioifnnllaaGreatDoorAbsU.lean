/-
  Rules for loops.
-/
import Derived.Test.YtpidpioifnnllaaGreatDoorAbsT
set_option linter.unusedVariables false
set_option linter.unusedSimpArgs false
namespace Go.Proofs.YtpidpioifnnllaaGreatDoor
namespace Abs
variable {E : World → Prop} {E0 : Nat} {P : Program} {m : Nat} {T : List TV} {σ : Sto} {K : Ex → List TV → Sto → Prop} {r : List Code}
theorem L_back (ks ids:List Nat) (k:Nat) {T':List TV} {σ':Sto} {c:Code} (h:awpL E E0 P m (c::r) T' σ' K) (hT:q5i ks T=T') (hσ:(killσ ids σ).take k=σ') (hm:m≤k) (hu:T'.all (TV.under k)=true) (hs:σ'.all (q4x k)=true) :
  awpL E E0 P m (c::r) T σ K:=by
 subst hT hσ
 exact qgt ks (L_kill ids (L_take k hm hu hs h))
theorem q13 {n:Int} (h1:-9223372036854775808≤n) (h2:n≤9223372036854775807):IntKind.i64.wrap n=n:=by
 unfold IntKind.wrap
 simp only[IntKind.bits,IntKind.signed]
 by_cases h:n % 2 ^ 64 ≥ 2 ^ 63
 ·simp; omega
 ·simp; omega
theorem qxc {i:Nat} (h:i < 9223372036854775807):IntKind.i64.wrap ((i:Int)+1)=((i+1:Nat):Int):=by rw[q13 (by omega) (by omega)]; simp
def qg2 (i:Nat):List (Nat×AC)→AC
 | []=>.any
 | (j,c)::r=>if i=j then c else qg2 i r
def qg3:Nat→Nat→List (Nat×AC)→List TV
 | 0,_,_=>[]
 | n+1,i,l=>.one (.cell (qg2 i l))::qg3 n (i+1) l
def slots (n:Nat) (l:List (Nat×AC)):List TV:=qg3 n 0 l
attribute [simp] qg2 qg3 slots
end Abs
end Go.Proofs.YtpidpioifnnllaaGreatDoor
