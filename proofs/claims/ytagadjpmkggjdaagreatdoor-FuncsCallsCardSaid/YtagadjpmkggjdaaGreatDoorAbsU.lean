import Derived.Test.YtagadjpmkggjdaaGreatDoorAbsT
set_option linter.unusedVariables false
set_option linter.unusedSimpArgs false
namespace Go.Proofs.YtagadjpmkggjdaaGreatDoor
namespace Abs
variable {E : World -> Prop} {E0 : Nat} {P : Program} {m : Nat} {T : List TV} {σ : Sto} {K : Ex -> List TV -> Sto -> Prop} {r : List Code}
theorem q8r (ks ids:List Nat) (k:Nat) {T':List TV} {σ':Sto} {c:Code} (h:awpL E E0 P m (c::r) T' σ' K) (hT:q4j ks T=T') (hσ:(killσ ids σ).take k=σ') (hm:m<=k) (hu:T'.all (TV.under k)=true) (hs:σ'.all (q49 k)=true) :
  awpL E E0 P m (c::r) T σ K:=by
 subst hT hσ
 exact qgm ks (L_kill ids (L_take k hm hu hs h))
theorem qgl (N:Nat) (F:Nat->List TV) (S:Nat->Sto) {b:Code} (step:∀i,i<N->awpL E E0 P m (.loop b::r) (F (i+1)) (S (i+1)) K->awpL E E0 P m (b::.loop b::r) (F i) (S i) K)
  (last:awpL E E0 P m (b::.loop b::r) (F N) (S N) K):awpL E E0 P m (.loop b::r) (F 0) (S 0) K:=by
 have key:∀j,j<=N->awpL E E0 P m (.loop b::r) (F (N-j)) (S (N-j)) K:=by
  intro j
  induction j with
  | zero=>intro _;exact q6o last
  | succ j ih =>
   intro hj
   refine q6o (step (N-(j+1)) (by omega) ?_)
   rw[show N-(j+1)+1=N-j by omega]
   exact ih (by omega)
 have:=key N (Nat.le_refl _)
 rwa [Nat.sub_self]at this
theorem qy {n:Int} (h1:-9223372036854775808<=n) (h2:n<=9223372036854775807):IntKind.i64.wrap n=n:=by
 unfold IntKind.wrap
 simp only[IntKind.bits,IntKind.signed]
 by_cases h:n % 2 ^ 64 >= 2 ^ 63
 .simp;omega
 .simp;omega
theorem qgg {i:Nat} (h:i<9223372036854775807):IntKind.i64.wrap ((i:Int)+1)=((i+1:Nat):Int):=by rw[qy (by omega) (by omega)];simp
def qft (i:Nat):List (Nat×AC)->AC
 | []=>.any
 | (j,c)::r=>if i=j then c else qft i r
def qfu:Nat->Nat->List (Nat×AC)->List TV
 | 0,_,_=>[]
 | n+1,i,l=>.one (.cell (qft i l))::qfu n (i+1) l
def slots (n:Nat) (l:List (Nat×AC)):List TV:=qfu n 0 l
attribute [simp] qft qfu slots
end Abs
end Go.Proofs.YtagadjpmkggjdaaGreatDoor
