/-
  The machine's rules for maps of one's own.
-/
import Derived.Test.YtpidpioifnnllaaGreatDoorAbsN
import Derived.Test.YtpidpioifnnllaaGreatDoorFlA
namespace Go.Proofs.YtpidpioifnnllaaGreatDoor
set_option linter.unusedVariables false
set_option linter.unusedSimpArgs false
namespace Abs
open Go.RowKit
section
variable {α : Type} (F : Fl α)
def encM (xs:List (ByteArray×α)):List (ByteArray×List PV):=xs.map fun p=>(p.1,F.c p.2)
theorem qiq (xs:List (ByteArray×α)) (s:ByteArray):mget (encM F xs) s=(mget xs s).map F.c:=by
 induction xs with
 | nil=>rfl
 | cons p r ih =>
  obtain ⟨k,v⟩:=p
  show mget ((k,F.c v)::encM F r) s=_
  unfold mget
  split
  ·rfl
  ·exact ih
theorem qqn (xs:List (ByteArray×α)) (s:ByteArray) (y:α):mput (encM F xs) s (F.c y)=encM F (mput xs s y):=by
 induction xs with
 | nil=>rfl
 | cons p r ih =>
  obtain ⟨k,v⟩:=p
  show mput ((k,F.c v)::encM F r) s (F.c y)=_
  unfold mput
  split
  ·rfl
  ·rw[ih]; rfl
def q94 (ag ok:Bool) (y:α) (b:Bool):TV :=
 match ag with
 | true=>bif ok then .tup [.agg ((F.c y).map .pv),.cell (vB b)] else .one (.agg ((F.c y).map .pv))
 | false=>match F.c y with
  | [p]=>bif ok then .tup [.cell (.pv p),.cell (vB b)] else .one (.cell (.pv p))
  | _=>qw
end
def agv (v:AV):Bool:=match v with | .agg _=>true | .cell _=>false
def qbd (P:Program) (G:Nat→Option (List PV)) (ops:Array Oper) (l:List Oper) (T:List TV):Option (Nat×ByteArray×Bool×Bool×List PV×Option Tmp) :=
 (hd ops l T).bind fun o=>match o.op with
 | .lookup t m k ok=>match mapT? P t,q11 (evT G T m),scalar (evT G T k) with
  | some e,some (.mapr id),some (.string s)=>match zero? P e with
   | some z=>(frzL [] z.cells).map fun zs=>(id,s,agv z,ok,zs,o.dst)
   | none=>none
  | _,_,_=>none
 | _=>none
def qbm (P:Program) (G:Nat→Option (List PV)) (ops:Array Oper) (l:List Oper) (T:List TV) (σ:Sto):Option (Nat×ByteArray×Bool×Bool×List PV×Option Tmp) :=
 (hd ops l T).bind fun o=>match o.op with
 | .mapUpdate t m k x=>match mapT? P t,q11 (evT G T m),scalar (evT G T k),avOf (evT G T x) with
  | some _,some (.mapr id),some (.string s),some v=>(frzL σ v.cells).map fun ps=>(id,s,agv v,v.cells.any AC.owns,ps,o.dst)
  | _,_,_,_=>none
 | _=>none
section
variable {E : World → Prop} {E0 : Nat} {P : Program} {G : Nat → Option (List PV)} {m : Nat} {T T' : List TV} {σ σ' : Sto} {K : Ex → List TV → Sto → Prop} {r : List Code}
variable {α : Type} (F : Fl α) {D : Bool} {ops : Array Oper} {l : List Oper} {R : List TV → Sto → Prop}
theorem lookF {id:Nat} {ag ok:Bool} {xs:List (ByteArray×α)} {s:ByteArray} {z:α} {d:Option Tmp} (h:qbd P G ops l T=some (id,s,ag,ok,F.c z,d)) (ho:σ[id]?=some (some (.mp ag (encM F xs)))) (h1:ag=false→F.sz=1)
  (k:asqX D E E0 P G ops l.tail (putT T d (q94 F ag ok (q2j xs s z) (mhas xs s))) σ R):asqX D E E0 P G ops l T σ R:=by
 unfold qbd at h
 obtain ⟨o,ho',h⟩:=Option.bind_eq_some_iff.1 h
 split at h
 ·rename_i t m' k' ok' e
  split at h
  ·rename_i e' id' s' q1 q2 q3
   split at h
   ·rename_i z' q4
    obtain ⟨zs,q5,h⟩:=Option.map_eq_some_iff.1 h
    simp only[Prod.mk.injEq]at h
    obtain ⟨rfl,rfl,hag,rfl,hz,rfl⟩:=h
    subst hz
    refine q49 ho' (v:=q94 F ag ok' (q2j xs s' z) (mhas xs s')) ?_ k
    rw[e]
    have g1:q2j (encM F xs) s' (F.c z)=F.c (q2j xs s' z):=by
     unfold q2j
     rw[qiq]
     cases mget xs s' <;> rfl
    have g2:mhas (encM F xs) s'=mhas xs s':=by
     unfold mhas
     rw[qiq]
     cases mget xs s' <;> rfl
    simp only[aop,q1,q2,q3,ho,q4,q5,Option.bind_some,g1,g2]
    cases z' with
    | agg cs =>
     simp only[agv]at hag; subst hag
     simp only[mval,q94]
     cases ok' <;> rfl
    | cell c =>
     simp only[agv]at hag; subst hag
     have hl:=F.len (q2j xs s' z)
     rw[h1 rfl]at hl
     match hc:F.c (q2j xs s' z),hl with
     | [p],_ =>
      simp only[mval,q94,hc]
      cases ok' <;> rfl
   ·cases h
  ·cases h
 ·cases h
theorem mputF {id:Nat} {ag:Bool} {xs:List (ByteArray×α)} {s:ByteArray} {y:α} {d:Option Tmp} (h:qbm P G ops l T σ=some (id,s,ag,false,F.c y,d)) (ho:σ[id]?=some (some (.mp ag (encM F xs))))
  (k:asqX false E E0 P G ops l.tail (putT T d qw) (σ.set id (some (.mp ag (encM F (mput xs s y))))) R):asqX false E E0 P G ops l T σ R:=by
 unfold qbm at h
 obtain ⟨o,ho',h⟩:=Option.bind_eq_some_iff.1 h
 split at h
 ·rename_i t m' k' x' e
  split at h
  ·rename_i e' id' s' v q1 q2 q3 q4
   obtain ⟨ps,q5,h⟩:=Option.map_eq_some_iff.1 h
   simp only[Prod.mk.injEq]at h
   obtain ⟨rfl,rfl,hag,how,hz,rfl⟩:=h
   subst hz
   rw[← qqn]at k
   refine qb0 ho' ?_ k
   rw[e]
   simp only[aop,q1,q2,q3,q4,ho,q5]
   cases v with
   | agg cs=>simp only[agv]at hag; subst hag; simp only[how,if_true]
   | cell c=>simp only[agv]at hag; subst hag; simp only[how,if_true]
  ·cases h
 ·cases h
end
variable {E : World → Prop} {E0 : Nat} {P : Program} {G : Nat → Option (List PV)} {m : Nat} {K : Ex → List TV → Sto → Prop} {s : MS}
section
variable {α : Type} (F : Fl α)
def ql1 (P:Program) (G:Nat→Option (List PV)) (_:Bool) (ops:Array Oper) (l:List Oper) (T:List TV) (_:Sto):Option (Nat×ByteArray×Bool×Bool×List PV) :=
 match qbd P G ops l T with
 | some (a,b,c,d,e,_)=>some (a,b,c,d,e)
 | none=>none
def qlk (P:Program) (G:Nat→Option (List PV)) (D:Bool) (ops:Array Oper) (l:List Oper) (T:List TV) (σ:Sto):Option (Bool×Nat×ByteArray×Bool×Bool×List PV) :=
 match qbm P G ops l T σ with
 | some (a,b,c,d,e,_)=>some (D,a,b,c,d,e)
 | none=>none
theorem lookE (hb:Base E E0 G) (n id:Nat) (ag ok:Bool) (xs:List (ByteArray×α)) (k0:ByteArray) (z:α) (k:J E E0 P G m K (mPut (adv P G n s) (q94 F ag ok (q2j xs k0 z) (mhas xs k0))))
  (h:mPre (ql1 P G) (adv P G n s)=some (id,k0,ag,ok,F.c z):=by kernel_rfl) (ho:(adv P G n s).σ[id]?=some (some (.mp ag (encM F xs))):=by kernel_rfl) (h1:ag=false→F.sz=1:=by first | exact fun _=>rfl | exact fun h=>(by cases h)):J E E0 P G m K s:=by
 obtain ⟨D,ops,l,l2,hr,h⟩:=q23 h
 unfold ql1 at h
 split at h
 ·rename_i a b c d e f hc
  simp only[Option.some.injEq,Prod.mk.injEq]at h
  obtain ⟨rfl,rfl,rfl,rfl,rfl⟩:=h
  obtain ⟨o,g1,rfl⟩:∃ o,hd ops l (adv P G n s).T=some o∧f=o.dst:=by
   have h':=hc; unfold qbd at h'
   obtain ⟨o,ho,h'⟩:=Option.bind_eq_some_iff.1 h'
   refine ⟨o,ho,?_⟩
   split at h'
   ·split at h'
    ·split at h'
     ·obtain ⟨zs,_,h'⟩:=Option.map_eq_some_iff.1 h'
      simp only[Prod.mk.injEq]at h'
      exact h'.2.2.2.2.2.symm
     ·cases h'
    ·cases h'
   ·cases h'
  exact q28 hb n hr g1 (fun R=>lookF F hc ho h1) k
 ·cases h
theorem mputE (hb:Base E E0 G) (n id:Nat) (ag:Bool) (xs:List (ByteArray×α)) (k0:ByteArray) (y:α) (k:J E E0 P G m K (mSto (adv P G n s) qw ((adv P G n s).σ.set id (some (.mp ag (encM F (mput xs k0 y)))))))
  (h:mPre (qlk P G) (adv P G n s)=some (false,id,k0,ag,false,F.c y):=by kernel_rfl) (ho:(adv P G n s).σ[id]?=some (some (.mp ag (encM F xs))):=by kernel_rfl):J E E0 P G m K s:=by
 obtain ⟨D,ops,l,l2,hr,h⟩:=q23 h
 unfold qlk at h
 split at h
 ·rename_i a b c d e f hc
  simp only[Option.some.injEq,Prod.mk.injEq]at h
  obtain ⟨rfl,rfl,rfl,rfl,rfl,rfl⟩:=h
  obtain ⟨o,g1,rfl⟩:∃ o,hd ops l (adv P G n s).T=some o∧f=o.dst:=by
   have h':=hc; unfold qbm at h'
   obtain ⟨o,ho,h'⟩:=Option.bind_eq_some_iff.1 h'
   refine ⟨o,ho,?_⟩
   split at h'
   ·split at h'
    ·obtain ⟨zs,_,h'⟩:=Option.map_eq_some_iff.1 h'
     simp only[Prod.mk.injEq]at h'
     exact h'.2.2.2.2.2.symm
    ·cases h'
   ·cases h'
  exact q28 hb n hr g1 (fun R=>mputF F hc ho) k
 ·cases h
end
def bstr (xs:List Int):Option ByteArray:=if ∀ x ∈ xs,0≤x∧x < 256 then some ⟨(xs.map fun x=>UInt8.ofNat x.toNat).toArray⟩ else none
def bsPre (P:Program) (G:Nat→Option (List PV)) (ops:Array Oper) (l:List Oper) (T:List TV):Option (AC×Option Tmp) :=
 (hd ops l T).bind fun o=>match o.op with
 | .convert src dst x=>match scalar (evT G T x),P.underlying src,P.underlying dst,q11 (evT G T x) with
  | none,some (.slice e),some .string,some c=>match P.underlying e with
   | some (.int .u8)=>some (c,o.dst)
   | _=>none
  | _,_,_,_=>none
 | _=>none
def qde (P:Program) (G:Nat→Option (List PV)) (_:Bool) (ops:Array Oper) (l:List Oper) (T:List TV) (_:Sto):Option AC :=
 match bsPre P G ops l T with
 | some (a,_)=>some a
 | none=>none
theorem qps {xs:List Int} {s:ByteArray} (h:bstr xs=some s):(∀ x ∈ xs,0≤x∧x < 256)∧s=⟨(xs.map fun x=>UInt8.ofNat x.toNat).toArray⟩:=by
 unfold bstr at h
 split at h
 ·rename_i hx; exact ⟨hx,(Option.some.inj h).symm⟩
 ·cases h
theorem qhq:∀ {xs:List Int},(∀ x ∈ xs,0≤x∧x < 256)→q59 (xs.map (pI .u8))=some (xs.map fun x=>UInt8.ofNat x.toNat)
 | [],_=>rfl
 | x::r,h=>by
  have h0:=h x (by simp)
  have ih:=qhq (xs:=r) fun y hy=>h y (by simp[hy])
  show (if 0≤x∧x < 256 then (q59 (r.map (pI .u8))).map fun l=>UInt8.ofNat x.toNat::l else none)=_
  rw[if_pos h0,ih]; rfl
section
variable {ρ : Type} {x : ρ}
theorem qpr (hb:Base E E0 G) (n:Nat) {xs:List Int} {c0:AC} {kk:ByteArray→Option ρ} (hq:(bstr xs).bind kk=some x)
  (k:∀ y,bstr xs=some y→kk y=some x→J E E0 P G m K (mPut (adv P G n s) (c1 (vS y))))
  (h:mPre (qde P G) (adv P G n s)=some c0) (hso:q36 (adv P G n s).σ c0=some (xs.length,xs.map (pI .u8))):J E E0 P G m K s:=by
 obtain ⟨y,hy,hk⟩:=Option.bind_eq_some_iff.1 hq
 obtain ⟨hx,rfl⟩:=qps hy
 obtain ⟨D,ops,l,l2,hr,h⟩:=q23 h
 unfold qde at h
 split at h
 ·rename_i a f hc
  simp only[Option.some.injEq]at h
  subst h
  unfold bsPre at hc
  obtain ⟨o,ho,h'⟩:=Option.bind_eq_some_iff.1 hc
  split at h'
  ·rename_i src dst x' e
   split at h'
   ·rename_i e' c q1 q2 q3 q4
    split at h'
    ·rename_i q5
     simp only[Option.some.injEq,Prod.mk.injEq]at h'
     obtain ⟨rfl,rfl⟩:=h'
     refine q28 hb n hr ho (fun R=>fun kq=>q49 ho (v:=c1 (vS ⟨(xs.map fun x=>UInt8.ofNat x.toNat).toArray⟩)) ?_ kq) (k _ hy hk)
     rw[e]
     simp only[aop,q1,qa5,q2,q3,q4,q5,hso,List.length_map,if_true,qhq hx,Option.map_some]
     rfl
    ·cases h'
   ·cases h'
  ·cases h'
 ·cases h
theorem q71 (hb:Base E E0 G) (n:Nat) {xs:List Int} {cs:List PV} (hcs:(flI .u8).f xs=cs) {kk:ByteArray→Option ρ} (hq:(bstr xs).bind kk=some x)
  (k:∀ y,bstr xs=some y→kk y=some x→J E E0 P G m K (mPut (adv P G n s) (c1 (vS y))))
  (h:mPre (qde P G) (adv P G n s)=some (.pv (.sl true xs.length cs)):=by kernel_rfl):J E E0 P G m K s:=qpr hb n hq k h (by subst hcs; rfl)
end
end Abs
end Go.Proofs.YtpidpioifnnllaaGreatDoor
