/-
  The machine's rules for arrays of one's own, cells in other words, loops.
-/
import Derived.Test.YtpidpioifnnllaaGreatDoorAbsM
namespace Go.Proofs.YtpidpioifnnllaaGreatDoor
set_option linter.unusedVariables false
set_option linter.unusedSimpArgs false
namespace Abs
open Go.RowKit
variable {E : World → Prop} {E0 : Nat} {P : Program} {G : Nat → Option (List PV)} {m : Nat} {K : Ex → List TV → Sto → Prop} {s : MS}
section
variable {ρ : Type} {x : ρ} {α : Type} (F : Fl α)
def qcw (P:Program) (G:Nat→Option (List PV)) (D:Bool) (ops:Array Oper) (l:List Oper) (T:List TV) (σ:Sto):Option (Bool×AC×Nat×List PV×Nat×Nat) :=
 match q6v P G ops l T with
 | some (b,c,sz,by_,_)=>match q36 σ c with
  | some (n,cs)=>some (D,b,n,cs,sz,by_)
  | none=>none
 | none=>none
theorem app2 {D D':Bool} {ops:Array Oper} {l:List Oper} {T:List TV} {σ:Sto} {b:AC} {n sz by_:Nat} {cs:List PV} (h:qcw P G D ops l T σ=some (D',b,n,cs,sz,by_)):D'=D∧∃ o c,hd ops l T=some o∧q6v P G ops l T=some (b,c,sz,by_,o.dst)∧q36 σ c=some (n,cs):=by
 unfold qcw at h
 split at h
 ·rename_i b' c sz' by' d hc
  split at h
  ·rename_i n' cs' hs
   simp at h
   obtain ⟨rfl,rfl,rfl,rfl,rfl,rfl⟩:=h
   obtain ⟨o,t,e,z,x,y,h1,h2,_⟩:=qcx (σ:=σ) hc
   subst h2
   exact ⟨rfl,o,c,h1,hc,hs⟩
  ·cases h
 ·cases h
theorem q10 (hb:Base E E0 G) (n id:Nat) (nb:Bool) (fr:Nat) {xs ys:List α} {cs:List PV} (hcs:F.f ys=cs) {by_:Nat} {kk:List α→Option ρ} (hq:(app by_ xs ys).bind kk=some x)
  (k:∀ zs,app by_ xs ys=some zs→kk zs=some x→J E E0 P G m K (mSto (adv P G n s) (c1 (vO F id zs)) ((adv P G n s).σ.set id (some (arO nb F.sz fr (F.f zs))))))
  (hfr:fr≤(F.f xs).length:=by first | exact Nat.zero_le _ | exact Nat.le_refl _)
  (h:mPre (qcw P G) (adv P G n s)=some (false,vO F id xs,ys.length,cs,F.sz,by_):=by kernel_rfl)
  (ho:(adv P G n s).σ[id]?=some (some (arO nb F.sz fr (F.f xs))):=by kernel_rfl):J E E0 P G m K s:=by
 subst hcs
 obtain ⟨y,hy,hk⟩:=Option.bind_eq_some_iff.1 hq
 obtain ⟨D,ops,l,l2,hr,h⟩:=q23 h
 obtain ⟨rfl,o,c,h1,h2,h3⟩:=app2 h
 exact q28 hb n hr h1 (fun R=>qh8 F hy h2 h3 ho hfr) (k y hy hk)
def qkk (P:Program) (G:Nat→Option (List PV)) (_:Bool) (ops:Array Oper) (l:List Oper) (T:List TV) (_:Sto):Option AC :=
 match qb8 P G ops l T with
 | some (c,_)=>some c
 | none=>none
theorem qeo (hb:Base E E0 G) (n id:Nat) (nb:Bool) (fr:Nat) (xs:List α) (k:J E E0 P G m K (mPut (adv P G n s) (c1 (vi (xs.length:Int)))))
  (h:mPre (qkk P G) (adv P G n s)=some (vO F id xs):=by kernel_rfl)
  (ho:(adv P G n s).σ[id]?=some (some (arO nb F.sz fr (F.f xs))):=by kernel_rfl):J E E0 P G m K s:=by
 obtain ⟨D,ops,l,l2,hr,h⟩:=q23 h
 unfold qkk at h
 split at h
 ·rename_i c d hc
  simp at h; subst h
  obtain ⟨o,h1,rfl⟩:∃ o,hd ops l (adv P G n s).T=some o∧d=o.dst:=by
   have h':=hc; unfold qb8 at h'
   obtain ⟨o,ho,h'⟩:=Option.bind_eq_some_iff.1 h'
   refine ⟨o,ho,?_⟩
   split at h'
   ·split at h'
    ·split at h'
     ·simp at h'; exact h'.2.symm
     ·cases h'
    ·cases h'
   ·cases h'
  exact q28 hb n hr h1 (fun R=>qsh F hc ho) k
 ·cases h
def qbj (P:Program) (G:Nat→Option (List PV)) (_:Bool) (ops:Array Oper) (l:List Oper) (T:List TV) (_:Sto):Option (Int×Int×List AC×Nat×Nat) :=
 match q7i P G ops l T with
 | some (n,c,zs,sz,by_,_)=>some (n,c,zs,sz,by_)
 | none=>none
theorem make2 {D:Bool} {ops:Array Oper} {l:List Oper} {T:List TV} {σ:Sto} {n c:Int} {zs:List AC} {sz by_:Nat} (h:qbj P G D ops l T σ=some (n,c,zs,sz,by_)):∃ o,hd ops l T=some o∧q7i P G ops l T=some (n,c,zs,sz,by_,o.dst):=by
 unfold qbj at h
 split at h
 ·rename_i n' c' zs' sz' by' d hc
  simp at h
  obtain ⟨rfl,rfl,rfl,rfl,rfl⟩:=h
  obtain ⟨o,t,e,z,x,y,h1,h2,_⟩:=qf0 (σ:=σ) hc
  subst h2
  exact ⟨o,h1,hc⟩
 ·cases h
theorem mkE (hb:Base E E0 G) (n:Nat) {z:α} {i:Int} {by_:Nat} {kk:List α→Option ρ} (hq:(mkl by_ i z).bind kk=some x)
  (k:∀ zs,mkl by_ i z=some zs→kk zs=some x→J E E0 P G m K (mSto (adv P G n s) (c1 (vO F (adv P G n s).σ.length zs)) ((adv P G n s).σ++[some (arO false F.sz 0 (F.f zs))])))
  (h:mPre (qbj P G) (adv P G n s)=some (i,i,(F.c z).map AC.pv,F.sz,by_):=by kernel_rfl):J E E0 P G m K s:=by
 obtain ⟨y,hy,hk⟩:=Option.bind_eq_some_iff.1 hq
 obtain ⟨D,ops,l,l2,hr,h⟩:=q23 h
 obtain ⟨o,h1,h2⟩:=make2 h
 exact q28 hb n hr h1 (fun R=>mkF F hy h2) (k y hy hk)
theorem mk0E (hb:Base E E0 G) (n:Nat) {i:Int} {by_:Nat} {kk:Unit→Option ρ} (hq:(mkc by_ i).bind kk=some x)
  (k:∀ u,mkc by_ i=some u→kk u=some x→J E E0 P G m K (mSto (adv P G n s) (c1 (vO F (adv P G n s).σ.length [])) ((adv P G n s).σ++[some (arO false F.sz 0 (F.f []))])))
  (h:(mPre (qbj P G) (adv P G n s)).map (fun q=>(q.1,q.2.1,q.2.2.2.1,q.2.2.2.2))=some (0,i,F.sz,by_):=by kernel_rfl):J E E0 P G m K s:=by
 obtain ⟨y,hy,hk⟩:=Option.bind_eq_some_iff.1 hq
 obtain ⟨⟨q1,q2,q3,q4,q5⟩,hA,e⟩:=Option.map_eq_some_iff.1 h
 simp at e; obtain ⟨rfl,rfl,rfl,rfl⟩:=e
 obtain ⟨D,ops,l,l2,hr,hB⟩:=q23 hA
 obtain ⟨o,h1,h2⟩:=make2 hB
 exact q28 hb n hr h1 (fun R=>mk0F F hy h2) (k y hy hk)
def qjt (P:Program) (G:Nat→Option (List PV)) (_:Bool) (ops:Array Oper) (l:List Oper) (T:List TV) (_:Sto):Option (AC×Nat×Int) :=
 match qb1 P G ops l T with
 | some (c,sz,i,_)=>some (c,sz,i)
 | none=>none
theorem q69 (hb:Base E E0 G) (n id:Nat) (nb:Bool) (fr:Nat) {xs:List α} {i:Int} {kk:α→Option ρ} (hq:(idx xs i).bind kk=some x)
  (k:∀ y,idx xs i=some y→kk y=some x→J E E0 P G m K (mPut (adv P G n s) (c1 (.ptr id (F.f xs).length (i.toNat*F.sz)))))
  (h:mPre (qjt P G) (adv P G n s)=some (vO F id xs,F.sz,i):=by kernel_rfl)
  (ho:(adv P G n s).σ[id]?=some (some (arO nb F.sz fr (F.f xs))):=by kernel_rfl):J E E0 P G m K s:=by
 obtain ⟨y,hy,hk⟩:=Option.bind_eq_some_iff.1 hq
 obtain ⟨D,ops,l,l2,hr,h⟩:=q23 h
 unfold qjt at h
 split at h
 ·rename_i c sz i' d hc
  simp at h; obtain ⟨rfl,rfl,rfl⟩:=h
  obtain ⟨o,h1,rfl⟩:∃ o,hd ops l (adv P G n s).T=some o∧d=o.dst:=by
   have h':=hc; unfold qb1 at h'
   obtain ⟨o,ho,h'⟩:=Option.bind_eq_some_iff.1 h'
   refine ⟨o,ho,?_⟩
   split at h'
   ·split at h'
    ·simp at h'; exact h'.2.2.2.symm
    ·cases h'
   ·cases h'
  exact q28 hb n hr h1 (fun R=>qrv F hy hc ho) (k y hy hk)
 ·cases h
def qev (P:Program) (G:Nat→Option (List PV)) (_:Bool) (ops:Array Oper) (l:List Oper) (T:List TV) (_:Sto):Option (AC×Nat×Bool) :=
 match q7f P G ops l T with
 | some (c,n,ag,_)=>some (c,n,ag)
 | none=>none
theorem load2 {D:Bool} {ops:Array Oper} {l:List Oper} {T:List TV} {σ:Sto} {c:AC} {n:Nat} {ag:Bool} (h:qev P G D ops l T σ=some (c,n,ag)):∃ o,hd ops l T=some o∧q7f P G ops l T=some (c,n,ag,o.dst):=by
 unfold qev at h
 split at h
 ·rename_i c' n' ag' d hc
  simp at h; obtain ⟨rfl,rfl,rfl⟩:=h
  have h':=hc; unfold q7f at h'
  obtain ⟨o,ho,h'⟩:=Option.bind_eq_some_iff.1 h'
  refine ⟨o,ho,?_⟩
  split at h'
  ·split at h'
   ·simp at h'; rw[hc,h'.2.2.2]
   ·cases h'
  ·cases h'
 ·cases h
theorem qbc (hb:Base E E0 G) (n id:Nat) (nb:Bool) (fr:Nat) {xs:List α} {i:Int} {y:α} (hx:idx xs i=some y) {p:PV} (hp:F.c y=[p]) (k:J E E0 P G m K (mPut (adv P G n s) (c1 (.pv p))))
  (h:mPre (qev P G) (adv P G n s)=some (.ptr id (F.f xs).length (i.toNat*F.sz),F.sz,false):=by kernel_rfl)
  (ho:(adv P G n s).σ[id]?=some (some (arO nb F.sz fr (F.f xs))):=by kernel_rfl):J E E0 P G m K s:=by
 obtain ⟨D,ops,l,l2,hr,h⟩:=q23 h
 obtain ⟨o,h1,h2⟩:=load2 h
 exact q28 hb n hr h1 (fun R=>qss F hx hp h2 ho) k
def qnl (P:Program) (G:Nat→Option (List PV)) (D:Bool) (ops:Array Oper) (l:List Oper) (T:List TV) (σ:Sto):Option (Bool×AC×Bool×Bool×Option (List PV)×Nat) :=
 match qc3 P G ops l T with
 | some (c,cs,n,_)=>some (D,c,cs.all AC.ok,cs.any AC.owns,frzL σ cs,n)
 | none=>none
theorem qg7 (hb:Base E E0 G) (n id:Nat) {xs:List α} {i:Int} {y:α} (hx:idx xs i=some y) (z:α) (k:J E E0 P G m K (mSto (adv P G n s) qw ((adv P G n s).σ.set id (some (arO false F.sz 0 (F.f (upd xs i z)))))))
  (h:mPre (qnl P G) (adv P G n s)=some (false,.ptr id (F.f xs).length (i.toNat*F.sz),true,false,some (F.c z),F.sz):=by kernel_rfl)
  (ho:(adv P G n s).σ[id]?=some (some (arO false F.sz 0 (F.f xs))):=by kernel_rfl):J E E0 P G m K s:=by
 obtain ⟨D,ops,l,l2,hr,h⟩:=q23 h
 unfold qnl at h
 split at h
 ·rename_i c cs n' d hc
  simp only[Option.some.injEq,Prod.mk.injEq]at h
  obtain ⟨rfl,rfl,h3,h4,h5,rfl⟩:=h
  obtain ⟨o,h1,rfl⟩:∃ o,hd ops l (adv P G n s).T=some o∧d=o.dst:=by
   have h':=hc; unfold qc3 at h'
   obtain ⟨o,ho,h'⟩:=Option.bind_eq_some_iff.1 h'
   refine ⟨o,ho,?_⟩
   split at h'
   ·split at h'
    ·simp only[Option.some.injEq,Prod.mk.injEq]at h'; exact h'.2.2.2.symm
    ·cases h'
   ·cases h'
  exact q28 hb n hr h1 (fun R=>qw7 F hx hc ho h3 h4 h5) k
 ·cases h
def qhn (P:Program) (G:Nat→Option (List PV)) (D:Bool) (ops:Array Oper) (l:List Oper) (T:List TV) (σ:Sto):Option (Bool×List PV×Nat×Nat) :=
 match hd ops l T with
 | some o=>match qda P (evT G T) σ o.op with
  | some (ps,sz,len)=>some (D,ps,sz,len)
  | none=>none
 | none=>none
theorem q4m (hb:Base E E0 G) (n:Nat) {ys:List α} (k:J E E0 P G m K (mSto (adv P G n s) (c1 (vO F (adv P G n s).σ.length ys)) ((adv P G n s).σ++[some (arO false F.sz 0 (F.f ys))])))
  (h:mPre (qhn P G) (adv P G n s)=some (false,F.f ys,F.sz,ys.length):=by kernel_rfl):J E E0 P G m K s:=by
 obtain ⟨D,ops,l,l2,hr,h⟩:=q23 h
 unfold qhn at h
 split at h
 ·rename_i o ho
  split at h
  ·rename_i ps sz len hB
   simp only[Option.some.injEq,Prod.mk.injEq]at h
   obtain ⟨rfl,rfl,rfl,rfl⟩:=h
   refine q28 hb n hr ho (fun R kq=>?_) k
   obtain ⟨r,rfl,hw⟩:=q4u ho
   show asq E E0 P G ops (o::r) _ _ R
   unfold asq
   rw[hw]
   exact .inr (.inr ⟨_,_,_,hB,kq⟩)
  ·cases h
 ·cases h
end
section
variable {ρ : Type} {β : Type} {e : Option β} {kk : β → Option ρ} {x : ρ}
def q66 (P:Program) (G:Nat→Option (List PV)) (D:Bool) (ops:Array Oper) (l:List Oper) (T:List TV) (_:Sto):Option (Bool×FuncId×List AV) :=
 match q3j P G ops l T with
 | some (g,ws,_)=>some (D,g,ws)
 | none=>none
theorem qak {D D':Bool} {ops:Array Oper} {l:List Oper} {T:List TV} {σ:Sto} {g:FuncId} {ws:List AV} (h:q66 P G D ops l T σ=some (D',g,ws)):D'=D∧∃ o,hd ops l T=some o∧q3j P G ops l T=some (g,ws,o.dst):=by
 unfold q66 at h
 split at h
 ·rename_i g' ws' d hc
  simp at h; obtain ⟨rfl,rfl,rfl⟩:=h
  refine ⟨rfl,?_⟩
  have h':=hc; unfold q3j at h'
  obtain ⟨o,ho,h'⟩:=Option.bind_eq_some_iff.1 h'
  refine ⟨o,ho,?_⟩
  split at h'
  ·split at h'
   ·rename_i g0 caps vs h1 h2
    cases hb:enters P g0 with
    | false=>rw[hb]at h'; cases h'
    | true=>rw[hb]at h'; simp at h'; rw[hc,h'.2.2]
   ·cases h'
  ·cases h'
 ·cases h
theorem callME (hb:Base E E0 G) (n:Nat) {g:FuncId} {vs ws:List AV} {enc:β→TV} (hq:e.bind kk=some x) (hf:q17 (adv P G n s).σ vs=some ws) (hm:q1o (adv P G n s).σ vs=(adv P G n s).σ) (hp:∀ y,e=some y→Pure E E0 P g ws (enc y)) (k:∀ y,e=some y→kk y=some x→J E E0 P G m K (mPut (adv P G n s) (enc y)))
  (h:mPre (q66 P G) (adv P G n s)=some (false,g,vs):=by kernel_rfl):J E E0 P G m K s:=by
 obtain ⟨y,hy,hk⟩:=Option.bind_eq_some_iff.1 hq
 obtain ⟨D,ops,l,l2,hr,h⟩:=q23 h
 obtain ⟨rfl,o,h1,h2⟩:=qak h
 exact q28 hb n hr h1 (fun R=>callMF h2 hf hm (hp y hy)) (k y hy hk)
end
def q47 (t:MS):Bool :=
 match t.reg with
 | none=>match t.c with | []=>false | _::_=>true
 | some _=>false
theorem q6p (hb:Base E E0 G) (n:Nat) {T':List TV} {σ':Sto} (hk:q47 (adv P G n s)=true) (f:∀ d r,awpL E E0 P m (d::r) T' σ' (KJ E E0 P m K (adv P G n s).ctx)→awpL E E0 P m (d::r) (adv P G n s).T (adv P G n s).σ (KJ E E0 P m K (adv P G n s).ctx))
  (k:J E E0 P G m K ⟨none,(adv P G n s).c,(adv P G n s).ctx,T',σ'⟩):J E E0 P G m K s:=by
 refine q2q hb n ?_
 generalize adv P G n s=t at *
 obtain ⟨reg,c,ctx,T,σ⟩:=t
 unfold q47 at hk
 split at hk
 ·rename_i e; simp only at e; subst e
  split at hk
  ·cases hk
  ·rename_i d r e; simp only at e; subst e
   exact f d r k
 ·cases hk
def mFrm (t:MS) (T':List TV) (σ':Sto):MS:=⟨none,t.c,t.ctx,T',σ'⟩
theorem q3k (hb:Base E E0 G) (n i:Nat) {c c':AC} (hc:Conv E E0 (adv P G n s).σ c c') (k:J E E0 P G m K (mFrm (adv P G n s) ((adv P G n s).T.set i (c1 c')) (adv P G n s).σ))
  (hi:(adv P G n s).T[i]?=some (c1 c):=by kernel_rfl) (hk:q47 (adv P G n s)=true:=by kernel_rfl):J E E0 P G m K s :=
 q6p hb n hk (fun d r h=>qok i hi hc h) k
theorem q3w (hb:Base E E0 G) (n b j:Nat) {cs:List AC} {c c':AC} (hc:Conv E E0 (adv P G n s).σ c c') (hs:(adv P G n s).σ[b]?=some (some (.box cs))) (k:J E E0 P G m K (mFrm (adv P G n s) (adv P G n s).T ((adv P G n s).σ.set b (some (.box (cs.set j c'))))))
  (hj:cs[j]?=some c:=by kernel_rfl) (hk:q47 (adv P G n s)=true:=by kernel_rfl):J E E0 P G m K s :=
 q6p hb n hk (fun d r h=>qol b j hs hj hc h) k
theorem q2g (hb:Base E E0 G) (n id:Nat) (nb:Bool) {sz fr:Nat} {cs:List PV} (ho:(adv P G n s).σ[id]?=some (some (arO nb sz fr cs))) (hfr:fr≤cs.length) (k:J E E0 P G m K (mFrm (adv P G n s) (adv P G n s).T ((adv P G n s).σ.set id (some (arO nb sz cs.length cs)))))
  (hk:q47 (adv P G n s)=true:=by kernel_rfl):J E E0 P G m K s :=
 q6p hb n hk (fun d r h=>L_mark id ho hfr h) k
theorem ownTE (hb:Base E E0 G) (n i sz:Nat) (k:J E E0 P G m K (mFrm (adv P G n s) ((adv P G n s).T.set i (c1 (.own (adv P G n s).σ.length 0 0 0))) ((adv P G n s).σ++[some (.nilarr sz)])))
  (hi:(adv P G n s).T[i]?=some (c1 vN):=by kernel_rfl) (hk:q47 (adv P G n s)=true:=by kernel_rfl):J E E0 P G m K s :=
 q6p hb n hk (fun d r h=>L_ownT i sz hi rfl rfl h) k
theorem q7n (hb:Base E E0 G) (n b j sz:Nat) {cs:List AC} (hs:(adv P G n s).σ[b]?=some (some (.box cs))) (k:J E E0 P G m K (mFrm (adv P G n s) (adv P G n s).T ((adv P G n s).σ.set b (some (.box (cs.set j (.own (adv P G n s).σ.length 0 0 0))))++[some (.nilarr sz)])))
  (hj:cs[j]?=some vN:=by kernel_rfl) (hk:q47 (adv P G n s)=true:=by kernel_rfl):J E E0 P G m K s :=
 q6p hb n hk (fun d r h=>L_ownσ b j sz hs hj rfl h) k
theorem L_frz (i id:Nat) {T:List TV} {σ:Sto} {r:List Code} {ps:List PV} {c:Code} (hT:T[i]?=some (c1 (.ptr id 0 0))) (hσ:σ[id]?=some (some (.box (ps.map .pv)))) (h2c:(AObj.box (ps.map .pv)).two=false) (h:awpL E E0 P m (c::r) (T.set i (c1 (.pv (.pp ps)))) (killσ [id] σ) K):awpL E E0 P m (c::r) T σ K:=by
 intro X w a h1 h2 h3 h4 h5
 subst h1
 have:=h { X with σ:=killσ [id] X.σ } w a rfl (by simp[killσ]; exact h2) h3 (qkd [id] h4) ⟨by simp[h5.len],fun j t u e1 e2=>?_,h5.defers⟩
 ·exact wp_mono this fun _ _ _ k=>q5q (qkc h2) k
 ·rw[List.getElem?_set]at e1
  split at e1
  ·rename_i hij; subst hij
   split at e1
   ·simp at e1; subst e1
    have hp:q2e X id 0 0 u:=h5.rep i _ u hT e2
    have hlv:live X.σ id 0=some (.box (ps.map .pv)):=by unfold live; rw[hσ]; rfl
    obtain ⟨q1,q2,l,hl,hu⟩:=q5r hp hlv
    subst hu
    show PRep _ w (.pp ps) _
    unfold PRep
    refine ⟨l.1,0,rfl,qh.of_get fun j c hc=>?_⟩
    obtain ⟨u,hu1,hu2⟩:=q7m h4 hσ q1 hl j (.pv c) (by simp[AObj.cells,hc])
    refine ⟨u,hu1,.inr ⟨?_,?_,fun id' ob l' e hp' hl' hb=>?_⟩,PRep.mono (fun b o k=>⟨qen X [id] k,rfl⟩) hu2⟩
    ·obtain ⟨l0,hl0,hB,_⟩:=h4.ob id _ hσ q1 rfl
     rw[hl]at hl0
     obtain rfl:l=l0:=by simpa using hl0
     exact hB.resolve_right fun q=>by rw[h2c]at q; cases q.1
    ·have:=q2w h4 hσ q1 hl
     rw[← h4.hs]at this; exact this
    ·exfalso
     have e':=q7c e
     have:=h4.inj id' id ob _ l' l e' hσ hp' q1 hl' hl hb
     subst this
     simp[killσ]at e
   ·cases e1
  ·exact qke (h5.rep j t u e1 e2)
theorem frzE (hb:Base E E0 G) (n i id:Nat) {ps:List PV} (hσ:(adv P G n s).σ[id]?=some (some (.box (ps.map .pv)))) (k:J E E0 P G m K (mFrm (adv P G n s) ((adv P G n s).T.set i (c1 (.pv (.pp ps)))) (q92 [id] (adv P G n s).σ)))
  (h2c:(AObj.box (ps.map .pv)).two=false:=by kernel_rfl) (hT:(adv P G n s).T[i]?=some (c1 (.ptr id 0 0)):=by kernel_rfl) (hk:q47 (adv P G n s)=true:=by kernel_rfl):J E E0 P G m K s :=
 q6p hb n hk (fun d r h=>L_frz i id hT hσ h2c (by rw[qka]at h; exact h)) k
def cutS (ks ids:List Nat) (k:Nat) (t:MS):List TV×Sto:=(q78 ks t.T,(q92 ids t.σ).take k)
def q8y (t:MS):Bool :=
 match t.reg with
 | none=>match t.c with | .loop _::_=>true | _=>false
 | some _=>false
def hedS {S:Type} (t:MS) (FT:S→List TV) (FS:S→Sto) (a:S):MS:=⟨none,t.c,t.ctx,FT a,FS a⟩
def unl (t:MS):MS :=
 match t.c with
 | .loop b::r=>⟨t.reg,b::.loop b::r,t.ctx,t.T,t.σ⟩
 | _=>t
theorem qex {t:MS} (h:q8y t=true):∃ b r,t=⟨none,.loop b::r,t.ctx,t.T,t.σ⟩:=by
 obtain ⟨reg,c,ctx,T,σ⟩:=t
 unfold q8y at h
 split at h
 ·rename_i e; simp only at e; subst e
  split at h
  ·rename_i b r e; simp only at e; subst e; exact ⟨b,r,rfl⟩
  ·cases h
 ·cases h
theorem q15 (hb:Base E E0 G) (n:Nat) {S O:Type} (body:S→Option (S⊕O)) (FT:S→List TV) (FS:S→Sto) (ks ids:List Nat) (k:Nat) {s0:S} {o:O} (hs:q88 k (FS s0)) (hq:qf body s0=some o)
  (step:∀ (a:S) (x:S⊕O),body a=some x→(∀ a',x=.inl a'→J E E0 P G m K (hedS (adv P G n s) FT FS a'))→(∀ q,x=.inr q→q=o)→J E E0 P G m K (unl (hedS (adv P G n s) FT FS a)))
  (h:cutS ks ids k (adv P G n s)=(FT s0,FS s0):=by kernel_rfl) (hm:Nat.ble m k=true:=by kernel_rfl) (hu:(FT s0).all (TV.under k)=true:=by kernel_rfl) (hl:q8y (adv P G n s)=true:=by kernel_rfl):J E E0 P G m K s:=by
 refine q2q hb n ?_
 generalize adv P G n s=t at *
 obtain ⟨b,r,e⟩:=qex hl
 obtain ⟨reg,c,ctx,T,σ⟩:=t
 simp only[MS.mk.injEq]at e
 obtain ⟨rfl,rfl,_⟩:=e
 simp only[cutS,Prod.mk.injEq]at h
 exact qgs ks ids k h.1 h.2 (Nat.le_of_ble_eq_true hm) hu hs (qoo (E:=E) (E0:=E0) (P:=P) (m:=m) (K:=KJ E E0 P m K ctx) (r:=r) (b:=b) body FT FS (fun a x hq hn he=>step a x hq hn he) hq)
theorem qk (hb:Base E E0 G) (n:Nat) (ks ids:List Nat) (k:Nat) {S:Type} {t0:MS} {FT:S→List TV} {FS:S→Sto} {a:S} (hn:J E E0 P G m K (hedS t0 FT FS a)) (hs:q88 k (FS a))
  (h:cutS ks ids k (adv P G n s)=(FT a,FS a):=by kernel_rfl) (hc:((adv P G n s).c,(adv P G n s).ctx)=(t0.c,t0.ctx):=by kernel_rfl) (hm:Nat.ble m k=true:=by kernel_rfl) (hu:(FT a).all (TV.under k)=true:=by kernel_rfl) (hl:q8y (adv P G n s)=true:=by kernel_rfl):J E E0 P G m K s:=by
 refine q2q hb n ?_
 generalize adv P G n s=t at *
 obtain ⟨b,r,e⟩:=qex hl
 obtain ⟨reg,c,ctx,T,σ⟩:=t
 simp only[MS.mk.injEq]at e
 obtain ⟨rfl,rfl,_⟩:=e
 simp only[cutS,Prod.mk.injEq]at h hc
 obtain ⟨c1',c2'⟩:=hc
 unfold hedS at hn
 rw[← c1',← c2']at hn
 exact qgs ks ids k h.1 h.2 (Nat.le_of_ble_eq_true hm) hu hs hn
def drawn (P:Program) (t:MS) (n1:Nat) (fl:List Nat):Bool :=
 match t.reg with
 | none=>match t.c with
  | .region _ ops true::_=>Nat.ble n1 ops.toList.length && q5b fl ops.toList n1
  | _=>false
 | some _=>false
def qbf (t:MS) (n1:Nat) (fl:List Nat):MS :=
 match t.c with
 | .region _ ops _::r=>⟨some (true,ops,ops.toList.take n1,ops.toList.drop n1,fl),r,t.ctx,t.T,t.σ⟩
 | _=>t
theorem qv (hb:Base E E0 G) (hmix:P.follows .mixedOrders=true) (n n1:Nat) (fl:List Nat) (k:J E E0 P G m K (qbf (adv P G n s) n1 fl)) (h:drawn P (adv P G n s) n1 fl=true:=by kernel_rfl):J E E0 P G m K s:=by
 refine q2q hb n ?_
 generalize adv P G n s=t at *
 obtain ⟨reg,c,ctx,T,σ⟩:=t
 unfold drawn at h
 split at h
 ·rename_i e; simp only at e; subst e
  split at h
  ·rename_i i ops r e; simp only at e; subst e
   simp only[Bool.and_eq_true]at h
   have:=qom (m:=m) (r:=r) (T:=T) (σ:=σ) (K:=KJ E E0 P m K ctx) (id:=i) (ops:=ops.toList) hb hmix fl n1 (Nat.le_of_ble_eq_true h.1) h.2 (fun R hR hD=>by
    rw[Array.toArray_toList]
    refine q8e (k R hR hD) fun T1 σ1 q=>⟨qr5 (by rw[Array.toArray_toList]; exact q.1),q.2⟩)
   rw[Array.toArray_toList]at this
   exact this
  ·cases h
 ·cases h
def pick:Code→List Nat→Code
 | c,[]=>c
 | .seq a b,i::p=>match i with | 0=>pick a p | _=>pick b p
 | .block _ c,_::p=>pick c p
 | .loop c,_::p=>pick c p
 | .cond _ a b,i::p=>match i with | 0=>pick a p | _=>pick b p
 | c,_=>c
def bodyOf (fn:Func):Code:=match fn.body with | some c=>c | none=>.skip
def pth:Nat→Nat→List Nat→List Nat
 | 0,_,l=>l
 | f+1,n,l=>if Nat.ble n 1 then l else pth f (n / 2) (n % 2::l)
def pk (fn:Func) (n:Nat):Code:=pick (bodyOf fn) (pth 500 n [])
def cutM (ks:List Nat) (t:MS):MS:=⟨t.reg,t.c,t.ctx,q78 ks t.T,t.σ⟩
theorem cpE (hb:Base E E0 G) (n:Nat) (ks:List Nat) {s':MS} (k:J E E0 P G m K s') (h:cutM ks (adv P G n s)=s':=by kernel_rfl) (hk:q47 (adv P G n s)=true:=by kernel_rfl):J E E0 P G m K s:=by
 subst h
 refine q2q hb n ?_
 generalize adv P G n s=t at *
 obtain ⟨reg,c,ctx,T,σ⟩:=t
 unfold q47 at hk
 split at hk
 ·rename_i e; simp only at e; subst e
  split at hk
  ·cases hk
  ·rename_i d r e; simp only at e; subst e
   exact qon ks rfl k
 ·cases hk
theorem q2t (hb:Base E E0 G) {Z ρ:Type} (cont:Z→Option ρ) (st:Z→MS) {x:ρ} (h:∀ z,cont z=some x→J E E0 P G m K (st z)) (k:(∀ z,cont z=some x→J E E0 P G m K (st z))→J E E0 P G m K s):J E E0 P G m K s:=k h
def Fl.of {α:Type} (c:α→List PV) (sz:Nat) (pos:0 < sz) (len:∀ x,(c x).length=sz):Fl α where
 c:=c
 f:=fun l=>(l.map c).flatten
 sz:=sz
 pos:=pos
 len:=len
 nil:=rfl
 cons _ _:=rfl
section
variable {α : Type} (F : Fl α)
theorem Fl.four (x y z u:α):F.f [x,y,z,u]=F.c x++(F.c y++(F.c z++F.c u)):=by rw[F.cons,F.three]
theorem Fl.five (x y z u v:α):F.f [x,y,z,u,v]=F.c x++(F.c y++(F.c z++(F.c u++F.c v))):=by rw[F.cons,F.four]
theorem Fl.six (x y z u v w:α):F.f [x,y,z,u,v,w]=F.c x++(F.c y++(F.c z++(F.c u++(F.c v++F.c w)))):=by rw[F.cons,F.five]
theorem qws (x y z u:α):vL F [x,y,z,u]=.pv (.sl false 4 (F.c x++(F.c y++(F.c z++F.c u)))):=by simp[pL,F.four]
theorem qwr (x y z u v:α):vL F [x,y,z,u,v]=.pv (.sl false 5 (F.c x++(F.c y++(F.c z++(F.c u++F.c v))))):=by simp[pL,F.five]
theorem vL_six (x y z u v w:α):vL F [x,y,z,u,v,w]=.pv (.sl false 6 (F.c x++(F.c y++(F.c z++(F.c u++(F.c v++F.c w)))))):=by simp[pL,F.six]
end
end Abs
end Go.Proofs.YtpidpioifnnllaaGreatDoor
