/-
  A machine that goes through a function's code as far as it goes without a choice; the rules for what it meets on the way: choices, calls, elements, arrays of one's own, loops, ends.
-/
import Derived.Test.YtpidpioifnnllaaGreatDoorAbsY
namespace Go.Proofs.YtpidpioifnnllaaGreatDoor
set_option linter.unusedVariables false
set_option linter.unusedSimpArgs false
namespace Abs
open Go.RowKit
structure MS where
 reg:Option (Bool×Array Oper×List Oper×List Oper×List Nat)
 c:List Code
 ctx:List (Nat×List Code)
 T:List TV
 σ:Sto
section
variable (E : World → Prop) (E0 : Nat) (P : Program) (G : Nat → Option (List PV)) (m : Nat) (K : Ex → List TV → Sto → Prop)
def KJ:List (Nat×List Code)→Ex→List TV→Sto→Prop
 | []=>K
 | (id,r)::x=>fun ex T σ=>match ex with
  | .normal=>awpL E E0 P m r T σ (KJ x)
  | .exit i=>if i=id then awpL E E0 P m r T σ (KJ x) else KJ x (.exit i) T σ
  | .ret=>KJ x .ret T σ
  | .pan v=>KJ x (.pan v) T σ
def RJ (D:Bool) (ops:Array Oper) (l2:List Oper×List Nat) (R:List TV→Sto→Prop):List TV→Sto→Prop :=
 match D with
 | false=>R
 | true=>fun T σ=>qaw P G l2.2 ops T=true∧asqX false E E0 P G ops l2.1 T σ R
def J (s:MS):Prop :=
 match s.reg with
 | none=>awpL E E0 P m s.c s.T s.σ (KJ E E0 P m K s.ctx)
 | some (D,ops,l,l2)=>∀ R:List TV→Sto→Prop,(∀ T' σ',(∀ v,T'≠[.dead v])→awpL E E0 P m s.c T' σ' (KJ E E0 P m K s.ctx)→R T' σ')→(∀ v,(∀ T' σ',KJ E E0 P m K s.ctx (.pan v) T' σ')→R [.dead v] [])→asqX D E E0 P G ops l s.T s.σ (RJ E E0 P G D ops l2 R)
end
def qbr (i:Nat):List (Nat×List Code)→Option (List Code×List (Nat×List Code))
 | []=>none
 | (id,r)::x=>bif Nat.beq i id then some (r,x) else qbr i x
section
variable (P : Program) (G : Nat → Option (List PV))
def st1 (s:MS):Option MS :=
 match s.reg with
 | some (D,ops,[],l2)=>match D with
  | true=>bif qaw P G l2.2 ops s.T then some { s with reg:=some (false,ops,l2.1,[],[]) } else none
  | false=>bif qf9 s.T then some { s with reg:=none } else none
 | some (D,ops,o::r,l2)=>match asqF D P G ops [o] s.T s.σ with
  | some q=>some ⟨some (D,ops,r,l2),s.c,s.ctx,q.1,q.2⟩
  | none=>none
 | none=>match s.c with
  | []=>match s.ctx with
   | []=>none
   | q::x=>some { s with c:=q.2,ctx:=x }
  | .seq a b::r=>some { s with c:=a::b::r }
  | .skip::r=>some { s with c:=r }
  | .block id c::r=>some { s with c:=[c],ctx:=(id,r)::s.ctx }
  | .exit i::_=>match qbr i s.ctx with
   | some q=>some { s with c:=q.1,ctx:=q.2 }
   | none=>none
  | .cond x a b::r=>match evT G s.T x with
   | .one (.cell (.pv (.sc (.bool t))))=>some { s with c:=(bif t then a else b)::r }
   | _=>none
  | .region _ ops false::r=>some { s with reg:=some (false,ops,ops.toList,[],[]),c:=r }
  | _=>none
noncomputable def adv (n:Nat):MS→MS :=
 Nat.rec (fun s=>s) (fun _ ih s=>match st1 P G s with | some s'=>ih s' | none=>s) n
end
variable {E : World → Prop} {E0 : Nat} {P : Program} {G : Nat → Option (List PV)} {m : Nat} {K : Ex → List TV → Sto → Prop} {s : MS}
theorem qmb {i:Nat}:∀ {x:List (Nat×List Code)} {q:List Code×List (Nat×List Code)} {T:List TV} {σ:Sto},qbr i x=some q→awpL E E0 P m q.1 T σ (KJ E E0 P m K q.2)→KJ E E0 P m K x (.exit i) T σ
 | [],q,T,σ,h,k=>by cases h
 | (id,r)::x,q,T,σ,h,k=>by
  unfold qbr at h
  show if i=id then _ else _
  by_cases e:i=id
  ·subst e
   rw[show Nat.beq i i=true from Nat.beq_refl i]at h
   simp at h; subst h
   rw[if_pos rfl]; exact k
  ·rw[if_neg e]
   have hb:Nat.beq i id=false:=by
    cases hb:Nat.beq i id with
    | false=>rfl
    | true=>exact absurd (Nat.eq_of_beq_eq_true hb) e
   rw[hb]at h
   exact qmb h k
theorem st1_ok (hb:Base E E0 G) {s':MS} (h:st1 P G s=some s') (k:J E E0 P G m K s'):J E E0 P G m K s:=by
 obtain ⟨reg,c,ctx,T,σ⟩:=s
 unfold st1 at h
 split at h
 ·rename_i D ops l2 e
  simp only at e; subst e
  split at h
  ·cases hf:qaw P G l2.2 ops T with
   | false=>simp only[hf]at h; cases h
   | true =>
    simp only[hf,cond_true,Option.some.injEq]at h; subst h
    intro R hR hD
    exact qd0 ⟨hf,k R hR hD⟩
  ·cases hf:qf9 T with
   | false=>simp only[hf]at h; cases h
   | true =>
    simp only[hf,cond_true,Option.some.injEq]at h; subst h
    intro R hR hD
    exact qd0 (hR _ _ (qte hf) k)
 ·rename_i D ops o r l2 e
  simp only at e; subst e
  split at h
  ·rename_i q hq
   simp at h; subst h
   intro R hR hD
   exact q6w (l:=[o]) hq (k R hR hD)
  ·cases h
 ·rename_i e
  simp only at e; subst e
  split at h
  ·rename_i e; simp only at e; subst e
   split at h
   ·cases h
   ·rename_i q x e; simp only at e; subst e
    simp at h; subst h
    exact q9z (E:=E) (E0:=E0) (P:=P) (m:=m) (K:=KJ E E0 P m K (q::x)) k
  ·rename_i a b r e; simp only at e; subst e
   simp at h; subst h
   exact qa0 k
  ·rename_i r e; simp only at e; subst e
   simp at h; subst h
   exact qa1 k
  ·rename_i id c r e; simp only at e; subst e
   simp at h; subst h
   refine qhc ?_
   refine qac (show awp E E0 P m c T σ _ from k) fun ex T' σ' q=>by
    cases ex with
    | normal=>exact q
    | exit i =>
     show if i=id then _ else _
     have q':if i=id then awpL E E0 P m r T' σ' (KJ E E0 P m K ctx) else KJ E E0 P m K ctx (.exit i) T' σ':=q
     exact q'
    | ret=>exact q
    | pan v=>exact q
  ·rename_i i r e; simp only at e; subst e
   split at h
   ·rename_i q hq
    simp at h; subst h
    exact q9y (qmb hq k)
   ·cases h
  ·rename_i x a b r e; simp only at e; subst e
   split at h
   ·rename_i t ht
    simp at h; subst h
    exact qck hb t ht (by cases t <;> exact k)
   ·cases h
  ·rename_i i ops r e; simp only at e; subst e
   simp at h; subst h
   exact qhd hb (k _ (fun T' σ' q k=>q87 (K:=fun ex T' σ'=>match ex with | .normal=>awpL E E0 P m r T' σ' (KJ E E0 P m K ctx) | ex=>KJ E E0 P m K ctx ex T' σ') k fun v e=>q v e) fun v k=>k)
  ·cases h
theorem q2q (hb:Base E E0 G):∀ (n:Nat) {s:MS},J E E0 P G m K (adv P G n s)→J E E0 P G m K s
 | 0,s,h=>h
 | n+1,s,h=>by
  have e:adv P G (n+1) s=match st1 P G s with | some s'=>adv P G n s' | none=>s:=rfl
  rw[e]at h
  split at h
  ·rename_i s' hs
   exact st1_ok hb hs (q2q hb n h)
  ·exact h
def mPre {β:Type} (f:Bool→Array Oper→List Oper→List TV→Sto→Option β) (s:MS):Option β :=
 match s.reg with
 | some (D,ops,l,_)=>f D ops l s.T s.σ
 | none=>none
def dstOf (s:MS):Option Tmp :=
 match s.reg with
 | some (_,_,o::_,_)=>o.dst
 | _=>none
def tailR (s:MS):Option (Bool×Array Oper×List Oper×List Oper×List Nat) :=
 match s.reg with
 | some (D,ops,l,l2)=>some (D,ops,l.tail,l2)
 | none=>none
def mPut (s:MS) (v:TV):MS:=⟨tailR s,s.c,s.ctx,putT s.T (dstOf s) v,s.σ⟩
def mSto (s:MS) (v:TV) (σ':Sto):MS:=⟨tailR s,s.c,s.ctx,putT s.T (dstOf s) v,σ'⟩
theorem q23 {β:Type} {f:Bool→Array Oper→List Oper→List TV→Sto→Option β} {x:β} (h:mPre f s=some x):∃ D ops l l2,s.reg=some (D,ops,l,l2)∧f D ops l s.T s.σ=some x:=by
 unfold mPre at h
 split at h
 ·rename_i D ops l l2 e; exact ⟨D,ops,l,l2,e,h⟩
 ·cases h
theorem hd_dst {ops:Array Oper} {l:List Oper} {T:List TV} {o:Oper} (h:hd ops l T=some o):∃ r,l=o::r:=by
 obtain ⟨r,e,_⟩:=q4u h; exact ⟨r,e⟩
theorem q28 (hb:Base E E0 G) (n:Nat) {D:Bool} {ops:Array Oper} {l:List Oper} {l2:List Oper×List Nat} {o:Oper} {v:TV} {σ':Sto} (hr:(adv P G n s).reg=some (D,ops,l,l2)) (ho:hd ops l (adv P G n s).T=some o)
  (rule:∀ R,asqX D E E0 P G ops l.tail (putT (adv P G n s).T o.dst v) σ' R→asqX D E E0 P G ops l (adv P G n s).T (adv P G n s).σ R) (k:J E E0 P G m K (mSto (adv P G n s) v σ')):J E E0 P G m K s:=by
 refine q2q hb n ?_
 obtain ⟨r,el⟩:=hd_dst ho
 generalize adv P G n s=t at *
 obtain ⟨reg,c,ctx,T,σ⟩:=t
 simp only at hr; subst hr; subst el
 intro R hR hD
 exact rule _ (k R hR hD)
def qhv (P:Program) (G:Nat→Option (List PV)) (_:Bool) (ops:Array Oper) (l:List Oper) (T:List TV) (σ:Sto):Option (FuncId×List AV) :=
 match q8i P G ops l T σ with
 | some (g,ws,_)=>some (g,ws)
 | none=>none
theorem qrn {ops:Array Oper} {l:List Oper} {T:List TV} {σ:Sto} {g:FuncId} {ws:List AV} {d:Option Tmp} (h:q8i P G ops l T σ=some (g,ws,d)):∃ o,hd ops l T=some o∧d=o.dst:=by
 unfold q8i at h
 simp only[Option.bind_eq_some_iff]at h
 obtain ⟨o,ho,h⟩:=h
 refine ⟨o,ho,?_⟩
 split at h
 ·split at h
  ·rename_i g' vs h1 h2
   cases hb:(enters P g' && !vs.any AV.owns) with
   | false=>rw[hb]at h; cases h
   | true =>
    rw[hb]at h
    simp only[cond_true,Option.map_eq_some_iff]at h
    obtain ⟨ws',h3,h4⟩:=h
    simp at h4
    exact h4.2.2.symm
  ·cases h
 ·cases h
section
variable {ρ : Type} {β : Type} {e : Option β} {kk : β → Option ρ} {x : ρ}
theorem q8 (hb:Base E E0 G) (n:Nat) {g:FuncId} {ws:List AV} {enc:β→TV} (hq:e.bind kk=some x) (hp:∀ y,e=some y→Pure E E0 P g ws (enc y)) (k:∀ y,e=some y→kk y=some x→J E E0 P G m K (mPut (adv P G n s) (enc y)))
  (h:mPre (qhv P G) (adv P G n s)=some (g,ws):=by kernel_rfl):J E E0 P G m K s:=by
 obtain ⟨y,hy,hk⟩:=Option.bind_eq_some_iff.1 hq
 obtain ⟨D,ops,l,l2,hr,h⟩:=q23 h
 unfold qhv at h
 split at h
 ·rename_i g' ws' d hc
  simp at h
  obtain ⟨rfl,rfl⟩:=h
  obtain ⟨o,ho,rfl⟩:=qrn hc
  exact q28 hb n hr ho (fun R=>callF hc (hp y hy)) (k y hy hk)
 ·cases h
theorem idxE (hb:Base E E0 G) {α:Type} (F:Fl α) (n:Nat) {xs:List α} {i:Int} {kk:α→Option ρ} (hq:(idx xs i).bind kk=some x)
  (k:∀ y,idx xs i=some y→kk y=some x→J E E0 P G m K (mPut (adv P G n s) (c1 (.pv (.pp (F.c y++F.f (xs.drop (i.toNat+1))))))))
  (h:mPre (fun _ ops l T _=>(qb2 P G ops l T).map fun q=>(q.1,q.2.1,q.2.2.1,q.2.2.2.1)) (adv P G n s)=some (xs.length,F.f xs,F.sz,i):=by kernel_rfl):J E E0 P G m K s:=by
 obtain ⟨y,hy,hk⟩:=Option.bind_eq_some_iff.1 hq
 obtain ⟨D,ops,l,l2,hr,h⟩:=q23 h
 obtain ⟨⟨q1,q2,q3,q4,d⟩,hA,e⟩:=Option.map_eq_some_iff.1 h
 simp at e; obtain ⟨rfl,rfl,rfl,rfl⟩:=e
 obtain ⟨o,ho,rfl⟩:∃ o,hd ops l (adv P G n s).T=some o∧d=o.dst:=by
  have h':=hA; unfold qb2 at h'
  obtain ⟨o,ho,h'⟩:=Option.bind_eq_some_iff.1 h'
  refine ⟨o,ho,?_⟩
  split at h'
  ·split at h'
   ·simp at h'; exact h'.2.2.2.2.symm
   ·cases h'
  ·cases h'
 exact q28 hb n hr ho (fun R=>idxF F hy hA) (k y hy hk)
theorem qp (hb:Base E E0 G) (n:Nat) {t:ByteArray} {i:Int} {kk:Int→Option ρ} (hq:(sidx t i).bind kk=some x)
  (k:∀ y,sidx t i=some y→kk y=some x→J E E0 P G m K (mPut (adv P G n s) (c1 (vI .u8 y))))
  (h:mPre (fun _ ops l T _=>(qbx P G ops l T).map fun q=>(q.1,q.2.1)) (adv P G n s)=some (t,i):=by kernel_rfl):J E E0 P G m K s:=by
 obtain ⟨y,hy,hk⟩:=Option.bind_eq_some_iff.1 hq
 obtain ⟨D,ops,l,l2,hr,h⟩:=q23 h
 obtain ⟨⟨q1,q2,d⟩,hA,e⟩:=Option.map_eq_some_iff.1 h
 simp at e; obtain ⟨rfl,rfl⟩:=e
 obtain ⟨o,ho,rfl⟩:∃ o,hd ops l (adv P G n s).T=some o∧d=o.dst:=by
  have h':=hA; unfold qbx at h'
  obtain ⟨o,ho,h'⟩:=Option.bind_eq_some_iff.1 h'
  refine ⟨o,ho,?_⟩
  split at h'
  ·split at h'
   ·rename_i s0 iv _ _
    cases hs:q4b P _ with
    | false=>rw[hs]at h'; cases h'
    | true=>rw[hs]at h'; simp at h'; exact h'.2.2.symm
   ·cases h'
  ·cases h'
 exact q28 hb n hr ho (fun R=>sidxF hy hA) (k y hy hk)
theorem q2d (hb:Base E E0 G) (n:Nat) {t:ByteArray} {a b:Int} {kk:ByteArray→Option ρ} (hq:(sslc t a b).bind kk=some x)
  (k:∀ y,sslc t a b=some y→kk y=some x→J E E0 P G m K (mPut (adv P G n s) (c1 (vS y))))
  (h:mPre (fun _ ops l T _=>(qc1 P G ops l T).map fun q=>(q.1,q.2.1,q.2.2.1)) (adv P G n s)=some (t,a,b):=by kernel_rfl):J E E0 P G m K s:=by
 obtain ⟨y,hy,hk⟩:=Option.bind_eq_some_iff.1 hq
 obtain ⟨D,ops,l,l2,hr,h⟩:=q23 h
 obtain ⟨⟨q1,q2,q3,d⟩,hA,e⟩:=Option.map_eq_some_iff.1 h
 simp at e; obtain ⟨rfl,rfl,rfl⟩:=e
 obtain ⟨o,ho,rfl⟩:∃ o,hd ops l (adv P G n s).T=some o∧d=o.dst:=by
  have h':=hA; unfold qc1 at h'
  obtain ⟨o,ho,h'⟩:=Option.bind_eq_some_iff.1 h'
  refine ⟨o,ho,?_⟩
  split at h'
  ·split at h'
   ·cases hs:q4b P _ with
    | false=>rw[hs]at h'; cases h'
    | true =>
     rw[hs]at h'; simp only[cond_true]at h'
     split at h'
     ·simp at h'; exact h'.2.2.2.symm
     ·cases h'
   ·cases h'
  ·cases h'
 exact q28 hb n hr ho (fun R=>sslcF hy hA) (k y hy hk)
theorem qpm {op:BinOp} {ops:Array Oper} {l:List Oper} {T:List TV} {a b:Value} {d:Option Tmp} (h:q65 op P G ops l T=some (a,b,d)):∃ o,hd ops l T=some o∧d=o.dst:=by
 unfold q65 at h
 obtain ⟨o,ho,h⟩:=Option.bind_eq_some_iff.1 h
 refine ⟨o,ho,?_⟩
 split at h
 ·split at h
  ·split at h
   ·simp at h; exact h.2.2.symm
   ·cases h
  ·cases h
 ·cases h
def qd4 (op:BinOp) (P:Program) (G:Nat→Option (List PV)) (_:Bool) (ops:Array Oper) (l:List Oper) (T:List TV) (_:Sto):Option (Value×Value) :=
 match q65 op P G ops l T with
 | some (a,b,_)=>some (a,b)
 | none=>none
theorem bin2 {op:BinOp} {D:Bool} {ops:Array Oper} {l:List Oper} {T:List TV} {σ:Sto} {a b:Value} (h:qd4 op P G D ops l T σ=some (a,b)):∃ o,hd ops l T=some o∧q65 op P G ops l T=some (a,b,o.dst):=by
 unfold qd4 at h
 split at h
 ·rename_i a' b' d hc
  simp at h
  obtain ⟨rfl,rfl⟩:=h
  obtain ⟨o,ho,rfl⟩:=qpm hc
  exact ⟨o,ho,hc⟩
 ·cases h
theorem catE (hb:Base E E0 G) (n:Nat) {a b:ByteArray} {kk:ByteArray→Option ρ} (hq:(cat a b).bind kk=some x) (k:∀ y,cat a b=some y→kk y=some x→J E E0 P G m K (mPut (adv P G n s) (c1 (vS y))))
  (h:mPre (qd4 .add P G) (adv P G n s)=some (.string a,.string b):=by kernel_rfl):J E E0 P G m K s:=by
 obtain ⟨y,hy,hk⟩:=Option.bind_eq_some_iff.1 hq
 obtain ⟨D,ops,l,l2,hr,h⟩:=q23 h
 obtain ⟨o,ho,h⟩:=bin2 h
 exact q28 hb n hr ho (fun R=>catF hy h) (k y hy hk)
end
def q9l (v:Bool):List Nat→List TV→List TV
 | [],T=>T
 | j::r,T=>q9l v r (T.set j (c1 (vB v)))
def q5l (v:Bool) (js ks:List Nat) (s:MS):MS:=⟨s.reg,s.c,s.ctx,q9l v js (q9l (!v) ks s.T),s.σ⟩
def seeB (T:List TV):List Nat→List (Option TV)
 | []=>[]
 | j::r=>T[j]?::seeB T r
theorem qfx {v:Bool}:∀ {js:List Nat} {T:List TV},(∀ j ∈ js,T[j]?=some (c1 (vB v)))→q9l v js T=T
 | [],T,_=>rfl
 | j::r,T,h=>by
  have hj:T.set j (c1 (vB v))=T:=by
   apply List.ext_getElem?
   intro i
   rw[List.getElem?_set]
   split
   ·rename_i e; subst e
    have:=h j (by simp)
    rw[this]
    have hlt:j < T.length:=by
     rcases Nat.lt_or_ge j T.length with q | q
     ·exact q
     ·rw[List.getElem?_eq_none q]at this; cases this
    rw[if_pos hlt]
   ·rfl
  unfold q9l
  rw[hj]
  exact qfx fun i hi=>h i (by simp[hi])
theorem qfw {T:List TV} {v:TV}:∀ {js:List Nat},seeB T js=js.map (fun _=>some v)→∀ j ∈ js,T[j]?=some v
 | [],_,j,hj=>by cases hj
 | i::r,h,j,hj=>by
  simp only[seeB,List.map_cons,List.cons.injEq]at h
  rcases List.mem_cons.1 hj with rfl | hj
  ·exact h.1
  ·exact qfw h.2 j hj
theorem qez {v:Bool} {js ks:List Nat} (h:(seeB s.T js,seeB s.T ks)=(js.map fun _=>some (c1 (vB v)),ks.map fun _=>some (c1 (vB (!v))))):q5l v js ks s=s:=by
 simp only[Prod.mk.injEq]at h
 unfold q5l
 rw[qfx (js:=ks) (qfw h.2),qfx (qfw h.1)]
theorem ifE (hb:Base E E0 G) {ρ:Type} (n:Nat) (js ks:List Nat) {b:Bool} {X Y z:Option ρ} (hq:cond b X Y=z) (k1:X=z→b=true→J E E0 P G m K (q5l true js ks (adv P G n s))) (k2:Y=z→b=false→J E E0 P G m K (q5l false js ks (adv P G n s)))
  (h:(seeB (adv P G n s).T js,seeB (adv P G n s).T ks)=(js.map fun _=>some (c1 (vB b)),ks.map fun _=>some (c1 (vB (!b)))):=by kernel_rfl):J E E0 P G m K s:=by
 refine q2q hb n ?_
 cases b with
 | true=>have:=k1 hq rfl; rwa [qez h]at this
 | false=>have:=k2 hq rfl; rwa [qez h]at this
theorem knE (hb:Base E E0 G) (n:Nat) (js ks:List Nat) {b v:Bool} (hc:b=v) (k:J E E0 P G m K (q5l v js ks (adv P G n s)))
  (h:(seeB (adv P G n s).T js,seeB (adv P G n s).T ks)=(js.map fun _=>some (c1 (vB b)),ks.map fun _=>some (c1 (vB (!b)))):=by kernel_rfl):J E E0 P G m K s:=by
 refine q2q hb n ?_
 subst hc
 rwa [qez h]at k
theorem injO {α:Type} {a b:α} (h:some a=some b):b=a:=(Option.some.inj h).symm
def ended (c:List Code) (ctx:List (Nat×List Code)):Bool :=
 match c with
 | .ret::_=>true
 | []=>match ctx with | []=>true | _::_=>false
 | _=>false
def KE (P:Program) (fn:Func) {ρ:Type} (enc:ρ→TV) (r:ρ):Ex→List TV→Sto→Prop:=Ends P fn fun r' σ1=>frzT σ1 r'=some (enc r)
def KO (P:Program) (fn:Func) {ρ:Type} (enc:ρ→TV) (r:ρ) (σ':Sto):Ex→List TV→Sto→Prop:=Ends P fn fun r' σ1=>r'=enc r∧σ1=σ'
theorem q9x {T:List TV} {σ:Sto}:∀ {x:List (Nat×List Code)},K .ret T σ→KJ E E0 P m K x .ret T σ
 | [],h=>h
 | (id,r)::x,h=>q9x (x:=x) h
theorem q9w {v:Value} (h:∀ T σ,K (.pan v) T σ):∀ (x:List (Nat×List Code)) (T:List TV) (σ:Sto),KJ E E0 P m K x (.pan v) T σ
 | [],T,σ=>h T σ
 | (_,_)::x,T,σ=>q9w h x T σ
def qn0 (P:Program) (fn:Func) (s:MS):Option TV :=
 match s.reg with
 | none=>bif ended s.c s.ctx then (q4e P s.T s.σ fn.results.toList).bind (frzT s.σ) else none
 | some _=>none
theorem retE (hb:Base E E0 G) (n:Nat) {fn:Func} {ρ:Type} {enc:ρ→TV} {r x:ρ} (hq:x=r) (h:qn0 P fn (adv P G n s)=some (enc x):=by kernel_rfl):J E E0 P G m (KE P fn enc r) s:=by
 refine q2q hb n ?_
 subst hq
 generalize adv P G n s=t at *
 obtain ⟨reg,c,ctx,T,σ⟩:=t
 unfold qn0 at h
 split at h
 ·rename_i e; simp only at e; subst e
  cases he:ended c ctx with
  | false=>rw[he]at h; cases h
  | true =>
   rw[he]at h
   simp only[cond_true]at h
   obtain ⟨r',h1,h2⟩:=Option.bind_eq_some_iff.1 h
   unfold ended at he
   split at he
   ·exact q6q (q9x ⟨r',h1,h2⟩)
   ·split at he
    ·exact (show KE P fn enc x .normal T σ from ⟨r',h1,h2⟩)
    ·cases he
   ·cases he
 ·cases h
theorem fnE (hb:Base E E0 G) {f:FuncId} {fn:Func} {c:Code} {args:List AV} {ρ:Type} {enc:ρ→TV} {e:Option ρ} (hf:P.funcs[f]?=some fn) (hc:fn.body=some c)
  (h:∀ r,e=some r→J E E0 P G 0 (KE P fn enc r) ⟨none,[c],[],q3o args fn.ntmps,[]⟩):∀ r,e=some r→Pure E E0 P f args (enc r):=fun r hq=>qfq hf hc (h r hq)
abbrev pt (id:Nat):TV:=c1 (.ptr id 0 0)
abbrev bx (cs:List AC):Option AObj:=some (.box cs)
end Abs
end Go.Proofs.YtpidpioifnnllaaGreatDoor
