/-
  Each operation of the evaluator is what the model does: maps of one's own, keys strings.
-/
import Derived.Test.YtpidpioifnnllaaGreatDoorAbsH
import Derived.MapKept
import Derived.MapFrom
import Derived.Carry
set_option linter.unusedVariables false
set_option linter.unusedSimpArgs false
namespace Go.Proofs.YtpidpioifnnllaaGreatDoor
namespace Abs
open Go.RowKit
variable {E : World → Prop} {E0 : Nat} {P : Program} {X : Cx} {w : World} {ρ : Operand → TV} {ev : Operand → Value}
theorem qf2 {t e:TypeId} (h:mapT? P t=some e):∃ k,P.underlying t=some (.map k e)∧P.underlying k=some .string:=by
 unfold mapT? at h
 split at h
 ·rename_i k e' hu
  split at h
  ·rename_i hk
   simp at h; subst h
   exact ⟨k,hu,hk⟩
  ·cases h
 ·cases h
theorem beqB (a b:ByteArray):(a == b)=decide (a=b):=by
 rw[Bool.eq_iff_iff,decide_eq_true_iff]
 obtain ⟨x⟩:=a
 obtain ⟨y⟩:=b
 constructor
 ·intro h
  have h':(x == y)=true:=h
  rw[eq_of_beq h']
 ·intro h
  have h':x=y:=congrArg ByteArray.data h
  subst h'
  exact (beq_self_eq_true x:(x == x)=true)
theorem qdx {β:Type} {R:(ByteArray×β)→MapEntry→Prop} (hR:∀ c e,R c e→e.key=.string c.1) (s:ByteArray):∀ {es:List (ByteArray×β)} {arr:List MapEntry} (i:Nat),All2 R es arr →
  (mget es s=none∧Instr.findNow .string (.string s) arr i=some none∧∀ v,mput es s v=es++[(s,v)]) ∨
  ∃ j v e,mget es s=some v∧Instr.findNow .string (.string s) arr i=some (some (i+j,e.val))∧arr[j]?=some e∧es[j]?=some (s,v)∧R (s,v) e∧∀ v',mput es s v'=es.set j (s,v')
 | [],[],i,_=>.inl ⟨rfl,rfl,fun _=>rfl⟩
 | (k,u)::es,x::arr,i,h=>by
  have hk:=hR _ _ h.1
  simp only at hk
  by_cases hs:s=k
  ·subst hs
   refine .inr ⟨0,u,x,by simp[mget],?_,rfl,rfl,h.1,fun v'=>by simp[mput]⟩
   unfold Instr.findNow
   rw[hk]
   simp[Instr.sameNow,beqB]
  ·rcases qdx hR s (i+1) h.2 with ⟨h1,h2,h3⟩ | ⟨j,v,e,h1,h2,h3,h4,h5,h6⟩
   ·refine .inl ⟨by simp[mget,hs,h1],?_,fun v=>by simp[mput,hs,h3]⟩
    unfold Instr.findNow
    rw[hk]
    simp[Instr.sameNow,beqB,hs,h2]
   ·refine .inr ⟨j+1,v,e,by simp[mget,hs,h1],?_,by simpa using h3,by simpa using h4,h5,fun v'=>by simp[mput,hs,h6]⟩
    unfold Instr.findNow
    rw[hk]
    simp[Instr.sameNow,beqB,hs,h2]
    omega
 | [],_::_,_,h=>h.elim
 | _::_,[],_,h=>h.elim
theorem ql7 (hi:Inv E E0 X w) {id:Nat} {u:Value} (h:q5y X id u) {ag:Bool} {es:List (ByteArray×List PV)} (ho:X.σ[id]?=some (some (.mp ag es))) :
  ∃ r arr k,X.mloc id=some r∧u=.map (some r)∧X.B0≤r∧w.heap[r]?=some (.map arr k)∧MRep X w ag es arr.toList:=by
 obtain ⟨h1,h2,r,h3,rfl⟩:=h
 obtain ⟨r',arr,k,g1,g2,g3,g4⟩:=hi.maps.1 id ag es ho h1
 rw[h3]at g1
 obtain rfl:r=r':=by simpa using g1
 exact ⟨r,arr,k,h3,rfl,g2,g3,g4⟩
theorem qi1 {r o:Nat} {arr:Array MapEntry} {k:Nat} {w:World} (h:w.heap[r]?=some (.map arr k)):w.cell? ⟨r,o,none⟩=none:=by simp[World.cell?,h]
theorem qla (hi:Inv E E0 X w) (hE:∀ w w',E w→Below E0 w w'→E w') {id:Nat} {ag:Bool} {es es':List (ByteArray×List PV)} (ho:X.σ[id]?=some (some (.mp ag es))) (hp:¬ X.pend id) {r:Nat} {arr arr':Array MapEntry} {k k':Nat}
  (hr:X.mloc id=some r) (hB:X.B0≤r) (hg:w.heap[r]?=some (.map arr k)) (hm:MRep X w ag es' arr'.toList) :
  Inv E E0 { X with σ:=X.σ.set id (some (.mp ag es')) } { w with heap:=w.heap.setIfInBounds r (.map arr' k') }∧Ext X w { X with σ:=X.σ.set id (some (.mp ag es')) } { w with heap:=w.heap.setIfInBounds r (.map arr' k') }:=by
 obtain ⟨s1,s2⟩:=MapKept.heap_set (o':=.map arr' k') hg
 have hlt:id < X.σ.length:=(List.getElem?_eq_some_iff.1 ho).1
 have hsz:(w.heap.setIfInBounds r (.map arr' k')).size=w.heap.size:=by simp
 have hbel:∀ B,B≤r→Below B w { w with heap:=w.heap.setIfInBounds r (.map arr' k') }:=fun B h=>⟨rfl,rfl,rfl,Nat.le_of_eq hsz.symm,fun j hj=>s2 j (by omega)⟩
 have hnl:X.loc id=none:=hi.bare id _ ho hp rfl
 have hcell:∀ b o,World.cell? { w with heap:=w.heap.setIfInBounds r (.map arr' k') } ⟨b,o,none⟩=w.cell? ⟨b,o,none⟩:=fun b o=>by
  by_cases hb:b=r
  ·subst hb; rw[qi1 hg,qi1 (w:={ w with heap:=w.heap.setIfInBounds b (.map arr' k') }) s1]
  ·unfold World.cell?; simp only; rw[s2 b hb]
 have hx:Ext X w { X with σ:=X.σ.set id (some (.mp ag es')) } { w with heap:=w.heap.setIfInBounds r (.map arr' k') }:=by
  refine ⟨rfl,rfl,Below.o (hbel _ hB),by simp,fun b o h=>⟨?_,hcell b o⟩,fun _ _ h=>h,fun j obj _ hq e=>?_,fun _ _ _ _ h=>h,rfl⟩
  ·rcases h with h | ⟨h1,h2,h3⟩
   ·exact .inl h
   ·refine .inr ⟨h1,h2,fun j obj l e hq hl hb=>?_⟩
    rcases q1p e with ⟨rfl,_⟩ | ⟨_,e1⟩
    ·have hl':X.loc j=some l:=hl
     rw[hnl]at hl'; cases hl'
    ·exact h3 j obj l e1 hq hl hb
  ·rcases q1p e with ⟨rfl,e1⟩ | ⟨_,e1⟩
   ·simp at e1; subst e1
    exact ⟨_,ho,Nat.le_refl _,fun _=>⟨rfl,rfl,rfl⟩⟩
   ·exact ⟨obj,e1,Nat.le_refl _,fun _=>⟨rfl,rfl,rfl⟩⟩
 refine ⟨⟨hi.hs.trans hsz.symm,by have:=hi.b0; show X.B0≤_; rw[hsz]; exact this,hi.e0,hE _ _ hi.env (hbel _ (Nat.le_trans hi.e0 hB)),fun j obj e hq hbr=>?_,fun i i' ob1 ob2 l1 l2 e e' hq hq' h1 h2 hb=>?_,hi.glob,fun j obj e hq hbr=>?_,⟨?_,?_⟩,hi.low⟩,hx⟩
 ·rcases q1p e with ⟨rfl,e1⟩ | ⟨_,e1⟩
  ·simp at e1; subst e1; cases hbr
  ·obtain ⟨l0,hl0,hB0,cs,T,hg0,hz,hr0⟩:=hi.ob j obj e1 hq hbr
   have hne:l0.1≠r:=fun q=>by rw[q,hg]at hg0; cases hg0
   exact ⟨l0,hl0,hB0,cs,T,(s2 _ hne).trans hg0,hz,fun i c hc=>(hr0 i c hc).imp fun u hu=>⟨hu.1,CRep.ext hx hu.2⟩⟩
 ·have key:∀ (j:Nat) (o:AObj),(X.σ.set id (some (.mp ag es')))[j]?=some (some o)→∃ o',X.σ[j]?=some (some o'):=fun j o e=>by
   rcases q1p e with ⟨rfl,_⟩ | ⟨_,e1⟩
   ·exact ⟨_,ho⟩
   ·exact ⟨o,e1⟩
  obtain ⟨o1,g1⟩:=key i ob1 e
  obtain ⟨o2,g2⟩:=key i' ob2 e'
  exact hi.inj i i' o1 o2 l1 l2 g1 g2 hq hq' h1 h2 hb
 ·rcases q1p e with ⟨rfl,_⟩ | ⟨_,e1⟩
  ·exact hnl
  ·exact hi.bare j obj e1 hq hbr
 ·intro j ag1 es1 e hq
  rcases q1p e with ⟨rfl,e1⟩ | ⟨hj,e1⟩
  ·simp at e1
   obtain ⟨rfl,rfl⟩:=e1
   exact ⟨r,arr',k',hr,hB,s1,hm.imp fun _ _ ⟨q1,v,q2,q3⟩=>⟨q1,v,q2,q9.ext hx q3⟩⟩
  ·obtain ⟨r1,arr1,k1,g1,g2,g3,g4⟩:=hi.maps.1 j ag1 es1 e1 hq
   have hne:r1≠r:=fun q=>hj (hi.maps.2 j id ag1 ag es1 es r e1 ho hq hp (q ▸ g1) hr)
   exact ⟨r1,arr1,k1,g1,g2,(s2 _ hne).trans g3,g4.imp fun _ _ ⟨q1,v,q2,q3⟩=>⟨q1,v,q2,q9.ext hx q3⟩⟩
 ·intro i i' ag1 ag2 es1 es2 r1 e e' hq hq' h1 h2
  have key:∀ (j:Nat) (a:Bool) (s:List (ByteArray×List PV)),(X.σ.set id (some (.mp ag es')))[j]?=some (some (.mp a s))→∃ a' s',X.σ[j]?=some (some (.mp a' s')):=fun j a s e=>by
   rcases q1p e with ⟨rfl,_⟩ | ⟨_,e1⟩
   ·exact ⟨_,_,ho⟩
   ·exact ⟨_,_,e1⟩
  obtain ⟨_,_,g1⟩:=key i _ _ e
  obtain ⟨_,_,g2⟩:=key i' _ _ e'
  exact hi.maps.2 i i' _ _ _ _ r1 g1 g2 hq hq' h1 h2
theorem ql8 (hi:Inv E E0 X w) (hE:∀ w w',E w→Below E0 w w'→E w') (hn:∀ id,¬ X.pend id) (ag:Bool) :
  ∃ X':Cx,X'.σ=X.σ++[some (.mp ag [])]∧X'.pend=X.pend∧Inv E E0 X' (w.alloc (.map #[] 0))∧Ext X w X' (w.alloc (.map #[] 0))∧q5y X' X.σ.length (.map (some w.heap.size)):=by
 obtain ⟨s1,s2⟩:=MapKept.heap_alloc w (.map #[] 0)
 have hsz:(w.alloc (.map #[] 0)).heap.size=w.heap.size+1:=by show (w.heap.push _).size=_; simp
 have hbel:∀ B,B≤w.heap.size→Below B w (w.alloc (.map #[] 0)):=fun B h=>(Below.refl _ _).alloc h _
 have hX:∃ X':Cx,X'={ X with hs:=X.hs+1,σ:=X.σ++[some (.mp ag [])],loc:=fun i=>if i=X.σ.length then none else X.loc i,mloc:=fun i=>if i=X.σ.length then some w.heap.size else X.mloc i }:=⟨_,rfl⟩
 obtain ⟨X',hX⟩:=hX
 have e1:X'.σ=X.σ++[some (.mp ag [])]:=by rw[hX]
 have e2:X'.B0=X.B0:=by rw[hX]
 have e3:X'.hs=X.hs+1:=by rw[hX]
 have e4:X'.old=X.old:=by rw[hX]
 have e5:X'.pend=X.pend:=by rw[hX]
 have e8:X'.low=X.low:=by rw[hX]
 have e6:∀ i,X'.loc i=if i=X.σ.length then none else X.loc i:=fun i=>by rw[hX]
 have e7:∀ i,X'.mloc i=if i=X.σ.length then some w.heap.size else X.mloc i:=fun i=>by rw[hX]
 clear hX
 have hlen:X'.σ.length=X.σ.length+1:=by simp[e1]
 have split:∀ {id:Nat} {ob:AObj},X'.σ[id]?=some (some ob)→(id < X.σ.length∧X.σ[id]?=some (some ob))∨(id=X.σ.length∧ob=.mp ag []):=fun {id ob} e=>by
  rw[e1]at e
  rcases q4t e with h | ⟨h,h2⟩
  ·exact .inl h
  ·exact .inr ⟨h,by simpa using h2⟩
 have ploc:∀ {id:Nat} {l:Nat×Nat},X'.loc id=some l→id≠X.σ.length∧X.loc id=some l:=fun {id l} h=>by
  rw[e6]at h
  split at h
  ·cases h
  ·rename_i hne; exact ⟨hne,h⟩
 have hx:Ext X w X' (w.alloc (.map #[] 0)):=by
  refine ⟨e2,e4,Below.o (hbel _ hi.b0),by omega,fun b o h=>⟨?_,(hbel _ (Nat.le_refl _)).cell (p:=⟨b,o,none⟩) (q35 hi h)⟩,fun id _ h=>by rw[e5]; exact h,fun id ob' hl _ e=>?_,fun id r hl _ h=>?_,e8⟩
  ·rcases h with ⟨h,h'⟩ | ⟨h1,h2,h3⟩
   ·exact .inl ⟨by rw[e2]; exact h,by rw[e4]; exact h'⟩
   ·refine .inr ⟨by rw[e2]; exact h1,by rw[e3]; exact Nat.lt_succ_of_lt h2,fun id ob l e hq hl hb=>?_⟩
    obtain ⟨q1,q2⟩:=ploc hl
    rcases split e with ⟨_,e1⟩ | ⟨h,_⟩
    ·exact h3 id ob l e1 (by rw[← e5]; exact hq) q2 hb
    ·exact absurd h q1
  ·rcases split e with ⟨_,e1⟩ | ⟨h,_⟩
   ·exact ⟨ob',e1,Nat.le_refl _,fun _=>⟨by rw[e6,if_neg (by omega)],rfl,rfl⟩⟩
   ·omega
  ·rw[e7,if_neg (by omega)]; exact h
 refine ⟨X',e1,e5,⟨by rw[e3,hi.hs,hsz],by rw[e2,hsz]; have:=hi.b0; omega,by rw[e2]; exact hi.e0,hE _ _ hi.env (hbel _ (Nat.le_trans hi.e0 hi.b0)),fun id ob e hq hbr=>?_,fun i i' ob1 ob2 l l' e e' hq hq' hl hl' hb=>?_,by rw[e4]; exact hi.glob,fun id ob e hq hbr=>?_,⟨fun id ag1 es1 e hq=>?_,fun i i' ag1 ag2 es1 es2 r e e' hq hq' h1 h2=>?_⟩,by rw[e8,e2,e4]; exact hi.low⟩,hx,by rw[e5]; exact hn _,by omega,w.heap.size,by rw[e7,if_pos rfl],rfl⟩
 ·rcases split e with ⟨hl,e1⟩ | ⟨_,rfl⟩
  ·obtain ⟨l,q1,q2,cs,T,q3,q4,q5⟩:=hi.ob id ob e1 (hn id) hbr
   exact ⟨l,by rw[e6,if_neg (by omega)]; exact q1,by unfold Cx.In; rw[e2,e8]; exact q2,cs,T,(s2 _ (q5g q3)).trans q3,q4,fun i c hc=>(q5 i c hc).imp fun u hu=>⟨hu.1,CRep.ext hx hu.2⟩⟩
  ·cases hbr
 ·obtain ⟨q1,q2⟩:=ploc hl
  obtain ⟨q1',q2'⟩:=ploc hl'
  rcases split e with ⟨_,g1⟩ | ⟨h,_⟩
  ·rcases split e' with ⟨_,g2⟩ | ⟨h,_⟩
   ·exact hi.inj i i' ob1 ob2 l l' g1 g2 (hn i) (hn i') q2 q2' hb
   ·exact absurd h q1'
  ·exact absurd h q1
 ·rcases split e with ⟨hl,g1⟩ | ⟨rfl,_⟩
  ·rw[e6,if_neg (by omega)]; exact hi.bare id ob g1 (hn id) hbr
  ·rw[e6,if_pos rfl]
 ·rcases split e with ⟨hl,g1⟩ | ⟨rfl,g1⟩
  ·obtain ⟨r,arr,k,q1,q2,q3,q4⟩:=hi.maps.1 id ag1 es1 g1 (hn id)
   exact ⟨r,arr,k,by rw[e7,if_neg (by omega)]; exact q1,by rw[e2]; exact q2,(s2 _ (q5g q3)).trans q3,q4.imp fun _ _ ⟨q1,v,q2,q3⟩=>⟨q1,v,q2,q9.ext hx q3⟩⟩
  ·simp at g1
   obtain ⟨rfl,rfl⟩:=g1
   exact ⟨w.heap.size,#[],0,by rw[e7,if_pos rfl],by rw[e2]; exact hi.b0,s1,trivial⟩
 ·have key:∀ {j:Nat} {a:Bool} {s:List (ByteArray×List PV)},X'.σ[j]?=some (some (.mp a s))→X'.mloc j=some r→(j=X.σ.length∧r=w.heap.size)∨(X.σ[j]?=some (some (.mp a s))∧X.mloc j=some r∧r < w.heap.size):=fun {j a s} e h=>by
   rcases split e with ⟨hl,g1⟩ | ⟨rfl,_⟩
   ·rw[e7,if_neg (by omega)]at h
    obtain ⟨r',arr,k,q1,q2,q3,q4⟩:=hi.maps.1 j a s g1 (hn j)
    rw[h]at q1
    obtain rfl:r=r':=by simpa using q1
    exact .inr ⟨g1,h,q5g q3⟩
   ·rw[e7,if_pos rfl]at h
    exact .inl ⟨rfl,by simpa using h.symm⟩
  rcases key e h1 with ⟨a1,a2⟩ | ⟨a1,a2,a3⟩
  ·rcases key e' h2 with ⟨b1,b2⟩ | ⟨b1,b2,b3⟩
   ·omega
   ·omega
  ·rcases key e' h2 with ⟨b1,b2⟩ | ⟨b1,b2,b3⟩
   ·omega
   ·exact hi.maps.2 i i' _ _ _ _ r a1 b1 (hn i) (hn i') a2 b2
theorem qu4 {o:Oper} {t:TypeId} {r:Option Operand} (ho:o.op=.makeMap t r) (hi:Inv E E0 X w) (hE:∀ w w',E w→Below E0 w w'→E w') (hx:∀ y,r=some y→TRep X w (ρ y) (ev y)) {eff:Eff}
  (h:aop P ρ X.σ (.makeMap t r)=some eff):Got E E0 P X w (execOp ev o) eff:=by
 simp only[aop]at h
 split at h
 ·rename_i e hm
  simp only[Option.map_eq_some_iff]at h
  obtain ⟨ag,hag,rfl⟩:=h
  intro hn
  obtain ⟨X',q1,q2,q3,q4,q5⟩:=ql8 hi hE hn ag
  exact ⟨_,_,X',.inl (by simp[execOp,ho,run_makeMap]),q1,q2,q3,q4,q5⟩
 ·rename_i e y hm
  split at h
  ·rename_i n ag hn1 hag
   simp at h; subst h
   intro hn
   obtain ⟨X',q1,q2,q3,q4,q5⟩:=ql8 hi hE hn ag
   obtain ⟨k,hk⟩:=q77 hn1
   have hy:=hx y rfl
   rw[hk]at hy
   obtain ⟨hu,_⟩:=q1s hy
   obtain ⟨kt,ht,_⟩:=qf2 hm
   refine ⟨_,_,X',.inl ?_,q1,q2,q3,q4,q5⟩
   simp[execOp,ho,Instr.makeMap,hu,run_underlying ht,asInt,asIntOf,newObj,Sem.run]
  ·cases h
 ·cases h
theorem qrj {cs:List AC} {us:List Value} {ps:List PV} (h:frzL [] cs=some ps) (hc:All2 (CRep X w) cs us):All2 (PRep X.prot w) ps us:=by
 induction cs generalizing us ps with
 | nil=>cases us with
  | nil=>simp[frzL]at h; subst h; trivial
  | cons _ _=>exact hc.elim
 | cons c r ih=>cases us with
  | nil=>exact hc.elim
  | cons u us =>
   simp only[frzL,Option.bind_eq_some_iff,Option.map_eq_some_iff]at h
   obtain ⟨p,h1,l,h2,rfl⟩:=h
   refine ⟨?_,ih h2 hc.2⟩
   have h0:=hc.1
   unfold frzC at h1
   split at h1
   ·rename_i v
    have h0':PRep X.prot w (.sc v) u:=h0
    unfold PRep at h0'
    obtain ⟨rfl,h3⟩:=h0'
    simp only[Option.some.injEq]at h1; subst h1
    split
    ·rename_i hn
     unfold q4a at hn
     split at hn
     ·unfold PRep; exact .inl ⟨rfl,rfl,rfl⟩
     ·cases hn
    ·unfold PRep; exact ⟨rfl,h3⟩
   ·rename_i full n cs
    simp only[Option.some.injEq]at h1; subst h1
    have h0':PRep X.prot w (.sl full n cs) u:=h0
    unfold PRep at h0' ⊢
    rcases h0' with h | ⟨b,off,cap,q1,q2,q3,q4⟩ | ⟨q1,q2,a,cap,q3,q4⟩
    ·exact .inl h
    ·exact .inr (.inl ⟨b,off,cap,q1,q2,(fun k=>by cases k),q4⟩)
    ·exact .inr (.inr ⟨q1,q2,a,cap,q3,(fun k=>by cases k)⟩)
   ·simp only[Option.some.injEq]at h1; subst h1; exact h0
   ·simp at h1
   ·cases h1
theorem qie:∀ {ps:List PV} {us:List Value},All2 (PRep X.prot w) ps us→All2 (CRep X w) (ps.map .pv) us
 | [],[],_=>trivial
 | _::_,_::_,h=>⟨h.1,qie h.2⟩
 | [],_::_,h=>h.elim
 | _::_,[],h=>h.elim
def agOf:AV→Bool
 | .agg _=>true
 | .cell _=>false
theorem qlm {σ:Sto} {z:AV} {zs:List PV} {u:Value} {v:AV} (hz:frzL σ z.cells=some zs) (hu:q9 X w z u) (hr:∀ {us:List Value},All2 (CRep X w) z.cells us→All2 (PRep X.prot w) zs us) (hv:mval (agOf z) zs=some v):q9 X w v u:=by
 cases z with
 | agg cs =>
  obtain ⟨us,rfl,ha⟩:=hu
  simp only[mval,agOf,Option.some.injEq]at hv; subst hv
  exact ⟨us,rfl,qie (hr ha)⟩
 | cell c =>
  have h1:=hr (us:=[u]) ⟨hu,trivial⟩
  unfold mval agOf at hv
  split at hv
  ·rename_i h; cases h
  ·rename_i p
   simp at hv; subst hv
   exact h1.1
  ·cases hv
theorem qta {z:AV} {σ:Sto} {zs:List PV} (hz:frzL σ z.cells=some zs):∃ v,mval (agOf z) zs=some v:=by
 cases z with
 | agg cs=>exact ⟨_,rfl⟩
 | cell c =>
  simp only[AV.cells,frzL,Option.bind_eq_some_iff,Option.map_eq_some_iff]at hz
  obtain ⟨p,_,l,h2,rfl⟩:=hz
  simp at h2; subst h2
  exact ⟨_,rfl⟩
theorem qu1 {o:Oper} {t:TypeId} {m k:Operand} {ok:Bool} (ho:o.op=.lookup t m k ok) (hi:Inv E E0 X w) (hm:TRep X w (ρ m) (ev m)) (hk:TRep X w (ρ k) (ev k)) {eff:Eff}
  (h:aop P ρ X.σ (.lookup t m k ok)=some eff):Got E E0 P X w (execOp ev o) eff:=by
 simp only[aop]at h
 split at h
 ·rename_i e id s hmt hc hs
  rw[q1a hc]at hm
  rw[q7v hs]at hk
  obtain ⟨hku,_⟩:=q1s hk
  obtain ⟨kt,ht,hkt⟩:=qf2 hmt
  split at h
  ·rename_i ag es z hob hz
   simp only[Option.bind_eq_some_iff]at h
   obtain ⟨zs,hzs,h⟩:=h
   split at h
   ·rename_i v hv
    obtain ⟨i0,z0,hz1,hz2,rfl⟩:=q6n hz
    have key:agOf (q4y z0)=ag∧eff=.val (if ok then .tup [v,.cell (.pv (.sc (.bool (mhas es s))))] else .one v):=by
     split at h
     ·rename_i cs hzc; rw[hzc]; simp at h; exact ⟨rfl,h.symm⟩
     ·rename_i c hzc; rw[hzc]; simp at h; exact ⟨rfl,h.symm⟩
     ·cases h
    obtain ⟨hag,rfl⟩:=key
    clear h
    obtain ⟨r,arr,c,g1,g2,g3,g4,g5⟩:=ql7 hi hm hob
    have hR:∀ (c:ByteArray×List PV) (e:MapEntry),(e.key=.string c.1∧∃ v,mval ag c.2=some v∧q9 X w v e.val)→e.key=.string c.1:=fun _ _ h=>h.1
    -- the value found
    have fin:∃ x:Value,q9 X w v x∧(Instr.lookup t (ev m) (ev k) ok).run P w=.ok (if ok then .tuple #[x,.bool (mhas es s)] else x) w:=by
     rcases qdx hR s 0 g5 with ⟨h1,h2,_⟩ | ⟨j,ps,e1,h1,h2,h3,h4,h5,_⟩
     ·refine ⟨z0,?_,?_⟩
      ·rw[← hag]at hv
       simp only[q2j,h1,Option.getD_none]at hv
       exact qlm hzs (q4z z0) (fun hu=>qrj hzs hu) hv
      ·have hf:=MapKept.run_findKey (P:=P) (w:=w) hkt h2
       have hck:=MapKept.run_checkKey (P:=P) (w:=w) (k:=.string s) hkt (by simp[MapKept.IsKey]) arr.isEmpty 9999
       cases ok <;> simp[Instr.lookup,run_underlying ht,g2,MapKept.run_getObj_map g4,hku,hck,hf,q7u hz1 hz2,Result.andThen,mhas,h1]
     ·obtain ⟨_,v1,hv1,hr1⟩:=h5
      simp only[q2j,h1,Option.getD_some]at hv
      rw[hv]at hv1
      obtain rfl:v=v1:=by simpa using hv1
      refine ⟨e1.val,hr1,?_⟩
      have hf:=MapKept.run_findKey (P:=P) (w:=w) hkt h2
      have hck:=MapKept.run_checkKey (P:=P) (w:=w) (k:=.string s) hkt (by simp[MapKept.IsKey]) arr.isEmpty 9999
      cases ok <;> simp[Instr.lookup,run_underlying ht,g2,MapKept.run_getObj_map g4,hku,hck,hf,Result.andThen,mhas,h1]
    obtain ⟨x,hx1,hx2⟩:=fin
    refine qn hi (u:=if ok then .tuple #[x,.bool (mhas es s)] else x) (by simp[execOp,ho,hx2]) ?_
    cases ok with
    | true=>exact ⟨#[x,.bool (mhas es s)],rfl,hx1,by exact ⟨rfl,rfl⟩,trivial⟩
    | false=>exact hx1
   ·cases h
  ·cases h
 ·cases h
theorem qu6 {o:Oper} {t:TypeId} {m k x:Operand} (ho:o.op=.mapUpdate t m k x) (hi:Inv E E0 X w) (hE:∀ w w',E w→Below E0 w w'→E w') (hm:TRep X w (ρ m) (ev m)) (hk:TRep X w (ρ k) (ev k)) (hx:TRep X w (ρ x) (ev x)) {eff:Eff}
  (h:aop P ρ X.σ (.mapUpdate t m k x)=some eff):Got E E0 P X w (execOp ev o) eff:=by
 simp only[aop]at h
 split at h
 ·rename_i e id s v hmt hc hs hav
  rw[q1a hc]at hm
  rw[q7v hs]at hk
  rw[q64 hav]at hx
  obtain ⟨hku,_⟩:=q1s hk
  obtain ⟨kt,ht,hkt⟩:=qf2 hmt
  split at h
  ·rename_i ag es ps hob hps
   have key:agOf v=ag∧v.cells.any AC.owns=false∧eff=.upd (X.σ.set id (some (.mp ag (mput es s ps)))) qw:=by
    split at h
    ·split at h
     ·rename_i ho; simp at h; exact ⟨rfl,ho,h.symm⟩
     ·cases h
    ·split at h
     ·rename_i ho; simp at h; exact ⟨rfl,ho,h.symm⟩
     ·cases h
    ·cases h
   obtain ⟨hag,hown,rfl⟩:=key
   clear h
   intro hn
   obtain ⟨r,arr,c,g1,g2,g3,g4,g5⟩:=ql7 hi hm hob
   have hR:∀ (c:ByteArray×List PV) (e:MapEntry),(e.key=.string c.1∧∃ v,mval ag c.2=some v∧q9 X w v e.val)→e.key=.string c.1:=fun _ _ h=>h.1
   obtain ⟨v1,hv1⟩:=qta hps
   have hx':q9 X w v (ev x):=hx
   have hr1:q9 X w v1 (ev x):=qlm hps hx' (fun hu=>q73 hi hps hu fun c hc id ver off len e=>by
    have:=List.any_eq_false.1 hown c hc
    rw[e]at this; simp[AC.owns]at this) hv1
   rw[hag]at hv1
   have hck:=MapKept.run_checkKey (P:=P) (w:=w) (k:=.string s) hkt (by simp[MapKept.IsKey]) false 9999
   rcases qdx hR s 0 g5 with ⟨h1,h2,h3⟩ | ⟨j,ps0,e1,h1,h2,h3,h4,h5,h6⟩
   ·have hf:=MapKept.run_findKey (P:=P) (w:=w) hkt h2
    obtain ⟨q1,q2⟩:=qla (k':=c+1) (arr':=arr.push { key:=.string s,val:=ev x,born:=c }) (es':=mput es s ps) hi hE hob (hn id) g1 g3 g4 (by
     rw[h3,Array.toList_push]
     exact g5.append ⟨⟨rfl,v1,hv1,hr1⟩,trivial⟩)
    refine ⟨undef,_,{ X with σ:=X.σ.set id (some (.mp ag (mput es s ps))) },.inr ⟨?_,rfl⟩,rfl,rfl,q1,q2,rfl⟩
    simp[execOp,ho,Instr.mapUpdate,run_underlying ht,g2,MapKept.run_getObj_map g4,hku,hck,hf,MapKept.run_setObj_map _ g4,Result.andThen]
   ·have hf:=MapKept.run_findKey (P:=P) (w:=w) hkt h2
    have hj:arr[j]?=some e1:=by simpa using h3
    obtain ⟨q1,q2⟩:=qla (k':=c) (arr':=arr.modify j fun e=>{ e with key:=.string s,val:=ev x }) (es':=mput es s ps) hi hE hob (hn id) g1 g3 g4 (by
     rw[h6]
     refine All2.of_get (by simpa using g5.length) fun i a b ha hb=>?_
     rw[Array.toList_modify,List.getElem?_modify]at hb
     rw[List.getElem?_set]at ha
     by_cases hij:j=i
     ·subst hij
      rw[if_pos rfl]at ha
      simp only[if_true]at hb
      split at ha
      ·simp at ha; subst ha
       rw[h3]at hb
       simp at hb; subst hb
       exact ⟨rfl,v1,hv1,hr1⟩
      ·cases ha
     ·rw[if_neg hij]at ha
      simp only[if_neg hij]at hb
      obtain ⟨b',hb1,hb2⟩:=g5.get i a ha
      simp at hb
      have hb1':arr[i]?=some b':=by simpa using hb1
      rw[hb1']at hb
      obtain rfl:b'=b:=by simpa using hb
      exact hb2)
    refine ⟨undef,_,{ X with σ:=X.σ.set id (some (.mp ag (mput es s ps))) },.inr ⟨?_,rfl⟩,rfl,rfl,q1,q2,rfl⟩
    have hstay:(Instr.keyThatStays (.string s) (.string s)).run P w=.ok (.string s) w:=by
     simp[Instr.keyThatStays,Instr.sameBits,beqB]
    simp[execOp,ho,Instr.mapUpdate,run_underlying ht,g2,MapKept.run_getObj_map g4,hku,hck,hf,hj,h5.1,hstay,MapKept.run_setObj_map _ g4,Result.andThen]
  ·cases h
 ·cases h
end Abs
end Go.Proofs.YtpidpioifnnllaaGreatDoor
