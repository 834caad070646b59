/-
  Functions that hand back an array of the caller's own, for any store of the caller's; the same as a plain result.
-/
import Derived.Test.YtpidpioifnnllaaGreatDoorAbsX
namespace Go.Proofs.YtpidpioifnnllaaGreatDoor
set_option linter.unusedVariables false
set_option linter.unusedSimpArgs false
namespace Abs
open Go.RowKit
section
variable {E : World → Prop} {E0 : Nat} {P : Program} {X : Cx} {w : World}
theorem qpj (hi:Inv E E0 X w):Inv E E0 (Cx.bare w.heap.size w.heap.size X.prot) w :=
 ⟨rfl,Nat.le_refl _,Nat.le_trans hi.e0 hi.b0,hi.env,fun id ob e=>by simp[Cx.bare]at e,fun id id' ob ob' l l' e=>by simp[Cx.bare]at e,fun b o h=>q74 hi h,fun id ob e=>by simp[Cx.bare]at e,⟨fun id ag es e=>by simp[Cx.bare]at e,fun id id' ag ag' es es' r e=>by simp[Cx.bare]at e⟩,fun k hk=>hk.elim⟩
theorem qwo (hi:Inv E E0 X w) (hn:∀ id,¬ X.pend id) {ob:AObj} (hob:(∃ cs sz,ob=.arr cs sz 0)∨(∃ sz,ob=.nilarr sz)) {X1:Cx} {w':World} (h1:Inv E E0 X1 w') {k0:Nat} (h10:X1.σ[k0]?=some (some ob)) (hp1:∀ id,¬ X1.pend id) (hx:Ext (Cx.bare w.heap.size w.heap.size X.prot) w X1 w') :
  Inv E E0 { X with σ:=X.σ++[some ob],hs:=w'.heap.size,loc:=fun i=>if i=X.σ.length then X1.loc k0 else X.loc i } w'∧Ext X w { X with σ:=X.σ++[some ob],hs:=w'.heap.size,loc:=fun i=>if i=X.σ.length then X1.loc k0 else X.loc i } w' ∧
  (∀ b o,X1.prot b o→({ X with σ:=X.σ++[some ob],hs:=w'.heap.size,loc:=fun i=>if i=X.σ.length then X1.loc k0 else X.loc i }:Cx).prot b o):=by
 have hsz:w.heap.size≤w'.heap.size:=hx.below.size
 have hb0:X1.B0=w.heap.size:=hx.b0
 have hlow:X1.low=fun _=>False:=hx.low
 have keep:∀ k,k < w.heap.size→w'.heap[k]?=w.heap[k]?:=fun k hk=>hx.below.block k hk fun q=>q.elim
 have new1:∀ l,X1.loc k0=some l→w.heap.size≤l.1∧l.1 < w'.heap.size:=fun l hl=>by
  have hb:=h1.not_bare h10 (hp1 k0) hl
  obtain ⟨l',hl',hB,_⟩:=h1.ob k0 ob h10 (hp1 k0) hb
  rw[hl]at hl'
  obtain rfl:l=l':=by simpa using hl'
  refine ⟨?_,q2w h1 h10 (hp1 k0) hl⟩
  rcases hB with h | h
  ·rw[hb0]at h; exact h
  ·rw[hlow]at h; exact h.2.elim
 have get:∀ {j:Nat} {o:AObj},(X.σ++[some ob])[j]?=some (some o)→(j < X.σ.length∧X.σ[j]?=some (some o))∨(j=X.σ.length∧o=ob):=fun {j o} e=>by
  rcases Nat.lt_or_ge j X.σ.length with hj | hj
  ·rw[List.getElem?_append_left hj]at e; exact .inl ⟨hj,e⟩
  ·rw[List.getElem?_append_right hj]at e
   rcases Nat.eq_or_lt_of_le hj with h | h
   ·rw[← h,Nat.sub_self]at e; simp at e; exact .inr ⟨h.symm,e.symm⟩
   ·rw[List.getElem?_eq_none (by simp; omega)]at e; cases e
 have locOld:∀ {j:Nat},j < X.σ.length→(if j=X.σ.length then X1.loc k0 else X.loc j)=X.loc j:=fun hj=>if_neg (by omega)
 have back:∀ b o,X1.prot b o→({ X with σ:=X.σ++[some ob],hs:=w'.heap.size,loc:=fun i=>if i=X.σ.length then X1.loc k0 else X.loc i }:Cx).prot b o:=by
  intro b o h
  rcases h with ⟨k1,k2⟩ | ⟨k1,k2,k3⟩
  ·have k2':X.prot b o:=by
    have:X1.old=X.prot:=hx.old
    rw[this]at k2; exact k2
   have k1':b < w.heap.size:=by omega
   rcases k2' with q | ⟨q1,q2,q3⟩
   ·exact .inl q
   ·refine .inr ⟨q1,by show b < w'.heap.size; omega,fun j o' l' e hp hl' hb=>?_⟩
    rcases get e with ⟨hj,e1⟩ | ⟨rfl,rfl⟩
    ·exact q3 j o' l' e1 (hn j) (by rw[← hl']; exact (locOld hj).symm) hb
    ·have:=new1 l' (by simpa using hl')
     omega
  ·have k1':w.heap.size≤b:=by omega
   refine .inr ⟨Nat.le_trans hi.b0 k1',by show b < w'.heap.size; rw[← h1.hs]; exact k2,fun j o' l' e hp hl' hb=>?_⟩
   rcases get e with ⟨hj,e1⟩ | ⟨rfl,rfl⟩
   ·have:=q2w hi e1 (hn j) (by rw[← hl']; exact (locOld hj).symm)
    omega
   ·exact k3 k0 o' l' h10 (hp1 k0) (by simpa using hl') hb
 have fwd:∀ b o,X.prot b o→({ X with σ:=X.σ++[some ob],hs:=w'.heap.size,loc:=fun i=>if i=X.σ.length then X1.loc k0 else X.loc i }:Cx).prot b o∧w'.cell? ⟨b,o,none⟩=w.cell? ⟨b,o,none⟩:=fun b o h=>by
  obtain ⟨q1,q2⟩:=hx.prot b o (.inl ⟨q35 hi h,h⟩)
  exact ⟨back b o q1,q2⟩
 have hext:Ext X w { X with σ:=X.σ++[some ob],hs:=w'.heap.size,loc:=fun i=>if i=X.σ.length then X1.loc k0 else X.loc i } w':=by
  refine ⟨rfl,rfl,⟨hx.below.os,hx.below.tape,hx.below.output,hsz,fun k hk _=>keep k (Nat.lt_of_lt_of_le hk hi.b0)⟩,by simp,fwd,fun _ _ h=>h,fun j o' hj hp e=>?_,fun _ _ _ _ h=>h,rfl⟩
  rcases get e with ⟨_,e1⟩ | ⟨h,_⟩
  ·exact ⟨o',e1,Nat.le_refl _,fun _=>⟨locOld hj,rfl,rfl⟩⟩
  ·omega
 have nomp:∀ {ag es},ob≠.mp ag es:=fun {ag es} e=>by
  rcases hob with ⟨cs,sz,h⟩ | ⟨sz,h⟩ <;> rw[h]at e <;> cases e
 have notwo:ob.two=false:=by rcases hob with ⟨cs,sz,h⟩ | ⟨sz,h⟩ <;> rw[h] <;> rfl
 refine ⟨⟨rfl,Nat.le_trans hi.b0 hsz,hi.e0,h1.env,fun j o' e _ hbr=>?_,fun j j' o1 o2 l1 l2 e e' _ _ g g' hb=>?_,hi.glob,fun j o' e _ hbr=>?_,hi.maps.carry hext (fun r arr k hr0 h=>(keep r (q5g h)).trans h) fun j ag es e _=>?_,hi.low⟩,hext,back⟩
 ·rcases get e with ⟨hj,e1⟩ | ⟨rfl,rfl⟩
  ·obtain ⟨l1,g1,g2,us',T',g3,g4,g5⟩:=hi.ob j o' e1 (hn j) hbr
   exact ⟨l1,(locOld hj).trans g1,g2,us',T',(keep _ (q2w hi e1 (hn j) g1)).trans g3,g4,fun i c hc=>(g5 i c hc).imp fun u hu=>⟨hu.1,CRep.ext hext hu.2⟩⟩
  ·obtain ⟨l1,g1,g2,us',T',g3,g4,g5⟩:=h1.ob k0 o' h10 (hp1 k0) hbr
   refine ⟨l1,by simpa using g1,.inl (Nat.le_trans hi.b0 (new1 l1 g1).1),us',T',g3,g4,fun i c hc=>?_⟩
   obtain ⟨u,z1,z2⟩:=g5 i c hc
   refine ⟨u,z1,q9f (fun b o k=>⟨back b o k,rfl⟩) ?_ z2⟩
   rcases hob with ⟨cs,sz,h⟩ | ⟨sz,h⟩
   ·rw[h]at hc
    simp[AObj.cells]at hc
    obtain ⟨p,_,rfl⟩:=hc
    rfl
   ·rw[h]at hc; simp[AObj.cells]at hc
 ·rcases get e with ⟨hj,e1⟩ | ⟨rfl,rfl⟩ <;> rcases get e' with ⟨hj',e1'⟩ | ⟨rfl,rfl⟩
  ·exact hi.inj j j' o1 o2 l1 l2 e1 e1' (hn j) (hn j') (by rw[← g]; exact (locOld hj).symm) (by rw[← g']; exact (locOld hj').symm) hb
  ·have:=q2w hi e1 (hn j) (by rw[← g]; exact (locOld hj).symm)
   have:=new1 l2 (by simpa using g')
   omega
  ·have:=q2w hi e1' (hn j') (by rw[← g']; exact (locOld hj').symm)
   have:=new1 l1 (by simpa using g)
   omega
  ·rfl
 ·rcases get e with ⟨hj,e1⟩ | ⟨rfl,rfl⟩
  ·exact (locOld hj).trans (hi.bare j o' e1 (hn j) hbr)
  ·have:=h1.bare k0 o' h10 (hp1 k0) hbr
   simpa using this
 ·rcases get e with ⟨hj,e1⟩ | ⟨_,q⟩
  ·exact ⟨e1,hn j⟩
  ·exact absurd q.symm nomp
theorem qp1 (nb:Bool) (sz:Nat) (cs:List PV):(∃ cs' sz',arO nb sz 0 cs=.arr cs' sz' 0)∨(∃ sz',arO nb sz 0 cs=.nilarr sz'):=by
 rcases q2r nb sz 0 cs with e | ⟨_,e⟩
 ·exact .inl ⟨_,_,e⟩
 ·exact .inr ⟨_,e⟩
def OkN {α:Type} (E:World→Prop) (E0:Nat) (P:Program) (f:FuncId) (args:List AV) (F:Fl α) (ls:List α):Prop :=
 ∀ (X:Cx) (w:World) (vs:List Value),X.σ=[]→(∀ id,¬ X.pend id)→Inv E E0 X w→All2 (q9 X w) args vs →
  Calls P f vs.toArray w fun e w'=>∃ X' v k,e=.returned v∧X'.σ[k]?=some (some (arO false F.sz 0 (F.f ls)))∧(∀ id,¬ X'.pend id)∧Inv E E0 X' w'∧Ext X w X' w'∧TRep X' w' (c1 (vO F k ls)) v
theorem okN_up {α:Type} (F:Fl α) {f:FuncId} {args:List AV} {ls:List α} (hr:args.all AV.pure=true) (h:OkN E E0 P f args F ls) (σ:Sto) :
  Ok E E0 P f args σ (c1 (vO F σ.length ls)) (σ++[some (arO false F.sz 0 (F.f ls))]):=by
 intro X w vs h1 hn hi hv
 subst h1
 refine (h (Cx.bare w.heap.size w.heap.size X.prot) w vs rfl (fun _ k=>k) (qpj hi) (qbs (fun b o k=>⟨.inl ⟨q35 hi k,k⟩,rfl⟩) hr hv)).mono ?_
 rintro e w' ⟨X1,v,k,he,q1,q2,q3,q4,q5⟩
 obtain ⟨z1,z2,z3⟩:=qwo hi hn (qp1 false F.sz (F.f ls)) q3 q1 q2 q4
 refine ⟨{ X with σ:=X.σ++[some (arO false F.sz 0 (F.f ls))],hs:=w'.heap.size,loc:=fun i=>if i=X.σ.length then X1.loc k else X.loc i },v,he,rfl,hn,z1,z2,?_⟩
 have q5':q3t X1 k (F.f ls).length 0 ls.length v:=q5
 show q3t _ X.σ.length (F.f ls).length 0 ls.length v
 refine ⟨q5'.1,hn _,by simp,fun ob e=>?_⟩
 have e':some (arO false F.sz 0 (F.f ls))=some ob:=by simpa using e
 have:=q5'.2.2.2 ob (by rw[q1]; simpa using e')
 refine ⟨this.1,fun hver=>?_⟩
 have hm:=this.2 hver
 cases ob with
 | arr cells sz fr =>
  obtain ⟨l,g1,g2⟩:=hm
  exact ⟨l,by simpa using g1,g2⟩
 | nilarr sz=>exact hm
 | box _=>exact hm
 | mp _ _=>exact hm
theorem qmf {α:Type} (F:Fl α) {f:FuncId} {args:List AV} {ls:List α} (h:OkN E E0 P f args F ls):Pure E E0 P f args (c1 (vL F ls)):=by
 intro old w vs he he0 hold hv
 have hinv:Inv E E0 (Cx.bare w.heap.size w.heap.size old) w:=⟨rfl,Nat.le_refl _,he0,he,fun id ob e=>by simp[Cx.bare]at e,fun id id' ob ob' l l' e=>by simp[Cx.bare]at e,hold,fun id ob e=>by simp[Cx.bare]at e,⟨fun id ag es e=>by simp[Cx.bare]at e,fun id id' ag ag' es es' r e=>by simp[Cx.bare]at e⟩,fun k hk=>hk.elim⟩
 refine (h (Cx.bare w.heap.size w.heap.size old) w vs rfl (fun _ k=>k) hinv hv).mono ?_
 rintro e w' ⟨X1,v,k0,rfl,q1,q2,q3,q4,q5⟩
 have hb0:X1.B0=w.heap.size:=q4.b0
 have hlow:X1.low=fun _=>False:=q4.low
 have hb:Below w.heap.size w w':=by
  have:=q4.below
  exact this.full (Nat.le_refl _) fun k hk=>hk.elim
 refine ⟨v,rfl,hb,q3.env,?_⟩
 have back:∀ b o,X1.prot b o→(Cx.bare w.heap.size w'.heap.size old).prot b o:=by
  intro b o k
  rcases k with ⟨k1,k2⟩ | ⟨k1,k2,_⟩
  ·refine .inl ⟨by show b < w.heap.size; omega,?_⟩
   have:X1.old=old:=q4.old
   rw[this]at k2; exact k2
  ·exact .inr ⟨by show w.heap.size≤b; omega,by show b < w'.heap.size; rw[← q3.hs]; exact k2,fun id ob l e=>by simp[Cx.bare]at e⟩
 have q5':q3t X1 k0 (F.f ls).length 0 ls.length v:=q5
 have h2:=q5'.2.2.2 _ q1
 have e:arO false F.sz 0 (F.f ls)=.arr (F.f ls) F.sz 0:=rfl
 show PRep _ w' (pL F ls) v
 unfold pL PRep
 rw[e]at h2 q1
 obtain ⟨l,g1,g2,a,cap,rfl,g3,g4,g5⟩:=h2.2 rfl
 obtain ⟨l',hl',hB,us,T,hg,hz,hrp⟩:=q3.ob k0 _ q1 (q2 k0) rfl
 rw[g1]at hl'
 obtain rfl:l=l':=by simpa using hl'
 by_cases hc:cap=0
 ·have hl0:ls.length=0:=by omega
  have hnil:ls=[]:=List.eq_nil_of_length_eq_zero hl0
  subst hnil
  exact .inr (.inr ⟨rfl,F.nil,a,cap,rfl,fun hh=>by cases hh⟩)
 ·obtain ⟨g6,g7,g8⟩:=g5 hc
  refine .inr (.inl ⟨l.1,0,cap,?_,g3,fun hh=>(by cases hh),qh.of_get fun i c hi=>?_⟩)
  ·cases a; simp only at g4 g6 g7; subst g4 g6 g7; rfl
  ·obtain ⟨u,z1,z2⟩:=hrp i (.pv c) (by simp[AObj.cells,hi])
   refine ⟨u,?_,?_,PRep.mono (fun b o k=>⟨back b o k,rfl⟩) z2⟩
   ·simp[World.cell?,hg,z1]
   ·refine .inr ⟨?_,q2w q3 q1 (q2 k0) g1,fun id ob l e=>by simp[Cx.bare]at e⟩
    rcases hB with hB | hB
    ·show w.heap.size≤l.1; omega
    ·rw[hlow]at hB; exact hB.2.elim
def KN {α:Type} (P:Program) (fn:Func) (F:Fl α) (ls:List α):Ex→List TV→Sto→Prop:=Ends P fn fun r' σ1=>∃ k,r'=c1 (vO F k ls)∧σ1[k]?=some (some (arO false F.sz 0 (F.f ls)))
theorem fnN {α:Type} {G:Nat→Option (List PV)} {F:Fl α} (hb:Base E E0 G) {f:FuncId} {fn:Func} {c:Code} {args:List AV} {e:Option (List α)} (hf:P.funcs[f]?=some fn) (hc:fn.body=some c)
  (h:∀ r,e=some r→J E E0 P G 0 (KN P fn F r) ⟨none,[c],[],q3o args fn.ntmps,[]⟩):∀ r,e=some r→OkN E E0 P f args F r:=by
 intro r hq X w vs h1 h2 h3 h4
 have hj:=L_of (h r hq)
 refine calls_of_wp hf hc (wp_mono (hj X w _ h1 (Nat.zero_le _) h2 h3 (qas h4 _)) ?_)
 rintro ex' a' w' ⟨ex,T',X',rfl,g2,g3,g4,g5,g6⟩
 have fin:(∃ r',q4e P T' X'.σ fn.results.toList=some r'∧∃ k,r'=c1 (vO F k r)∧X'.σ[k]?=some (some (arO false F.sz 0 (F.f r))))→a'.defers=[]∧∃ v,(results fn a'.tmps).run P w'=.ok v w'∧∃ X' v' k,Ending.returned v=.returned v'∧X'.σ[k]?=some (some (arO false F.sz 0 (F.f r)))∧(∀ id,¬ X'.pend id)∧Inv E E0 X' w'∧Ext X w X' w'∧TRep X' w' (c1 (vO F k r)) v':=by
  rintro ⟨r',k1,k,rfl,k2⟩
  obtain ⟨u,q1,q2⟩:=qfu (P:=P) g4 g6 k1
  have hx:ExtB X.σ.length X w X' w':=by rw[h1]; exact g5
  exact ⟨g6.defers,u,q1,X',u,k,rfl,k2,g3,g4,hx.ext g3,q2⟩
 cases ex with
 | exit id=>exact g2.elim
 | pan v=>exact g2.elim
 | normal=>exact fin g2
 | ret=>exact fin g2
def qmz (P:Program) (fn:Func) (k:Nat) (t:MS):Option (TV×Option (Option AObj)) :=
 match t.reg with
 | none=>match t.c with
  | .ret::_=>match q4e P t.T t.σ fn.results.toList with
   | some v=>some (v,t.σ[k]?)
   | none=>none
  | _=>none
 | some _=>none
theorem retNE {α:Type} {F:Fl α} {G:Nat→Option (List PV)} {m:Nat} {s:MS} (hb:Base E E0 G) (n k:Nat) {fn:Func} {r x:List α} (hq:x=r) (h:qmz P fn k (adv P G n s)=some (c1 (vO F k x),some (some (arO false F.sz 0 (F.f x)))):=by kernel_rfl):J E E0 P G m (KN P fn F r) s:=by
 subst hq
 refine q2q hb n ?_
 generalize adv P G n s=t at *
 obtain ⟨reg,c,ctx,T,σ⟩:=t
 unfold qmz at h
 split at h
 ·rename_i e; simp only at e; subst e
  split at h
  ·rename_i r e; simp only at e; subst e
   split at h
   ·rename_i v hv
    simp at h
    obtain ⟨rfl,h2⟩:=h
    exact q6q (q9x ⟨_,hv,k,rfl,h2⟩)
   ·cases h
  ·cases h
 ·cases h
end
section
variable {E : World → Prop} {E0 : Nat} {P : Program} {G : Nat → Option (List PV)} {m : Nat} {K : Ex → List TV → Sto → Prop} {s : MS} {ρ : Type} {x : ρ} {α : Type} (F : Fl α)
def qh9 (P:Program) (G:Nat→Option (List PV)) (D:Bool) (ops:Array Oper) (l:List Oper) (T:List TV) (σ:Sto):Option (Bool×AC×AC×Nat×Nat) :=
 match q6v P G ops l T with
 | some (b,c,sz,by_,_)=>some (D,b,c,sz,by_)
 | none=>none
theorem qh7 (hb:Base E E0 G) (n id id2:Nat) (nb:Bool) (fr:Nat) (nb2:Bool) (fr2:Nat) {xs ys:List α} {by_:Nat} {kk:List α→Option ρ} (hq:(app by_ xs ys).bind kk=some x)
  (k:∀ zs,app by_ xs ys=some zs→kk zs=some x→J E E0 P G m K (mSto (adv P G n s) (c1 (vO F id zs)) ((adv P G n s).σ.set id (some (arO nb F.sz fr (F.f zs))))))
  (hfr:fr≤(F.f xs).length:=by first | exact Nat.zero_le _ | exact Nat.le_refl _)
  (h:mPre (qh9 P G) (adv P G n s)=some (false,vO F id xs,vO F id2 ys,F.sz,by_):=by kernel_rfl)
  (ho:(adv P G n s).σ[id]?=some (some (arO nb F.sz fr (F.f xs))):=by kernel_rfl)
  (ho2:(adv P G n s).σ[id2]?=some (some (arO nb2 F.sz fr2 (F.f ys))):=by kernel_rfl):J E E0 P G m K s:=by
 obtain ⟨y,hy,hk⟩:=Option.bind_eq_some_iff.1 hq
 obtain ⟨D,ops,l,l2,hr,h⟩:=q23 h
 unfold qh9 at h
 split at h
 ·rename_i b c sz by' d hc
  simp at h
  obtain ⟨rfl,rfl,rfl,rfl,rfl⟩:=h
  obtain ⟨o,t,e,z,x',y',h1,h2,_⟩:=qcx (σ:=(adv P G n s).σ) hc
  subst h2
  exact q28 hb n hr h1 (fun R=>qh8 F hy hc (qw5 F ho2) ho hfr) (k y hy hk)
 ·cases h
end
end Abs
end Go.Proofs.YtpidpioifnnllaaGreatDoor
