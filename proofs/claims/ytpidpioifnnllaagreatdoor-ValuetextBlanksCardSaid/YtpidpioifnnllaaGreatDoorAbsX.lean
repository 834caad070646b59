/-
  Functions with a lent variable: their ends, their calls by cases; functions that call themselves less deeply.
-/
import Derived.Test.YtpidpioifnnllaaGreatDoorAbsW
namespace Go.Proofs.YtpidpioifnnllaaGreatDoor
set_option linter.unusedVariables false
set_option linter.unusedSimpArgs false
namespace Abs
open Go.RowKit
section
variable {E : World → Prop} {E0 : Nat} {P : Program} {G : Nat → Option (List PV)} {m : Nat} {K : Ex → List TV → Sto → Prop} {s : MS} {π β ρ : Type}
theorem qo2 {k:Nat} {c:AC} (h:c.pure=true):c.under k=true:=by
 cases c with
 | pv x=>rfl
 | _=>cases h
theorem qo3 {k:Nat} {v:AV} (h:v.pure=true):v.under k=true :=
 List.all_eq_true.2 fun c hc=>qo2 (List.all_eq_true.1 h c hc)
theorem qwi {k:Nat} {v:TV} (h:v.pure=true):v.under k=true:=by
 cases v with
 | one v=>exact qo3 h
 | tup vs=>exact List.all_eq_true.2 fun c hc=>qo3 (List.all_eq_true.1 h c hc)
 | dead v=>cases h
theorem qjd {c:AC} {p:PV} {σ:Sto} (h:frzC [] c=some p):frzC σ c=some p∧∀ id ver off len,c≠.own id ver off len:=by
 cases c with
 | own id ver off len=>simp[frzC]at h
 | pv x=>cases x <;> exact ⟨h,fun _ _ _ _ e=>by cases e⟩
 | _=>simp[frzC]at h
theorem qjf {σ:Sto}:∀ {cs:List AC} {ps:List PV},frzL [] cs=some ps→frzL σ cs=some ps∧∀ c ∈ cs,∀ id ver off len,c≠.own id ver off len
 | [],ps,h=>⟨h,fun c hc=>by cases hc⟩
 | c::r,ps,h=>by
  simp only[frzL,Option.bind_eq_some_iff,Option.map_eq_some_iff]at h ⊢
  obtain ⟨p,h1,l,h2,rfl⟩:=h
  obtain ⟨a1,a2⟩:=qjd (σ:=σ) h1
  obtain ⟨b1,b2⟩:=qjf (σ:=σ) h2
  refine ⟨⟨p,a1,l,b1,rfl⟩,fun d hd=>?_⟩
  rcases List.mem_cons.1 hd with rfl | hd
  ·exact a2
  ·exact b2 d hd
theorem qjg {σ:Sto} {v v':AV} (h:frzV [] v=some v'):frzV σ v=some v'∧∀ c ∈ v.cells,∀ id ver off len,c≠.own id ver off len:=by
 cases v with
 | cell c =>
  simp only[frzV,Option.map_eq_some_iff]at h ⊢
  obtain ⟨p,h1,rfl⟩:=h
  obtain ⟨a1,a2⟩:=qjd (σ:=σ) h1
  exact ⟨⟨p,a1,rfl⟩,fun d hd=>by simp[AV.cells]at hd; subst hd; exact a2⟩
 | agg cs =>
  simp only[frzV,Option.map_eq_some_iff]at h ⊢
  obtain ⟨l,h1,rfl⟩:=h
  obtain ⟨a1,a2⟩:=qjf (σ:=σ) h1
  exact ⟨⟨l,a1,rfl⟩,a2⟩
theorem qjh {σ:Sto}:∀ {vs vs':List AV},q17 [] vs=some vs'→q17 σ vs=some vs'∧∀ v ∈ vs,∀ c ∈ v.cells,∀ id ver off len,c≠.own id ver off len
 | [],ps,h=>⟨h,fun c hc=>by cases hc⟩
 | c::r,ps,h=>by
  simp only[q17,Option.bind_eq_some_iff,Option.map_eq_some_iff]at h ⊢
  obtain ⟨p,h1,l,h2,rfl⟩:=h
  obtain ⟨a1,a2⟩:=qjg (σ:=σ) h1
  obtain ⟨b1,b2⟩:=qjh (σ:=σ) h2
  refine ⟨⟨p,a1,l,b1,rfl⟩,fun d hd=>?_⟩
  rcases List.mem_cons.1 hd with rfl | hd
  ·exact a2
  ·exact b2 d hd
theorem qri {X:Cx} {w:World} (hi:Inv E E0 X w) {v v':TV} {u:Value} (h:frzT [] v=some v') (hv:TRep X w v u):TRep X w v' u:=by
 cases v with
 | one v =>
  simp only[frzT,Option.map_eq_some_iff]at h
  obtain ⟨v2,h1,rfl⟩:=h
  obtain ⟨a1,a2⟩:=qjg (σ:=X.σ) h1
  exact qe3 hi a1 hv (fun c hc id ver off len e=>absurd e (a2 c hc id ver off len)) (fun _ _ k=>k)
 | tup vs =>
  simp only[frzT,Option.map_eq_some_iff]at h
  obtain ⟨v2,h1,rfl⟩:=h
  obtain ⟨a1,a2⟩:=qjh (σ:=X.σ) h1
  obtain ⟨us,hu,ha⟩:=hv
  exact ⟨us,hu,q8u hi (fun _ _ k=>k) a1 ha (fun v hv c hc id ver off len e=>absurd e (a2 v hv c hc id ver off len))⟩
 | dead v=>exact hv.elim
def KL (P:Program) (fn:Func) (D:π→Value) (enc:β→TV) (bc:β→List AC):π⊕β→Ex→List TV→Sto→Prop
 | .inl p=>fun ex _ _=>ex=.pan (D p)
 | .inr y=>Ends P fn fun r' σ1=>frzT [] r'=some (enc y)∧σ1[0]?=some (some (.box (bc y)))
theorem qtk {f:FuncId} {fn:Func} {c:Code} {args:List AV} {σ:Sto} {r:TV} {cs:List AC} (hσ:σ.length=1) (hf:P.funcs[f]?=some fn) (hc:fn.body=some c) (hr:r.pure=true) (hcs:cs.all AC.pure=true)
  (h:awp E E0 P 1 c (q3o args fn.ntmps) σ (Ends P fn fun r' σ1=>frzT [] r'=some r∧σ1[0]?=some (some (.box cs)))):Ok E E0 P f args σ r [some (.box cs)]:=by
 intro X w vs h1 h2 h3 h4
 refine calls_of_wp hf hc (wp_mono (h X w _ h1 (by rw[hσ]; exact Nat.le_refl _) h2 h3 (qas h4 _)) ?_)
 subst h1
 rintro e a' w' ⟨ex,T',X',rfl,g2,g3,g4,g5,g6⟩
 have fin:(∃ r',q4e P T' X'.σ fn.results.toList=some r'∧frzT [] r'=some r∧X'.σ[0]?=some (some (.box cs)))→a'.defers=[]∧∃ v,(results fn a'.tmps).run P w'=.ok v w'∧∃ X' v',Ending.returned v=.returned v'∧X'.σ=[some (.box cs)]∧(∀ id,¬ X'.pend id)∧Inv E E0 X' w'∧Ext X w X' w'∧TRep X' w' r v':=by
  rintro ⟨r',k1,k0,k2⟩
  obtain ⟨u,q1,q2⟩:=qfu (P:=P) g4 g6 k1
  have q2:=qri g4 k0 q2
  have ht:X'.σ.take 1=[some (.box cs)]:=by
   cases hx:X'.σ with
   | nil=>rw[hx]at k2; cases k2
   | cons o r=>rw[hx]at k2; simp at k2; subst k2; rfl
  have hi:=qnr (k:=1) g4 (by
   rw[ht]
   simp only[List.all_cons,List.all_nil,Bool.and_true]
   exact List.all_eq_true.2 fun c hc=>qo2 (List.all_eq_true.1 hcs c hc))
  have hx:=g5.trans (qnq (m:=1) (k:=1) (X:=X') (w:=w') g5.len (Nat.le_refl _))
  refine ⟨g6.defers,u,q1,{ X' with σ:=X'.σ.take 1 },u,rfl,ht,g3,hi,?_,qnt (qwi hr) q2⟩
  have:ExtB X.σ.length X w { X' with σ:=X'.σ.take 1 } w':=by rw[hσ]; exact hx
  exact this.ext g3
 cases ex with
 | exit id=>exact g2.elim
 | pan v=>exact g2.elim
 | normal=>exact fin g2
 | ret=>exact fin g2
theorem fnL (hb:Base E E0 G) {f:FuncId} {fn:Func} {c:Code} {rest:List AV} {cs:List AC} {D:π→Value} {enc:β→TV} {bc:β→List AC} {e:Option (π⊕β)} (hf:P.funcs[f]?=some fn) (hc:fn.body=some c)
  (h:∀ r,e=some r→J E E0 P G 1 (KL P fn D enc bc r) ⟨none,[c],[],q3o (.cell (.ptr 0 0 0)::rest) fn.ntmps,[some (.box cs)]⟩) (he:∀ y,(enc y).pure=true:=by exact fun _=>rfl) (hc':∀ y,(bc y).all AC.pure=true:=by exact fun _=>rfl):∀ r,e=some r→OkR E E0 P f rest cs D enc bc r:=fun r hq=>by
 have hj:=h r hq
 cases r with
 | inl p=>exact qqc hf hc (L_of hj)
 | inr y=>exact qtk rfl hf hc (he y) (hc' y) (L_of hj)
theorem panL {fn:Func} {D:π→Value} {enc:β→TV} {bc:β→List AC} {r:π⊕β} {p:π} (h:.inl p=r) (T:List TV) (σ:Sto):KL P fn D enc bc r (.pan (D p)) T σ:=by
 subst h; rfl
def qmy (P:Program) (fn:Func) (t:MS):Option (TV×Option (Option AObj)) :=
 match t.reg with
 | none=>match t.c with
  | .ret::_=>match q4e P t.T t.σ fn.results.toList with
   | some v=>match frzT [] v with
    | some v'=>some (v',t.σ[0]?)
    | none=>none
   | none=>none
  | _=>none
 | some _=>none
theorem q1w (hb:Base E E0 G) (n:Nat) {fn:Func} {D:π→Value} {enc:β→TV} {bc:β→List AC} {r:π⊕β} {x:β} (hq:.inr x=r) (h:qmy P fn (adv P G n s)=some (enc x,some (some (.box (bc x)))):=by kernel_rfl):J E E0 P G m (KL P fn D enc bc r) s:=by
 subst hq
 refine q2q hb n ?_
 generalize adv P G n s=t at *
 obtain ⟨reg,c,ctx,T,σ⟩:=t
 unfold qmy at h
 split at h
 ·rename_i e; simp only at e; subst e
  split at h
  ·rename_i r e; simp only at e; subst e
   split at h
   ·rename_i v hv
    split at h
    ·rename_i v' hv'
     simp at h
     obtain ⟨rfl,h2⟩:=h
     exact q6q (q9x ⟨_,hv,hv',h2⟩)
    ·cases h
   ·cases h
  ·cases h
 ·cases h
def lbind (e:Option (π⊕β)) (f:π→Option ρ) (k:β→Option ρ):Option ρ:=e.bind fun z=>match z with | .inl p=>f p | .inr y=>k y
theorem q2n (hb:Base E E0 G) (n id:Nat) {g:FuncId} {rest:List AV} {cs:List AC} {D:π→Value} {enc:β→TV} {bc:β→List AC} {e:Option (π⊕β)} {f:π→Option ρ} {kk:β→Option ρ} {x:ρ} (hq:lbind e f kk=some x) (hp:∀ y,e=some y→OkR E E0 P g rest cs D enc bc y)
  (k1:∀ p,e=some (.inl p)→f p=some x→∀ T σ,K (.pan (D p)) T σ)
  (k2:∀ y,e=some (.inr y)→kk y=some x→J E E0 P G m K (mSto (adv P G n s) (enc y) ((adv P G n s).σ.set id (some (.box (bc y))))))
  (h:mPre (q66 P G) (adv P G n s)=some (false,g,.cell (.ptr id 0 0)::rest):=by kernel_rfl) (ho:(adv P G n s).σ[id]?=some (some (.box cs)):=by kernel_rfl)
  (hr:rest.all AV.pure=true:=by rfl) (h2:(AObj.box cs).two=true:=by rfl) (hc:cs.all AC.pure=true:=by rfl) (h2':∀ y,(AObj.box (bc y)).two=true:=by exact fun _=>rfl) (hc':∀ y,(bc y).all AC.pure=true:=by exact fun _=>rfl) (he:∀ y,(enc y).pure=true:=by exact fun _=>rfl):J E E0 P G m K s :=
 callRE hb n id hq hp k1 k2 h ho hr h2 hc h2' hc' he
theorem drawLE (hb:Base E E0 G) (hmix:P.follows .mixedOrders=true) (n n1:Nat) (fl ids:List Nat) (c id:Nat) {g:FuncId} {rest:List AV} {cs:List AC} {D:π→Value} {enc:β→TV} {bc:β→List AC} {e:Option (π⊕β)} {f:π→Option ρ} {kk:β→Option ρ} {x:ρ} (hq:lbind e f kk=some x) (hp:∀ y,e=some y→OkR E E0 P g rest cs D enc bc y)
  (k1:∀ p,e=some (.inl p)→f p=some x→∀ T σ,K (.pan (D p)) T σ)
  (k2:∀ y,e=some (.inr y)→kk y=some x→J E E0 P G m K (aftS P G n1 c id (adv P G n s) (enc y) (bc y)))
  (h:preS P G n1 fl ids c id (adv P G n s)=some (g,rest,cs):=by kernel_rfl) (hmid:∀ y,(midS P G n1 c id (adv P G n s) (enc y) (bc y)).isSome=true:=by intro _; kernel_rfl)
  (hr:rest.all AV.pure=true:=by rfl) (h2:(AObj.box cs).two=true:=by rfl) (hc:cs.all AC.pure=true:=by rfl) (h2':∀ y,(AObj.box (bc y)).two=true:=by exact fun _=>rfl) (hc':∀ y,(bc y).all AC.pure=true:=by exact fun _=>rfl) (he:∀ y,(enc y).pure=true:=by exact fun _=>rfl):J E E0 P G m K s :=
 drawSE hb hmix n n1 fl ids c id hq hp k1 k2 h hmid hr h2 hc h2' hc' he
end
def relD (y x:Int):Prop:=x < y∧y≤32
theorem wfD:WellFounded relD:=by
 refine Subrelation.wf (r:=fun y x:Int=>(32 - y).toNat < (32 - x).toNat) (fun {y x} h=>?_) (InvImage.wf (fun x:Int=>(32 - x).toNat) Nat.lt_wfRel.wf)
 unfold relD at h
 omega
end Abs
end Go.Proofs.YtpidpioifnnllaaGreatDoor
