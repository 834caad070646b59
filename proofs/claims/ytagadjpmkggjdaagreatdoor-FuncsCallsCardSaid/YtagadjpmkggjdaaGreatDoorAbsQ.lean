import Derived.Test.YtagadjpmkggjdaaGreatDoorAbsL
set_option linter.unusedVariables false
set_option linter.unusedSimpArgs false
namespace Go.Proofs.YtagadjpmkggjdaaGreatDoor
namespace Abs
open Go.RowKit
variable {E : World -> Prop} {E0 : Nat} {P : Program} {X : Cx} {w : World} {G : Nat -> Option (List PV)}
theorem qha {B hs:Nat} {old:Nat->Nat->Prop} {Y:Cx} (hY:∀b o,(Cx.bare B hs old).prot b o->Y.prot b o) {c:AC} {u:Value} (h:CRep (Cx.bare B hs old) w c u):CRep Y w c u:=by
 cases c with
 | any=>trivial
 | undef=>exact h
 | ubool=>exact h
 | pv x=>exact PRep.mono (fun b o k=>⟨hY b o k,rfl⟩) h
 | own id ver off len=>exact absurd h.2.2.1 (by simp[Cx.bare])
 | ptr id ver off=>exact absurd h.2.2.1 (by simp[Cx.bare])
 | fn f caps =>
  obtain ⟨us,hu,hc⟩:=h
  exact ⟨us,hu,hc.imp fun c u k=>absurd k.2.2.1 (by simp[Cx.bare])⟩
 | mapr id=>exact absurd h.2.1 (by simp[Cx.bare])
theorem qhc {B hs:Nat} {old:Nat->Nat->Prop} {Y:Cx} (hY:∀b o,(Cx.bare B hs old).prot b o->Y.prot b o) {v:AV} {u:Value} (h:qf (Cx.bare B hs old) w v u):qf Y w v u:=by
 cases v with
 | cell c=>exact qha hY h
 | agg cs=>obtain ⟨us,hu,hc⟩:=h;exact ⟨us,hu,hc.imp fun _ _=>qha hY⟩
theorem qhb {B hs:Nat} {old:Nat->Nat->Prop} {Y:Cx} (hY:∀b o,(Cx.bare B hs old).prot b o->Y.prot b o) {v:TV} {u:Value} (h:TRep (Cx.bare B hs old) w v u):TRep Y w v u:=by
 cases v with
 | one v=>exact qhc hY h
 | tup vs=>obtain ⟨us,hu,hc⟩:=h;exact ⟨us,hu,hc.imp fun _ _=>qhc hY⟩
theorem qda (hi:Inv E E0 X w) (hn:∀id,¬X.pend id) {g:FuncId} {args:List AV} {eff:Eff} (h:CallEff E E0 P X.σ g args eff) {vs:List Value} (hv:All2 (qf X w) args vs) :
  enters P g=true/\Calls P g vs.toArray w fun e w'=>∃v X',e=.returned v/\X'.σ=effσ X.σ eff/\(∀id,¬X'.pend id)/\Inv E E0 X' w'/\Ext X w X' w'/\TRep X' w' (effV X.σ eff) v:=by
 obtain ⟨m1,m2,m3,m4⟩:=qey args hi hv
 have hv1:=hv.imp fun _ _=>qf.ext m2
 have pure:∀{args':List AV} {r:TV},q1h X.σ args=some args'->Pure E E0 P g args' r ->
   Calls P g vs.toArray w fun e w'=>∃v,e=.returned v/\Below w.heap.size w w'/\E w'/\TRep { X with σ:=q21 X.σ args,hs:=w'.heap.size } w' r v:=by
  intro args' r hf hp
  have ha:=qb1 m1 (Y:=Cx.bare w.heap.size w.heap.size ({ X with σ:=q21 X.σ args }:Cx).prot) (fun b o k=>.inl ⟨q5v m1 k,k⟩) (by rw[qb0 m3];exact hf) hv1 m4
  refine (hp _ w vs hi.env (Nat.le_trans hi.e0 hi.b0) (fun b o k=>qb3 m1 k) ha).mono ?_
  rintro e w' ⟨v,he,hb,hE,hr⟩
  refine ⟨v,he,hb,hE,qhb (fun b o k=>?_) hr⟩
  rcases k with ⟨_,k⟩|⟨k1,k2,_⟩
  .exact ((q2u m1 hb).prot b o k).1
  .refine .inr ⟨?_,k2,fun id ob l e' hp' hl hbl=>?_⟩
   .have:=hi.b0;have k1':w.heap.size<=b:=k1;show X.B0<=b;omega
   .have:=qai m1 (X:={ X with σ:=q21 X.σ args }) e' hp' hl
    have k1':w.heap.size<=b:=k1
    omega
 cases h with
 | val hf hen hp hc =>
  refine ⟨hen,(pure hf hp).mono ?_⟩
  rintro e w' ⟨v,he,hb,hE,hr⟩
  refine ⟨v,{ X with hs:=w'.heap.size },he,rfl,hn,q45 hi hb hE,q2u hi hb,?_⟩
  rcases hc with hc|hc
  .exact qj5 hc hr
  .rw[qex hc]at hr;exact hr
 | mark hf hen hp =>
  refine ⟨hen,(pure hf hp).mono ?_⟩
  rintro e w' ⟨v,he,hb,hE,hr⟩
  exact ⟨v,{ X with σ:=q21 X.σ args,hs:=w'.heap.size },he,rfl,hn,q45 m1 hb hE,m2.trans (q2u m1 hb),hr⟩
 | share hen ho =>
  refine ⟨hen,(ho X w vs rfl hn hi hv).mono ?_⟩
  rintro e w' ⟨X',v,he,h1,h2,h3,h4,h5⟩
  exact ⟨v,X',he,h1,h2,h3,h4,h5⟩
 | adopt hf hen ho =>
  have ha:=qb1 m1 (Y:={ X with σ:=q21 X.σ args }) (fun b o k=>k) (by rw[qb0 m3];exact hf) hv1 m4
  refine ⟨hen,(ho { X with σ:=q21 X.σ args } w vs rfl hn m1 ha).mono ?_⟩
  rintro e w' ⟨X',v,he,h1,h2,h3,h4,h5⟩
  exact ⟨v,X',he,h1,h2,h3,m2.trans h4,h5⟩
theorem qae (hE:∀w w',E w->Below E0 w w'->E w') (hG:GRep E E0 G) {ops:Array Oper} {Q:Exit->Act->World->Prop} {K:List TV->Sto->Prop}:∀(l:List Oper) (T:List TV) (X:Cx) (w:World) (a:Act),(∀id,¬X.pend id)->Inv E E0 X w->Frm X w T a->asq E E0 P G ops l T X.σ K ->
  (∀T' X' w' a',Ext X w X' w'->(∀id,¬X'.pend id)->Inv E E0 X' w'->Frm X' w' T' a'->K T' X'.σ->Q .normal a' w')->wpList P ops Q l a w
 | [],T,X,w,a,hn,hi,hf,h,hq=>hq T X w a (Ext.refl _ _) hn hi hf h
 | o::r,T,X,w,a,hn,hi,hf,h,hq=>by
  unfold asq at h
  have cont:∀{eff:Eff} {u:Value} {w':World} {X':Cx},X'.σ=effσ X.σ eff->(∀id,¬X'.pend id)->Inv E E0 X' w'->Ext X w X' w'->TRep X' w' (effV X.σ eff) u ->
    asq E E0 P G ops r (putT T o.dst (effV X.σ eff)) (effσ X.σ eff) K->wpList P ops Q r (a.put o.dst u) w':=by
   intro eff u w' X' e1 e2 e3 e4 e5 hk
   exact qae hE hG r _ X' w' _ e2 e3 (q80 hf e4 e5 _) (by rw[e1];exact hk) fun T' X2 w2 a2 k1 k2 k3 k4 k5=>hq T' X2 w2 a2 (e4.trans k1) k2 k3 k4 k5
  have noncall:(∃eff,aop P (evT G T) X.σ o.op=some eff/\asq E E0 P G ops r (putT T o.dst (effV X.σ eff)) (effσ X.σ eff) K)->o.wp P a w (wpList P ops Q r) Q:=by
   rintro ⟨eff,h1,h2⟩
   obtain ⟨u,w',X',g1,g2,g3,g4,g5,g6⟩:=qe2 hi hE hn (q7k (P:=P) (ev:=a.eval) hi hE (fun x _=>q5n hG hi hf x) h1)
   unfold Oper.wp
   rcases g1 with g1|⟨g1,rfl⟩
   .rw[g1];exact cont g2 g3 g4 g5 g6 h2
   .rw[g1];exact cont g2 g3 g4 g5 g6 h2
  split at h
  .rename_i hw
   unfold wpList
   rw[if_pos (qcl hf hw)]
   left
   unfold OpA at h
   split at h
   .rename_i f args tys hop
    split at h
    .rename_i g caps l hc ha
     obtain ⟨eff,hce,hk⟩:=h
     obtain ⟨us,hu,hcr⟩:=q95 hc (q5n hG hi hf f)
     have har:=qcy hG hi hf ha
     obtain ⟨hen,hcalls⟩:=qda hi hn hce (har.append hcr)
     have hrun:=q9s (P:=P) (o:=o) hop hu hen w
     unfold Oper.wp
     rw[hrun]
     show Calls P g _ w _
     have harr:args.map a.eval++us=(args.toList.map a.eval++us.toList).toArray:=by
      apply Array.ext';simp
     rw[harr]
     refine hcalls.mono ?_
     rintro e w' ⟨v,X',rfl,h1,h2,h3,h4,h5⟩
     exact cont h1 h2 h3 h4 h5 hk
    .exact h.elim
   .refine noncall ?_
    split at h
    .rename_i eff he
     exact ⟨eff,he,h⟩
    .exact h.elim
  .rename_i hw
   unfold wpList
   rw[if_neg (by rw[qcl hf hw];simp)]
   exact qae hE hG r _ X w _ hn hi (q80 hf (Ext.refl _ _) q7a _) h hq
  .exact h.elim
inductive Ex where
 | normal
 | exit (id:Nat)
 | ret
def Ex.out:Ex->Exit
 | .normal=>.normal
 | .exit id=>.exit id
 | .ret=>.ret
structure ExtB (m:Nat) (X:Cx) (w:World) (X':Cx) (w':World):Prop where
 b0:X'.B0=X.B0
 old:X'.old=X.old
 below:Below X.B0 w w'
 len:m<=X'.σ.length
 prot:∀b o,X.prot b o->X'.prot b o/\w'.cell? ⟨b,o,none⟩=w.cell? ⟨b,o,none⟩
 ids:∀id ob',id<m->X'.σ[id]?=some (some ob')->∃ob,X.σ[id]?=some (some ob)/\ob.ver<=ob'.ver/\(ob.ver=ob'.ver->X'.loc id=X.loc id/\ob'.kind=ob.kind/\ob.cells.length=ob'.cells.length)
 mloc:∀id r,id<m->X.mloc id=some r->X'.mloc id=some r
theorem Ext.b {X':Cx} {w':World} (h:Ext X w X' w') (hn:∀id,¬X.pend id) {m:Nat} (hm:m<=X.σ.length):ExtB m X w X' w' :=
 ⟨h.b0,h.old,h.below,Nat.le_trans hm h.len,h.prot,fun id ob' hl e=>h.ids id ob' (Nat.lt_of_lt_of_le hl hm) (hn id) e,fun id r hl e=>h.mloc id r (Nat.lt_of_lt_of_le hl hm) (hn id) e⟩
theorem ExtB.trans {m:Nat} {X1 X2:Cx} {w1 w2:World} (h:ExtB m X w X1 w1) (k:ExtB m X1 w1 X2 w2):ExtB m X w X2 w2:=by
 refine ⟨k.b0.trans h.b0,k.old.trans h.old,h.below.trans (h.b0 ▸ k.below),k.len,fun b o hp=>?_,fun id ob' hl e=>?_,fun id r hl e=>k.mloc id r hl (h.mloc id r hl e)⟩
 .obtain ⟨h1,h2⟩:=h.prot b o hp
  obtain ⟨k1,k2⟩:=k.prot b o h1
  exact ⟨k1,k2.trans h2⟩
 .obtain ⟨o1,e1,v1,s1⟩:=k.ids id ob' hl e
  obtain ⟨o0,e0,v0,s0⟩:=h.ids id o1 hl e1
  refine ⟨o0,e0,by omega,fun hv=>?_⟩
  obtain ⟨a1,a2,a3⟩:=s1 (by omega)
  obtain ⟨b1,b2,b3⟩:=s0 (by omega)
  exact ⟨a1.trans b1,a2.trans b2,b3.trans a3⟩
theorem ExtB.ext {X':Cx} {w':World} (h:ExtB X.σ.length X w X' w') (hn:∀id,¬X'.pend id):Ext X w X' w' :=
 ⟨h.b0,h.old,h.below,h.len,h.prot,fun id _ _=>hn id,fun id ob' hl _ e=>h.ids id ob' hl e,fun id r hl _ e=>h.mloc id r hl e⟩
def Post (E:World->Prop) (E0 m:Nat) (X:Cx) (w:World) (K:Ex->List TV->Sto->Prop):Exit->Act->World->Prop:=fun e a' w' =>
 ∃ex T' X',e=Ex.out ex/\K ex T' X'.σ/\(∀id,¬X'.pend id)/\Inv E E0 X' w'/\ExtB m X w X' w'/\Frm X' w' T' a'
structure Base (E:World->Prop) (E0:Nat) (G:Nat->Option (List PV)):Prop where
 step:∀w w',E w->Below E0 w w'->E w'
 glob:GRep E E0 G
def awp (E:World->Prop) (E0:Nat) (P:Program) (m:Nat) (c:Code) (T:List TV) (σ:Sto) (K:Ex->List TV->Sto->Prop):Prop :=
 ∀(X:Cx) (w:World) (a:Act),X.σ=σ->m<=σ.length->(∀id,¬X.pend id)->Inv E E0 X w->Frm X w T a->c.wp P (Post E E0 m X w K) a w
variable {m : Nat} {T : List TV} {σ : Sto} {K : Ex -> List TV -> Sto -> Prop}
theorem qaf {c:Code} {K':Ex->List TV->Sto->Prop} (h:awp E E0 P m c T σ K) (hk:∀ex T' σ',K ex T' σ'->K' ex T' σ'):awp E E0 P m c T σ K' :=
 fun X w a h1 h2 h3 h4 h5=>wp_mono (h X w a h1 h2 h3 h4 h5) fun _ _ _ ⟨ex,T',X',g1,g2,g3⟩=>⟨ex,T',X',g1,hk _ _ _ g2,g3⟩
theorem qff {X:Cx} {w:World} {a:Act} {ex:Ex} {T:List TV} (h2:m<=X.σ.length) (h3:∀id,¬X.pend id) (h4:Inv E E0 X w) (h5:Frm X w T a) (hk:K ex T X.σ):Post E E0 m X w K ex.out a w :=
 ⟨ex,T,X,rfl,hk,h3,h4,(Ext.refl X w).b h3 h2,h5⟩
theorem qpl (h:K .normal T σ):awp E E0 P m .skip T σ K:=fun _ _ _ h1 h2 h3 h4 h5=>wp_skip (qff (ex:=.normal) (h1 ▸ h2) h3 h4 h5 (h1 ▸ h))
theorem qpj (h:K .ret T σ):awp E E0 P m .ret T σ K:=fun _ _ _ h1 h2 h3 h4 h5=>wp_ret (qff (ex:=.ret) (h1 ▸ h2) h3 h4 h5 (h1 ▸ h))
theorem qpf {id:Nat} (h:K (.exit id) T σ):awp E E0 P m (.exit id) T σ K:=fun _ _ _ h1 h2 h3 h4 h5=>wp_exit (qff (ex:=.exit id) (h1 ▸ h2) h3 h4 h5 (h1 ▸ h))
theorem q73 {X1:Cx} {w1:World} (h:ExtB m X w X1 w1) {e:Exit} {a:Act} {w2:World} (k:Post E E0 m X1 w1 K e a w2):Post E E0 m X w K e a w2:=by
 obtain ⟨ex,T',X',g1,g2,g3,g4,g5,g6⟩:=k
 exact ⟨ex,T',X',g1,g2,g3,g4,h.trans g5,g6⟩
theorem qpk {c d:Code} (h:awp E E0 P m c T σ fun ex T' σ'=>match ex with|.normal=>awp E E0 P m d T' σ' K|ex=>K ex T' σ'):awp E E0 P m (.seq c d) T σ K:=by
 intro X w a h1 h2 h3 h4 h5
 refine wp_seq (wp_mono (h X w a h1 h2 h3 h4 h5) ?_)
 rintro e a' w' ⟨ex,T',X',rfl,g2,g3,g4,g5,g6⟩
 cases ex with
 | normal =>
  show d.wp P _ a' w'
  exact wp_mono (g2 X' w' a' rfl g5.len g3 g4 g6) fun _ _ _ k=>q73 g5 k
 | exit id=>exact ⟨.exit id,T',X',rfl,g2,g3,g4,g5,g6⟩
 | ret=>exact ⟨.ret,T',X',rfl,g2,g3,g4,g5,g6⟩
theorem qh8 {id:Nat} {c:Code} (h:awp E E0 P m c T σ fun ex T' σ'=>match ex with|.exit i=>if i=id then K .normal T' σ' else K (.exit i) T' σ'|ex=>K ex T' σ'):awp E E0 P m (.block id c) T σ K:=by
 intro X w a h1 h2 h3 h4 h5
 refine wp_block (wp_mono (h X w a h1 h2 h3 h4 h5) ?_)
 rintro e a' w' ⟨ex,T',X',rfl,g2,g3,g4,g5,g6⟩
 cases ex with
 | normal=>exact ⟨.normal,T',X',rfl,g2,g3,g4,g5,g6⟩
 | ret=>exact ⟨.ret,T',X',rfl,g2,g3,g4,g5,g6⟩
 | exit i =>
  simp only at g2
  show if i=id then _ else _
  split
  .rename_i e;rw[if_pos e]at g2;exact ⟨.normal,T',X',rfl,g2,g3,g4,g5,g6⟩
  .rename_i e;rw[if_neg e]at g2;exact ⟨.exit i,T',X',rfl,g2,g3,g4,g5,g6⟩
theorem qpc (hb:Base E E0 G) {c:Operand} {t:Bool} {x y:Code} (hc:evT G T c=Abs.sc (.bool t)) (h:if t then awp E E0 P m x T σ K else awp E E0 P m y T σ K):awp E E0 P m (.cond c x y) T σ K:=by
 intro X w a h1 h2 h3 h4 h5
 have hr:=q5n hb.glob h4 h5 c
 rw[hc]at hr
 refine wp_cond (t:=t) (q25 hr).1 ?_
 cases t with
 | true=>exact h X w a h1 h2 h3 h4 h5
 | false=>exact h X w a h1 h2 h3 h4 h5
theorem qpn (hb:Base E E0 G) {c:Operand} {x y:Code} (hc:evT G T c=.one (.cell .ubool)) (hx:awp E E0 P m x T σ K) (hy:awp E E0 P m y T σ K):awp E E0 P m (.cond c x y) T σ K:=by
 intro X w a h1 h2 h3 h4 h5
 have hr:=q5n hb.glob h4 h5 c
 rw[hc]at hr
 obtain ⟨t,ht⟩:=hr
 refine wp_cond (t:=t) ht ?_
 cases t with
 | true=>exact hx X w a h1 h2 h3 h4 h5
 | false=>exact hy X w a h1 h2 h3 h4 h5
theorem qh9 (hb:Base E E0 G) {id:Nat} {ops:Array Oper} (h:asq E E0 P G ops ops.toList T σ (K .normal)):awp E E0 P m (.region id ops false) T σ K:=by
 intro X w a h1 h2 h3 h4 h5
 subst h1
 exact wp_region_list (qae hb.step hb.glob ops.toList T X w a h3 h4 h5 h fun T' X' w' a' k1 k2 k3 k4 k5=>⟨.normal,T',X',rfl,k5,k2,k3,k1.b h3 h2,k4⟩)
end Abs
end Go.Proofs.YtagadjpmkggjdaaGreatDoor
namespace Go.Proofs.YtagadjpmkggjdaaGreatDoor
namespace Abs
open Go.RowKit
variable {E : World -> Prop} {E0 : Nat} {P : Program} {X : Cx} {w : World} {G : Nat -> Option (List PV)} {m : Nat} {T : List TV} {σ : Sto} {K : Ex -> List TV -> Sto -> Prop}
theorem qdt {id:Nat}:∀{k k':List Item},exitTo id k=some k'->k'.length<=k.length
 | [],_,h=>by simp[exitTo]at h
 | x::k,k',h=>by
  cases x with
  | inBlock i =>
   simp only[exitTo]at h
   split at h
   .simp at h;subst h;simp
   .have:=qdt h;simp;omega
  | _=>simp only[exitTo]at h;have:=qdt h;simp;omega
theorem qfy {b:Frame} {a:Act} {c:Code} {k:List Item} {cs:List Frame} {w:World} {m':Machine} (h:Steps P (lone (b.at a (.code (.loop c)::k)) cs w) m') (hne:lone (b.at a (.code (.loop c)::k)) cs w≠m') :
  Steps P (lone (b.at a (.inLoop c::k)) cs w) m':=by
 obtain ⟨n,hn⟩:=h
 cases n with
 | zero=>simp only[runN,Stepped.next.injEq]at hn;exact absurd hn hne
 | succ n =>
  simp only[runN,step_loop]at hn
  exact .head step_inLoop ⟨n,hn⟩
theorem qp7 {b:Frame} {a:Act} {c:Code} {k:List Item} {cs:List Frame} {w:World} {ex:Ex} {a':Act} {w':World} (h:Arrives P (lone (b.at a (.code (.loop c)::k)) cs w) b k cs ex.out a' w') :
  Arrives P (lone (b.at a (.inLoop c::k)) cs w) b k cs ex.out a' w':=by
 cases ex with
 | normal =>
  refine qfy h fun e=>?_
  simp[lone,Frame.at]at e
 | exit id =>
  intro k' hk
  refine qfy (h k' hk) fun e=>?_
  have h0:=congrArg (fun M:Machine=>(M.gs[0]?).map fun g=>g.frame.todo.length) e
  have h2:=qdt hk
  simp[lone,Frame.at]at h0
  omega
 | ret =>
  obtain ⟨todo,hs⟩:=h
  refine ⟨todo,qfy hs fun e=>?_⟩
  simp[lone,Frame.at]at e
theorem qpi {b:Code} (h:awp E E0 P m b T σ fun ex T' σ'=>match ex with|.normal=>awp E E0 P m (.loop b) T' σ' K|ex=>K ex T' σ'):awp E E0 P m (.loop b) T σ K:=by
 intro X w a h1 h2 h3 h4 h5 fr k cs
 obtain ⟨e,a1,w1,⟨ex,T',X',rfl,g2,g3,g4,g5,g6⟩,harr⟩:=h X w a h1 h2 h3 h4 h5 fr (.inLoop b::k) cs
 cases ex with
 | normal =>
  obtain ⟨e2,a2,w2,hq2,harr2⟩:=g2 X' w1 a1 rfl g5.len g3 g4 g6 fr k cs
  obtain ⟨ex2,T2,X2,rfl,q2⟩:=hq2
  refine ⟨ex2.out,a2,w2,⟨ex2,T2,X2,rfl,q2.1,q2.2.1,q2.2.2.1,g5.trans q2.2.2.2.1,q2.2.2.2.2⟩,.of_steps (.one step_loop) (.of_steps harr (qp7 harr2))⟩
 | exit id=>exact ⟨_,a1,w1,⟨.exit id,T',X',rfl,g2,g3,g4,g5,g6⟩,.of_steps (.one step_loop) (.pass (x:=.inLoop b) rfl (fun _ _=>.inl (by simp[Ex.out])) harr)⟩
 | ret=>exact ⟨_,a1,w1,⟨.ret,T',X',rfl,g2,g3,g4,g5,g6⟩,.of_steps (.one step_loop) (.pass (x:=.inLoop b) rfl (fun _ _=>.inl (by simp[Ex.out])) harr)⟩
def q4j (ks:List Nat) (T:List TV):List TV:=T.mapIdx fun i t=>if ks.contains i then t else .one (.cell .any)
theorem qpg (ks:List Nat) {c:Code} (h:awp E E0 P m c (q4j ks T) σ K):awp E E0 P m c T σ K:=by
 intro X w a h1 h2 h3 h4 h5
 refine h X w a h1 h2 h3 h4 ⟨by simp[q4j,h5.len],fun i t u e1 e2=>?_,h5.defers⟩
 simp[q4j]at e1
 obtain ⟨t',e1,rfl⟩:=e1
 split
 .exact h5.rep i t' u e1 e2
 .trivial
def AC.under (k:Nat):AC->Bool
 | .own id _ _ _=>decide (id < k)
 | .ptr id _ _=>decide (id < k)
 | .fn _ caps=>caps.all fun c=>decide (c.1 < k)
 | .mapr id=>decide (id < k)
 | _=>true
def AV.under (k:Nat) (v:AV):Bool:=v.cells.all (AC.under k)
def TV.under (k:Nat):TV->Bool
 | .one v=>v.under k
 | .tup vs=>vs.all (AV.under k)
def AObj.under (k:Nat):AObj->Bool
 | .box cs=>cs.all (AC.under k)
 | .arr _ _ _=>true
 | .nilarr _=>true
 | .mp _ _=>true
def q49 (k:Nat):Option AObj->Bool
 | none=>true
 | some o=>o.under k
def killσ (ids:List Nat) (σ:Sto):Sto:=σ.mapIdx fun i o=>if ids.contains i then none else o
theorem q9g {ids:List Nat} {σ:Sto} {id:Nat} {ob:AObj} (h:(killσ ids σ)[id]?=some (some ob)):σ[id]?=some (some ob):=by
 simp[killσ]at h
 exact h.1
theorem qg1 {X X':Cx} (h1:X'.B0=X.B0) (h2:X'.hs=X.hs) (h3:X'.old=X.old) (h4:X'.loc=X.loc) (h5:X'.pend=X.pend) (hs:∀(id:Nat) (ob:AObj),X'.σ[id]?=some (some ob)->X.σ[id]?=some (some ob)) {b o:Nat} (h:X.prot b o):X'.prot b o:=by
 rcases h with ⟨k1,k2⟩|⟨k1,k2,k3⟩
 .exact .inl ⟨by rw[h1];exact k1,by rw[h3];exact k2⟩
 .exact .inr ⟨by rw[h1];exact k1,by rw[h2];exact k2,fun id ob l e hp hl hb=>k3 id ob l (hs id ob e) (by rw[←h5];exact hp) (by rw[←h4];exact hl) hb⟩
theorem qf.to {Y:Cx} {w':World} {v:AV} {u:Value} (hc:∀c∈v.cells,∀u,CRep X w c u->CRep Y w' c u) (h:qf X w v u):qf Y w' v u:=by
 cases v with
 | cell c=>exact hc c (by simp[AV.cells]) u h
 | agg cs =>
  obtain ⟨us,hu,ha⟩:=h
  refine ⟨us,hu,All2.of_get ha.length fun i c u h1 h2=>?_⟩
  obtain ⟨u',h3,h4⟩:=ha.get i c h1
  rw[h2]at h3
  obtain rfl:u=u':=by simpa using h3
  exact hc c (List.mem_of_getElem? h1) u h4
theorem que {ag:Bool} {ps:List PV} {v:AV} (h:mval ag ps=some v):∀c∈v.cells,∃p,c=.pv p:=by
 unfold mval at h
 split at h
 .simp at h;subst h
  intro c hc
  simp[AV.cells]at hc
  obtain ⟨p,_,rfl⟩:=hc;exact ⟨p,rfl⟩
 .simp at h;subst h
  intro c hc
  simp[AV.cells]at hc
  exact ⟨_,hc⟩
 .cases h
theorem qnb (hi:Inv E E0 X w) {σ':Sto} (hs:∀(id:Nat) (ob:AObj),σ'[id]?=some (some ob)->X.σ[id]?=some (some ob))
  (hc:∀(id:Nat) (ob:AObj),σ'[id]?=some (some ob)->∀c∈ob.cells,∀u,CRep X w c u->CRep { X with σ:=σ' } w c u):Inv E E0 { X with σ:=σ' } w:=by
 refine ⟨hi.hs,hi.b0,hi.e0,hi.env,fun id ob e hp hbr=>?_,fun i i' ob1 ob2 l l' e e'=>hi.inj i i' ob1 ob2 l l' (hs i ob1 e) (hs i' ob2 e'),hi.glob,fun id ob e=>hi.bare id ob (hs id ob e),fun id ag es e hp=>?_,fun id id' ag ag' es es' r e e'=>hi.maps.2 id id' ag ag' es es' r (hs _ _ e) (hs _ _ e')⟩
 rotate_left
 .obtain ⟨r,arr,k,q1,q2,q3,q4⟩:=hi.maps.1 id ag es (hs _ _ e) hp
  refine ⟨r,arr,k,q1,q2,q3,q4.imp fun c e ⟨g1,v,g2,g3⟩=>⟨g1,v,g2,?_⟩⟩
  have hpv:∀b o,X.prot b o->({ X with σ:=σ' }:Cx).prot b o:=fun b o h=>qg1 (X:=X) (X':={ X with σ:=σ' }) rfl rfl rfl rfl rfl hs h
  have hcell:∀c∈v.cells,∃p,c=.pv p:=que g2
  exact qf.to (fun c hc u hu=>by
   obtain ⟨p,rfl⟩:=hcell c hc
   exact PRep.mono (fun b o k=>⟨hpv b o k,rfl⟩) hu) g3
 obtain ⟨l,hl,hB,cs,T,hg,hz,hr⟩:=hi.ob id ob (hs id ob e) hp hbr
 exact ⟨l,hl,hB,cs,T,hg,hz,fun i c hic=>(hr i c hic).imp fun u hu=>⟨hu.1,hc id ob e c (List.mem_of_getElem? hic) u hu.2⟩⟩
theorem qk3 (X:Cx) (ids:List Nat) {b o:Nat} (h:X.prot b o):({ X with σ:=killσ ids X.σ }:Cx).prot b o :=
 qg1 (X:=X) (X':={ X with σ:=killσ ids X.σ }) rfl rfl rfl rfl rfl (fun _ _ e=>q9g (ids:=ids) (σ:=X.σ) e) h
theorem qec {ids:List Nat} {c:AC} {u:Value} (h:CRep X w c u):CRep { X with σ:=killσ ids X.σ } w c u:=by
 have hlen:(killσ ids X.σ).length=X.σ.length:=by simp[killσ]
 have ptr:∀{id ver off:Nat} {u:Value},q3a X id ver off u->q3a { X with σ:=killσ ids X.σ } id ver off u:=fun k =>
  ⟨k.1,k.2.1,by show _<(killσ ids X.σ).length;rw[hlen];exact k.2.2.1,fun ob e=>k.2.2.2 ob (q9g e)⟩
 cases c with
 | any=>trivial
 | undef=>exact h
 | ubool=>exact h
 | pv x=>exact PRep.mono (fun b o k=>⟨qk3 X ids k,rfl⟩) h
 | own id ver off len=>exact ⟨h.1,h.2.1,by show _ < (killσ ids X.σ).length;rw[hlen];exact h.2.2.1,fun ob e=>h.2.2.2 ob (q9g e)⟩
 | ptr id ver off=>exact ptr h
 | fn f caps=>obtain ⟨us,hu,hc⟩:=h;exact ⟨us,hu,hc.imp fun _ _=>ptr⟩
 | mapr id=>exact ⟨h.1,by show _ < (killσ ids X.σ).length;rw[hlen];exact h.2.1,h.2.2⟩
theorem q9z {k:Nat} {σ:Sto} {id:Nat} {ob:AObj} (h:(σ.take k)[id]?=some (some ob)):σ[id]?=some (some ob):=by
 rw[List.getElem?_take]at h
 split at h
 .exact h
 .cases h
theorem qne (X:Cx) (k:Nat) {b o:Nat} (h:X.prot b o):({ X with σ:=X.σ.take k }:Cx).prot b o :=
 qg1 (X:=X) (X':={ X with σ:=X.σ.take k }) rfl rfl rfl rfl rfl (fun _ _ e=>q9z (k:=k) (σ:=X.σ) e) h
theorem qg2 {k:Nat} {c:AC} {u:Value} (hk:c.under k=true) (h:CRep X w c u):CRep { X with σ:=X.σ.take k } w c u:=by
 have ptr:∀{id ver off:Nat} {u:Value},id<k->q3a X id ver off u->q3a { X with σ:=X.σ.take k } id ver off u:=fun hlt q =>
  ⟨q.1,q.2.1,by show _<(X.σ.take k).length;have:=q.2.2.1;simp;omega,fun ob e=>q.2.2.2 ob (q9z e)⟩
 cases c with
 | any=>trivial
 | undef=>exact h
 | ubool=>exact h
 | pv x=>exact PRep.mono (fun b o q=>⟨qne X k q,rfl⟩) h
 | own id ver off len =>
  have hlt:id<k:=by simpa [AC.under] using hk
  exact ⟨h.1,h.2.1,by show _<(X.σ.take k).length;have:=h.2.2.1;simp;omega,fun ob e=>h.2.2.2 ob (q9z e)⟩
 | ptr id ver off=>exact ptr (by simpa [AC.under] using hk) h
 | fn f caps =>
  obtain ⟨us,hu,hc⟩:=h
  refine ⟨us,hu,All2.of_get hc.length fun i c u h1 h2=>?_⟩
  obtain ⟨u',h3,h4⟩:=hc.get i c h1
  rw[h2]at h3
  obtain rfl:u=u':=by simpa using h3
  simp[AC.under]at hk
  exact ptr (hk _ _ _ (List.mem_of_getElem? h1)) h4
 | mapr id =>
  have hlt:id<k:=by simpa [AC.under] using hk
  exact ⟨h.1,by show _<(X.σ.take k).length;have:=h.2.1;simp;omega,h.2.2⟩
theorem qzc {k:Nat} {v:TV} {u:Value} (hk:v.under k=true) (h:TRep X w v u):TRep { X with σ:=X.σ.take k } w v u:=by
 cases v with
 | one v=>exact qf.to (fun c hc u q=>qg2 (by simp[TV.under,AV.under]at hk;exact hk c hc) q) h
 | tup vs =>
  obtain ⟨us,hu,ha⟩:=h
  refine ⟨us,hu,All2.of_get ha.length fun i c u h1 h2=>?_⟩
  obtain ⟨u',h3,h4⟩:=ha.get i c h1
  rw[h2]at h3
  obtain rfl:u=u':=by simpa using h3
  simp[TV.under,AV.under]at hk
  exact qf.to (fun d hd u q=>qg2 (hk c (List.mem_of_getElem? h1) d hd) q) h4
theorem qt0 {ids:List Nat} {v:TV} {u:Value} (h:TRep X w v u):TRep { X with σ:=killσ ids X.σ } w v u:=by
 cases v with
 | one v=>exact qf.to (fun c _ u q=>qec q) h
 | tup vs=>obtain ⟨us,hu,ha⟩:=h;exact ⟨us,hu,ha.imp fun _ _ k=>qf.to (fun c _ u q=>qec q) k⟩
theorem qsz (ids:List Nat) (hi:Inv E E0 X w):Inv E E0 { X with σ:=killσ ids X.σ } w:=qnb hi (fun _ _ e=>q9g e) fun _ _ _ _ _ _ q=>qec q
theorem qzb {k:Nat} (hi:Inv E E0 X w) (hk:(X.σ.take k).all (q49 k)=true):Inv E E0 { X with σ:=X.σ.take k } w:=by
 refine qnb hi (fun _ _ e=>q9z e) fun id ob e c hc u q=>qg2 ?_ q
 have h1:=List.all_eq_true.1 hk _ (List.mem_of_getElem? e)
 cases ob with
 | box cs=>simp[q49,AObj.under]at h1;exact h1 c hc
 | arr ps sz fr=>simp[AObj.cells]at hc;obtain ⟨p,_,rfl⟩:=hc;rfl
 | nilarr sz=>simp[AObj.cells]at hc
 | mp _ _=>simp[AObj.cells]at hc
theorem qsy {ids:List Nat} {X:Cx} {w:World} (hm:m<=X.σ.length):ExtB m X w { X with σ:=killσ ids X.σ } w :=
 ⟨rfl,rfl,Below.refl _ _,by simp[killσ];exact hm,fun b o h=>⟨qk3 X ids h,rfl⟩,fun id ob' _ e=>⟨ob',q9g e,Nat.le_refl _,fun _=>⟨rfl,rfl,rfl⟩⟩,fun _ _ _ h=>h⟩
theorem qza {k:Nat} {X:Cx} {w:World} (hm:m<=X.σ.length) (hk:m<=k):ExtB m X w { X with σ:=X.σ.take k } w :=
 ⟨rfl,rfl,Below.refl _ _,by simp;omega,fun b o h=>⟨qne X k h,rfl⟩,fun id ob' _ e=>⟨ob',q9z e,Nat.le_refl _,fun _=>⟨rfl,rfl,rfl⟩⟩,fun _ _ _ h=>h⟩
theorem qph (ids:List Nat) {c:Code} (h:awp E E0 P m c T (killσ ids σ) K):awp E E0 P m c T σ K:=by
 intro X w a h1 h2 h3 h4 h5
 subst h1
 have:=h { X with σ:=killσ ids X.σ } w a rfl (by simp[killσ];exact h2) h3 (qsz ids h4) ⟨h5.len,fun i t u e1 e2=>qt0 (h5.rep i t u e1 e2),h5.defers⟩
 exact wp_mono this fun _ _ _ k=>q73 (qsy h2) k
theorem qpm (k:Nat) {c:Code} (hm:m<=k) (hT:T.all (TV.under k)=true) (hs:(σ.take k).all (q49 k)=true) (h:awp E E0 P m c T (σ.take k) K):awp E E0 P m c T σ K:=by
 intro X w a h1 h2 h3 h4 h5
 subst h1
 have:=h { X with σ:=X.σ.take k } w a rfl (by simp;omega) h3 (qzb h4 hs) ⟨h5.len,fun i t u e1 e2=>qzc (List.all_eq_true.1 hT _ (List.mem_of_getElem? e1)) (h5.rep i t u e1 e2),h5.defers⟩
 exact wp_mono this fun _ _ _ k=>q73 (qza h2 hm) k
def qc1 (P:Program) (T:List TV) (σ:Sto):ResultVar->Option AV
 | .tmp t=>avOf (T.getD t q11)
 | .cell p t=>match q14 (T.getD p q11),size? P t,isAgg? P t with
  | some (.ptr id ver off),some n,some ag=>match live σ id ver with
   | some ob=>rd ob.cells off n ag
   | none=>none
  | _,_,_=>none
def q75 (P:Program) (T:List TV) (σ:Sto):List ResultVar->Option (List AV)
 | []=>some []
 | r::l=>(qc1 P T σ r).bind fun v=>(q75 P T σ l).map fun vs=>v::vs
def q6l (P:Program) (T:List TV) (σ:Sto) (rs:List ResultVar):Option TV :=
 match q75 P T σ rs with
 | some [v]=>some (.one v)
 | some vs=>some (.tup vs)
 | none=>none
def resV (tmps:Array Value) (r:ResultVar):Sem Value:=match r with|.tmp t=>pure (tmps.getD t undef)|.cell p t=>do loadVar t (←asAddr (tmps.getD p undef))
theorem qwz (hi:Inv E E0 X w) {T:List TV} {a:Act} (hf:Frm X w T a) {r:ResultVar} {v:AV} (h:qc1 P T X.σ r=some v) :
  ∃u,(resV a.tmps r).run P w=.ok u w/\qf X w v u:=by
 have hG:GRep E E0 (fun _=>none):=fun _ _ _ _ h=>by cases h
 cases r with
 | tmp t =>
  have hr:=q5n hG hi hf (.tmp t)
  have h':avOf (T.getD t q11)=some v:=h
  have e:evT (fun _=>none) T (.tmp t)=.one v:=q6t h'
  rw[e]at hr
  exact ⟨_,rfl,hr⟩
 | cell p t =>
  have hr:=q5n hG hi hf (.tmp p)
  simp only[qc1]at h
  split at h
  .rename_i id ver off n ag h1 h2 h3
   have e:evT (fun _=>none) T (.tmp p)=.one (.cell (.ptr id ver off)):=q1c h1
   rw[e]at hr
   split at h
   .rename_i ob hl
    obtain ⟨hp,hob,l,hloc,hu⟩:=q8g (X:=X) hr hl
    obtain ⟨u,hrun,hrep⟩:=qeh (P:=P) (t:=t) (q9n hi hob hp hloc) h2 h3 h
    refine ⟨u,?_,hrep⟩
    simp only[Nat.zero_add]at hrun
    have hu':a.tmps.getD p undef=.pointer (some ⟨l.1,off,none⟩):=hu
    simp[resV,hu',asAddr,hrun]
   .cases h
  .cases h
theorem qmi (hi:Inv E E0 X w) {T:List TV} {a:Act} (hf:Frm X w T a):∀{rs:List ResultVar} {vs:List AV},q75 P T X.σ rs=some vs ->
  ∃us,(rs.mapM (resV a.tmps)).run P w=.ok us w/\All2 (qf X w) vs us
 | [],vs,h=>by simp[q75]at h;subst h;exact ⟨[],by simp,trivial⟩
 | r::rs,vs,h=>by
  simp only[q75,Option.bind_eq_some_iff,Option.map_eq_some_iff]at h
  obtain ⟨v,h1,l,h2,rfl⟩:=h
  obtain ⟨u,g1,g2⟩:=qwz (P:=P) hi hf h1
  obtain ⟨us,k1,k2⟩:=qmi hi hf h2
  refine ⟨u::us,?_,g2,k2⟩
  simp only[List.mapM_cons,Sem.run_bind,g1,Result.andThen_ok,k1,Sem.run_pure]
theorem qmj (hi:Inv E E0 X w) {T:List TV} {a:Act} (hf:Frm X w T a) {fn:Func} {r:TV} (h:q6l P T X.σ fn.results.toList=some r):∃u,(results fn a.tmps).run P w=.ok u w/\TRep X w r u:=by
 unfold q6l at h
 have key:∀{vs:List AV},q75 P T X.σ fn.results.toList=some vs->∃us:List Value,(results fn a.tmps).run P w=.ok (if h:us.toArray.size=1 then us.toArray[0] else .tuple us.toArray) w/\All2 (qf X w) vs us:=by
  intro vs hv
  obtain ⟨us,k1,k2⟩:=qmi (P:=P) hi hf hv
  refine ⟨us,?_,k2⟩
  have:results fn a.tmps=(do let vs ←fn.results.mapM (resV a.tmps);pure (if h:vs.size=1 then vs[0] else .tuple vs)):=rfl
  rw[this,Sem.run_bind,Array.mapM_eq_mapM_toList,Sem.run_map,k1]
  rfl
 split at h
 .rename_i v hv
  simp at h;subst h
  obtain ⟨us,k1,k2⟩:=key hv
  match us,k2,k1 with
  | [u],k2,k1=>exact ⟨u,by simpa using k1,k2.1⟩
 .rename_i vs hne hv
  simp at h;subst h
  obtain ⟨us,k1,k2⟩:=key hv
  have:us.length≠1:=by
   intro e
   rw[←k2.length]at e
   match vs,e,hne with
   | [v],_,hne=>exact hne v rfl
  refine ⟨.tuple us.toArray,?_,us.toArray,rfl,by simpa using k2⟩
  rw[k1];simp[this]
 .cases h
def q2p (args:List AV) (n:Nat):List TV:=args.map .one++List.replicate (n-args.length) q11
theorem qih {args:List AV} {vs:List Value} (h:All2 (qf X w) args vs) (n:Nat):Frm X w (q2p args n) { tmps:=vs.toArray++Array.replicate (n-vs.toArray.size) undef,defers:=[] }:=by
 have hl:=h.length
 refine ⟨by simp[q2p,hl],fun i t u h1 h2=>?_,rfl⟩
 simp only[q2p,List.getElem?_append,List.length_map]at h1
 simp only[Array.getElem?_append,List.size_toArray]at h2
 rw[hl]at h1
 split at h1
 .rename_i hlt
  rw[if_pos hlt]at h2
  simp at h1 h2
  obtain ⟨v,h3,rfl⟩:=h1
  obtain ⟨u',h4,h5⟩:=h.get i v h3
  rw[h2]at h4
  obtain rfl:u=u':=by simpa using h4
  exact h5
 .rename_i hge
  rw[if_neg hge]at h2
  have e1:t=q11:=by
   have:=List.mem_of_getElem? h1
   exact List.eq_of_mem_replicate this
  have e2:u=undef:=by
   rw[Array.getElem?_replicate]at h2
   split at h2
   .simpa using h2.symm
   .cases h2
  rw[e1,e2];exact q7a
def Ends (P:Program) (fn:Func) (R:TV->Sto->Prop):Ex->List TV->Sto->Prop
 | .exit _,_,_=>False
 | _,T,σ=>∃r,q6l P T σ fn.results.toList=some r/\R r σ
theorem qul {f:FuncId} {fn:Func} {c:Code} {args:List AV} {σ σ':Sto} {r:TV} (hf:P.funcs[f]?=some fn) (hc:fn.body=some c)
  (h:awp E E0 P σ.length c (q2p args fn.ntmps) σ (Ends P fn fun r' σ1=>r'=r/\σ1=σ')):Ok E E0 P f args σ r σ':=by
 intro X w vs h1 h2 h3 h4
 refine calls_of_wp hf hc (wp_mono (h X w _ h1 (Nat.le_refl _) h2 h3 (qih h4 _)) ?_)
 subst h1
 rintro e a' w' ⟨ex,T',X',rfl,g2,g3,g4,g5,g6⟩
 have fin:(∃r',q6l P T' X'.σ fn.results.toList=some r'/\r'=r/\X'.σ=σ')->a'.defers=[]/\∃v,(results fn a'.tmps).run P w'=.ok v w'/\∃X' v',Ending.returned v=.returned v'/\X'.σ=σ'/\(∀id,¬X'.pend id)/\Inv E E0 X' w'/\Ext X w X' w'/\TRep X' w' r v':=by
  rintro ⟨r',k1,rfl,k2⟩
  obtain ⟨u,q1,q2⟩:=qmj (P:=P) g4 g6 k1
  exact ⟨g6.defers,u,q1,X',u,rfl,k2,g3,g4,g5.ext g3,q2⟩
 cases ex with
 | exit id=>exact g2.elim
 | normal=>exact fin g2
 | ret=>exact fin g2
theorem qw6 {f:FuncId} {fn:Func} {c:Code} {args:List AV} {r:TV} (hf:P.funcs[f]?=some fn) (hc:fn.body=some c)
  (h:awp E E0 P 0 c (q2p args fn.ntmps) [] (Ends P fn fun r' σ1=>frzT σ1 r'=some r)):Pure E E0 P f args r:=by
 intro old w vs he he0 hold h4
 have hinv:Inv E E0 (Cx.bare w.heap.size w.heap.size old) w:=⟨rfl,Nat.le_refl _,he0,he,fun id ob e=>by simp[Cx.bare]at e,fun id id' ob ob' l l' e=>by simp[Cx.bare]at e,hold,fun id ob e=>by simp[Cx.bare]at e,fun id ag es e=>by simp[Cx.bare]at e,fun id id' ag ag' es es' r e=>by simp[Cx.bare]at e⟩
 refine calls_of_wp hf hc (wp_mono (h (Cx.bare w.heap.size w.heap.size old) w _ rfl (Nat.le_refl _) (fun _ k=>k) hinv (qih h4 _)) ?_)
 rintro e a' w' ⟨ex,T',X',rfl,g2,g3,g4,g5,g6⟩
 have fin:(∃r',q6l P T' X'.σ fn.results.toList=some r'/\frzT X'.σ r'=some r)->a'.defers=[]/\∃v,(results fn a'.tmps).run P w'=.ok v w'/\∃v',Ending.returned v=.returned v'/\Below w.heap.size w w'/\E w'/\TRep (Cx.bare w.heap.size w'.heap.size old) w' r v':=by
  rintro ⟨r',k1,k2⟩
  obtain ⟨u,q1,q2⟩:=qmj (P:=P) g4 g6 k1
  have hB:X'.B0=w.heap.size:=g5.b0
  have ho:X'.old=old:=g5.old
  have hY:∀σ1 b o,({ X' with σ:=σ1 }:Cx).prot b o->(Cx.bare w.heap.size w'.heap.size old).prot b o:=by
   intro σ1 b o k
   rcases k with ⟨k1,k2⟩|⟨k1,k2,_⟩
   .exact .inl ⟨by have k1':b<X'.B0:=k1;rw[hB]at k1';exact k1',by have k2':X'.old b o:=k2;rw[ho]at k2';exact k2'⟩
   .exact .inr ⟨by have k1':X'.B0<=b:=k1;rw[hB]at k1';exact k1',by have k2':b<X'.hs:=k2;rw[g4.hs]at k2';exact k2',fun id ob l e=>by simp[Cx.bare]at e⟩
  have mk:∀(v v':AV) (u:Value),frzV X'.σ v=some v'->qf X' w' v u->qf (Cx.bare w.heap.size w'.heap.size old) w' v' u:=by
   intro v v' u hv hr
   obtain ⟨us,hcs⟩:=qhq hr
   obtain ⟨m1,m2,m3,m4⟩:=qbr v.cells g4 hcs
   have e1:frzV (q3r X'.σ v.cells) v=some v':=by
    rw[←hv];cases v<;>simp only[frzV,m3.frz,qaz m3]
   exact qjb m1 e1 (qf.ext m2 hr) m4 (hY _)
  have mks:∀(vs vs':List AV) (us:List Value),q1h X'.σ vs=some vs'->All2 (qf X' w') vs us->All2 (qf (Cx.bare w.heap.size w'.heap.size old) w') vs' us:=by
   intro vs
   induction vs with
   | nil =>
    intro vs' us hv hr
    simp[q1h]at hv;subst hv
    cases us with
    | nil=>trivial
    | cons _ _=>exact hr.elim
   | cons v vs ih =>
    intro vs' us hv hr
    cases us with
    | nil=>exact hr.elim
    | cons u us =>
     simp only[q1h,Option.bind_eq_some_iff,Option.map_eq_some_iff]at hv
     obtain ⟨x,h1,l,h2,rfl⟩:=hv
     exact ⟨mk v x u h1 hr.1,ih l us h2 hr.2⟩
  refine ⟨g6.defers,u,q1,u,rfl,g5.below,g4.env,?_⟩
  cases r' with
  | one v =>
   simp only[frzT,Option.map_eq_some_iff]at k2
   obtain ⟨v',h1,rfl⟩:=k2
   exact mk v v' u h1 q2
  | tup vs =>
   simp only[frzT,Option.map_eq_some_iff]at k2
   obtain ⟨vs',h1,rfl⟩:=k2
   obtain ⟨us,hu,hc⟩:=q2
   exact ⟨us,hu,mks vs vs' us.toList h1 hc⟩
 cases ex with
 | exit id=>exact g2.elim
 | normal=>exact fin g2
 | ret=>exact fin g2
end Abs
end Go.Proofs.YtagadjpmkggjdaaGreatDoor
namespace Go.Proofs.YtagadjpmkggjdaaGreatDoor
namespace Abs
open Go.RowKit
variable {E : World -> Prop} {E0 : Nat} {P : Program} {G : Nat -> Option (List PV)} {m : Nat} {T : List TV} {σ : Sto} {K : Ex -> List TV -> Sto -> Prop}
def awpL (E:World->Prop) (E0:Nat) (P:Program) (m:Nat):List Code->List TV->Sto->(Ex->List TV->Sto->Prop)->Prop
 | [],T,σ,K=>K .normal T σ
 | c::r,T,σ,K=>awp E E0 P m c T σ fun ex T' σ'=>match ex with|.normal=>awpL E E0 P m r T' σ' K|ex=>K ex T' σ'
variable {r : List Code}
theorem L_of {c:Code} (h:awpL E E0 P m [c] T σ K):awp E E0 P m c T σ K:=qaf h fun ex _ _ k=>by cases ex<;>exact k
theorem q1p (h:K .normal T σ):awpL E E0 P m [] T σ K:=h
theorem q18 {c d:Code} (h:awpL E E0 P m (c::d::r) T σ K):awpL E E0 P m (.seq c d::r) T σ K :=
 qpk (qaf h fun ex _ _ k=>by
  cases ex with
  | normal=>exact k
  | exit _=>exact k
  | ret=>exact k)
theorem q1r (h:awpL E E0 P m r T σ K):awpL E E0 P m (.skip::r) T σ K:=qpl h
theorem q1q (h:K .ret T σ):awpL E E0 P m (.ret::r) T σ K:=qpj h
theorem q1o {id:Nat} (h:K (.exit id) T σ):awpL E E0 P m (.exit id::r) T σ K:=qpf h
theorem q12 (hb:Base E E0 G) {id:Nat} {ops:List Oper} (h:∀R:List TV->Sto->Prop,(∀T' σ',awpL E E0 P m r T' σ' K->R T' σ')->asq E E0 P G ops.toArray ops T σ R):awpL E E0 P m (.region id ops.toArray false::r) T σ K :=
 qh9 hb (by simpa using h _ fun _ _ k=>k)
theorem qcm (hb:Base E E0 G) {c:Operand} {x y:Code} (t:Bool) (hc:evT G T c=Abs.sc (.bool t)) (h:if t then awpL E E0 P m (x::r) T σ K else awpL E E0 P m (y::r) T σ K):awpL E E0 P m (.cond c x y::r) T σ K :=
 qpc hb hc (by cases t<;>exact h)
theorem qcn (hb:Base E E0 G) {c:Operand} {x y:Code} (hc:evT G T c=.one (.cell .ubool)) (hx:awpL E E0 P m (x::r) T σ K) (hy:awpL E E0 P m (y::r) T σ K):awpL E E0 P m (.cond c x y::r) T σ K:=qpn hb hc hx hy
theorem q1z (hb:Base E E0 G) {c:Operand} {x y:Code} (hc:evT G T c=Abs.sc (.bool true)) (h:awpL E E0 P m (x::r) T σ K):awpL E E0 P m (.cond c x y::r) T σ K:=qcm hb true hc h
theorem q1y (hb:Base E E0 G) {c:Operand} {x y:Code} (hc:evT G T c=Abs.sc (.bool false)) (h:awpL E E0 P m (y::r) T σ K):awpL E E0 P m (.cond c x y::r) T σ K:=qcm hb false hc h
theorem q1x {id:Nat} {c:Code} (h:∀K':Ex->List TV->Sto->Prop,(∀T' σ',awpL E E0 P m r T' σ' K->K' .normal T' σ')->(∀T' σ',awpL E E0 P m r T' σ' K->K' (.exit id) T' σ') ->
  (∀i T' σ',i≠id->K (.exit i) T' σ'->K' (.exit i) T' σ')->(∀T' σ',K .ret T' σ'->K' .ret T' σ')->awpL E E0 P m [c] T σ K'):awpL E E0 P m (.block id c::r) T σ K:=by
 refine qh8 (L_of (h _ (fun T' σ' k=>?_) (fun T' σ' k=>?_) (fun i T' σ' hi k=>?_) (fun T' σ' k=>?_)))
 .exact k
 .show if id=id then _ else _
  rw[if_pos rfl];exact k
 .show if i=id then _ else _
  rw[if_neg hi];exact k
 .exact k
theorem q6o {b:Code} (h:awpL E E0 P m (b::.loop b::r) T σ K):awpL E E0 P m (.loop b::r) T σ K :=
 qpi (qaf h fun ex _ _ k=>by
  cases ex with
  | normal=>exact k
  | exit _=>exact k
  | ret=>exact k)
theorem qgm (ks:List Nat) {c:Code} (h:awpL E E0 P m (c::r) (q4j ks T) σ K):awpL E E0 P m (c::r) T σ K:=qpg ks h
theorem L_kill (ids:List Nat) {c:Code} (h:awpL E E0 P m (c::r) T (killσ ids σ) K):awpL E E0 P m (c::r) T σ K:=qph ids h
theorem L_take (k:Nat) {c:Code} (hm:m<=k) (hT:T.all (TV.under k)=true) (hs:(σ.take k).all (q49 k)=true) (h:awpL E E0 P m (c::r) T (σ.take k) K):awpL E E0 P m (c::r) T σ K:=qpm k hm hT hs h
theorem q58 {f:FuncId} {fn:Func} {c:Code} {args:List AV} {r:TV} (hf:P.funcs[f]?=some fn) (hc:fn.body=some c)
  (h:awpL E E0 P 0 [c] (q2p args fn.ntmps) [] (Ends P fn fun r' σ1=>frzT σ1 r'=some r)):Pure E E0 P f args r:=qw6 hf hc (L_of h)
theorem ok_L {f:FuncId} {fn:Func} {c:Code} {args:List AV} {σ σ':Sto} {r:TV} (hf:P.funcs[f]?=some fn) (hc:fn.body=some c)
  (h:awpL E E0 P σ.length [c] (q2p args fn.ntmps) σ (Ends P fn fun r' σ1=>r'=r/\σ1=σ')):Ok E E0 P f args σ r σ':=qul hf hc (L_of h)
end Abs
end Go.Proofs.YtagadjpmkggjdaaGreatDoor
namespace Go.Proofs.YtagadjpmkggjdaaGreatDoor
namespace Abs
open Go.RowKit
variable {E : World -> Prop} {E0 : Nat} {P : Program} {G : Nat -> Option (List PV)}
def Eff.isUpd:Eff->Bool
 | .upd _ _=>true
 | _=>false
theorem q3q {σ τ:Sto} {id ver:Nat} {ob:AObj} (h:live σ id ver=some ob):live (σ++τ) id ver=some ob:=by
 obtain ⟨h1,h2⟩:=q6z h
 have:(σ++τ)[id]?=some (some ob):=by
  rw[List.getElem?_append_left]
  .exact h1
  .rcases Nat.lt_or_ge id σ.length with k|k
   .exact k
   .rw[List.getElem?_eq_none k]at h1;cases h1
 unfold live
 rw[this]
 simp[h2]
theorem qja {σ τ:Sto} {c:AC} {p:PV} (h:frzC σ c=some p):frzC (σ++τ) c=some p:=by
 cases c with
 | own id ver off len =>
  unfold frzC at h ⊢
  simp only at h ⊢
  split at h
  .rename_i cells sz fr e
   have:(σ++τ)[id]?=some (some (.arr cells sz fr)):=by
    rw[List.getElem?_append_left]
    .exact e
    .rcases Nat.lt_or_ge id σ.length with k|k
     .exact k
     .rw[List.getElem?_eq_none k]at e;cases e
   rw[this];exact h
  .rename_i sz e
   have:(σ++τ)[id]?=some (some (.nilarr sz)):=by
    rw[List.getElem?_append_left]
    .exact e
    .rcases Nat.lt_or_ge id σ.length with k|k
     .exact k
     .rw[List.getElem?_eq_none k]at e;cases e
   rw[this];exact h
  .cases h
 | pv x=>cases x<;>exact h
 | _=>exact h
theorem qe1 {σ τ:Sto}:∀{cs:List AC} {ps:List PV},frzL σ cs=some ps->frzL (σ++τ) cs=some ps
 | [],ps,h=>h
 | c::r,ps,h=>by
  simp only[frzL,Option.bind_eq_some_iff,Option.map_eq_some_iff]at h ⊢
  obtain ⟨p,h1,l,h2,h3⟩:=h
  exact ⟨p,qja h1,l,qe1 h2,h3⟩
theorem qs9 {σ τ:Sto} {v v':AV} (h:frzV σ v=some v'):frzV (σ++τ) v=some v':=by
 cases v with
 | cell c =>
  simp only[frzV,Option.map_eq_some_iff]at h ⊢
  obtain ⟨p,h1,h2⟩:=h;exact ⟨p,qja h1,h2⟩
 | agg cs =>
  simp only[frzV,Option.map_eq_some_iff]at h ⊢
  obtain ⟨p,h1,h2⟩:=h;exact ⟨p,qe1 h1,h2⟩
theorem qjc {σ τ:Sto}:∀{vs vs':List AV},q1h σ vs=some vs'->q1h (σ++τ) vs=some vs'
 | [],_,h=>h
 | v::r,_,h=>by
  simp only[q1h,Option.bind_eq_some_iff,Option.map_eq_some_iff]at h ⊢
  obtain ⟨p,h1,l,h2,h3⟩:=h
  exact ⟨p,qs9 h1,l,qjc h2,h3⟩
theorem qn6 {σ τ:Sto} {c:AC} {r:Nat×List PV} (h:q4n σ c=some r):q4n (σ++τ) c=some r:=by
 cases c with
 | own id ver off len =>
  unfold q4n at h ⊢
  simp only at h ⊢
  split at h
  .rename_i cells sz fr e;rw[q3q e];exact h
  .rename_i sz e;rw[q3q e];exact h
  .cases h
 | pv x=>cases x<;>exact h
 | _=>exact h
theorem qf4 {σ τ:Sto} {c:AC} {b:Bool} (h:nilness σ c=some b):nilness (σ++τ) c=some b:=by
 cases c with
 | own id ver off len =>
  unfold nilness at h ⊢
  simp only at h ⊢
  split at h
  .rename_i e;rw[q3q e];exact h
  .rename_i e;rw[q3q e];exact h
  .cases h
 | pv x=>cases x<;>exact h
 | _=>exact h
theorem qnz {σ τ:Sto} {op:BinOp} {t:TypeId} {x y:AC} {v:Value} (h:q60 P σ op t x y=some v):q60 P (σ++τ) op t x y=some v:=by
 have nil:∀{v:Value},q5e P σ op t x y=some v->q5e P (σ++τ) op t x y=some v:=by
  intro v h
  unfold q5e at h ⊢
  split at h
  .rename_i e hu
   split at h
   .rename_i a b h1 h2
    try rw[hu]
    rw[qf4 h1,qf4 h2];exact h
   .cases h
  .cases h
 unfold q60 at h ⊢
 split at h
 .rename_i a b
  split at h
  .exact h
  .exact nil h
 .exact nil h
theorem qfb {ρ ρ':Operand->TV}:∀{l:List (Nat×Operand)},(∀x∈l,ρ x.2=ρ' x.2)->q4w ρ l=q4w ρ' l
 | [],_=>rfl
 | (i,x)::r,h=>by
  have h0:=h (i,x) (by simp)
  simp only at h0
  simp only[q4w,h0,qfb (l:=r) fun y hy=>h y (by simp[hy])]
theorem qhm {ρ ρ':Operand->TV}:∀{l:List Operand},(∀x∈l,ρ x=ρ' x)->q5k ρ l=q5k ρ' l
 | [],_=>rfl
 | x::r,h=>by
  have ih:=qhm (l:=r) fun y hy=>h y (by simp[hy])
  unfold q5k
  rw[h x (by simp),ih]
theorem qh4 {ρ ρ':Operand->TV}:∀{l:List Operand},(∀x∈l,ρ x=ρ' x)->q33 ρ l=q33 ρ' l
 | [],_=>rfl
 | x::r,h=>by
  have ih:=qh4 (l:=r) fun y hy=>h y (by simp[hy])
  simp only[q33,h x (by simp),ih]
theorem qct {ρ ρ':Operand->TV} {σ:Sto} {o:Op} (h:∀x∈o.operands.toList,ρ x=ρ' x):aop P ρ σ o=aop P ρ' σ o:=by
 cases o with
 | build t parts =>
  simp only[aop]
  rw[qfb (ρ':=ρ') fun y hy=>h y.2 (by simp only[Op.operands,List.toList_toArray];exact List.mem_map.2 ⟨y,hy,rfl⟩)]
 | buildSlice t n parts =>
  simp only[aop]
  rw[qfb (ρ':=ρ') fun y hy=>h y.2 (by simp only[Op.operands,List.toList_toArray];exact List.mem_map.2 ⟨y,hy,rfl⟩)]
 | makeFunc fn first captured =>
  cases fn with
  | func f =>
   simp only[aop]
   rw[qhm (ρ':=ρ') fun y hy=>h y (by simp[Op.operands];exact .inr (by simpa using hy))]
  | _=>rfl
 | slice t x lo hi mx =>
  have hx:=h x (by simp[Op.operands])
  have hlo:optT ρ lo=optT ρ' lo:=by cases lo<;>simp[optT];exact h _ (by simp[Op.operands])
  have hhi:optT ρ hi=optT ρ' hi:=by cases hi<;>simp[optT];exact h _ (by simp[Op.operands])
  have hmx:optT ρ mx=optT ρ' mx:=by cases mx<;>simp[optT];exact h _ (by simp[Op.operands])
  simp only[aop,hx,hlo,hhi,hmx]
 | call c =>
  obtain ⟨callee,args,tys⟩:=c
  cases callee with
  | builtin b =>
   have hargs:∀y∈args.toList,ρ y=ρ' y:=fun y hy=>h y (by simp[Op.operands,Call.operands];simpa using hy)
   cases b with
   | len =>
    simp only[aop]
    split
    .rename_i x t e1 e2;rw[hargs x (by rw[e1];simp)]
    .rfl
   | append =>
    simp only[aop]
    split
    .rename_i x y t u e1 e2;rw[hargs x (by rw[e1];simp),hargs y (by rw[e1];simp)]
    .rfl
   | max =>
    simp only[aop]
    split
    .rename_i x y e1;rw[hargs x (by rw[e1];simp),hargs y (by rw[e1];simp)]
    .rfl
   | min =>
    simp only[aop]
    split
    .rename_i x y e1;rw[hargs x (by rw[e1];simp),hargs y (by rw[e1];simp)]
    .rfl
   | _=>rfl
  | _=>rfl
 | pick c a b=>simp only[aop,h c (by simp[Op.operands]),h a (by simp[Op.operands]),h b (by simp[Op.operands])]
 | move x=>simp only[aop,h x (by simp[Op.operands])]
 | assign x=>simp only[aop,h x (by simp[Op.operands])]
 | box t x=>simp only[aop,h x (by simp[Op.operands])]
 | load t x=>simp only[aop,h x (by simp[Op.operands])]
 | store t a x=>simp only[aop,h a (by simp[Op.operands]),h x (by simp[Op.operands])]
 | nilCheck x=>simp only[aop,h x (by simp[Op.operands])]
 | binOp op t x y t'=>simp only[aop,h x (by simp[Op.operands]),h y (by simp[Op.operands])]
 | unOp op t x=>simp only[aop,h x (by simp[Op.operands])]
 | convert s d x=>simp only[aop,h x (by simp[Op.operands])]
 | makeInterface t x=>simp only[aop,h x (by simp[Op.operands])]
 | fieldAddr s x f=>simp only[aop,h x (by simp[Op.operands])]
 | field s x f=>simp only[aop,h x (by simp[Op.operands])]
 | indexAddr t x i=>simp only[aop,h x (by simp[Op.operands]),h i (by simp[Op.operands])]
 | index t x i=>simp only[aop,h x (by simp[Op.operands]),h i (by simp[Op.operands])]
 | extract x i=>simp only[aop,h x (by simp[Op.operands])]
 | makeSlice t x i=>simp only[aop,h x (by simp[Op.operands]),h i (by simp[Op.operands])]
 | lookup t m k ok=>simp only[aop,h m (by simp[Op.operands]),h k (by simp[Op.operands])]
 | mapUpdate t m k x=>simp only[aop,h m (by simp[Op.operands]),h k (by simp[Op.operands]),h x (by simp[Op.operands])]
 | makeMap t r =>
  cases r with
  | none =>
   simp only[aop]
   cases mapT? P t<;>rfl
  | some y =>
   have h0:=h y (by simp[Op.operands])
   simp only[aop]
   cases mapT? P t with
   | none=>rfl
   | some e=>simp only[h0]
 | _=>rfl
theorem qgw {ρ:Operand->TV} {σ τ:Sto} {o:Op} {eff:Eff} (hu:eff.isUpd=false) (h:aop P ρ σ o=some eff):aop P ρ (σ++τ) o=some eff:=by
 cases o with
 | buildSlice t n parts =>
  simp only[aop]at h ⊢
  split at h
  .rename_i e sz by_ l h1 h2
   try simp only[h1,h2]
   split at h
   .rename_i h0;(try rw[if_pos h0]);exact h
   rename_i h0
   try rw[if_neg h0]
   split at h
   .rename_i z hz
    try simp only[hz]
    split at h
    .rename_i hc
     try rw[if_pos hc]
     simp only[Option.bind_eq_some_iff,Option.map_eq_some_iff]at h ⊢
     obtain ⟨cs,g1,ps,g2,g3⟩:=h
     refine ⟨cs,g1,ps,qe1 g2,?_⟩
     split at g3
     .subst g3;cases hu
     .rename_i hown;rw[if_neg hown];exact g3
    .cases h
   .cases h
  .cases h
 | load t x =>
  simp only[aop]at h ⊢
  split at h
  .rename_i id ver off n ag h1 h2 h3
   try simp only[h1,h2,h3]
   split at h
   .rename_i ob hl;rw[q3q hl];exact h
   .cases h
  .rename_i cs n ag h1 h2 h3;(try simp only[h1,h2,h3]);exact h
  .cases h
 | store t a x =>
  simp only[aop]at h
  split at h
  .split at h
   .split at h
    .simp only[Option.map_eq_some_iff]at h;obtain ⟨_,_,rfl⟩:=h;cases hu
    .cases h
   .cases h
  .cases h
 | nilCheck x =>
  simp only[aop]at h ⊢
  split at h
  .rename_i id ver off h1
   try simp only[h1]
   split at h
   .rename_i ob hl;rw[q3q hl];exact h
   .cases h
  .rename_i cs h1;(try simp only[h1]);exact h
  .rename_i f caps h1;(try simp only[h1]);exact h
  .rename_i f a b h1;(try simp only[h1]);exact h
  .cases h
 | binOp op t x y t' =>
  simp only[aop]at h ⊢
  split at h
  .rename_i a b h1 h2
   try simp only[h1,h2]
   split at h
   .rename_i hu
    have hu':q5c P (σ++τ) op t a b=true:=by
     unfold q5c at hu ⊢
     simp only[Bool.and_eq_true]at hu ⊢
     refine ⟨hu.1,?_⟩
     have k:=hu.2
     split at k
     .rename_i hn;rw[qf4 hn]
     .cases k
    rw[if_pos hu'];exact h
   rename_i hu
   simp only[Option.map_eq_some_iff]at h
   obtain ⟨v,g1,g2⟩:=h
   have hu':¬q5c P (σ++τ) op t a b=true:=by
    intro hk
    unfold q5c at hk
    simp only[Bool.and_eq_true]at hk
    obtain ⟨⟨⟨k1,k2⟩,k3⟩,k4⟩:=hk
    -- then the comparison would not be decided before
    cases a with
    | pv p =>
     cases p with
     | sl full n cs =>
      simp at k3
      subst k3
      unfold q60 at g1
      simp only at g1
      unfold q5e at g1
      split at g1
      .simp[nilness]at g1
      .cases g1
     | _=>simp at k3
    | _=>simp at k3
   rw[if_neg hu']
   simp only[Option.map_eq_some_iff]
   exact ⟨v,qnz g1,g2⟩
  .exact h
 | slice t x lo hi mx =>
  simp only[aop,Option.map_eq_some_iff]at h ⊢
  obtain ⟨r,g1,g2⟩:=h
  refine ⟨r,?_,g2⟩
  unfold q7j at g1 ⊢
  split at g1
  .exact g1
  .exact g1
  .rename_i id ver off len h1
   split at g1
   .rename_i e sz by_ cells sz' fr h2 h3
    simp only[h2,q3q h3];exact g1
   .cases g1
  .cases g1
 | fieldAddr s x f =>
  simp only[aop]at h ⊢
  split at h
  .rename_i id ver off fo n ag h1 h2
   try simp only[h1,h2]
   split at h
   .rename_i ob hl;rw[q3q hl];exact h
   .cases h
  .rename_i cs fo n ag h1 h2;(try simp only[h1,h2]);exact h
  .cases h
 | indexAddr t x i =>
  simp only[aop,Option.bind_eq_some_iff,Option.map_eq_some_iff]at h ⊢
  obtain ⟨n,g0,r,g1,g2⟩:=h
  refine ⟨n,g0,r,?_,g2⟩
  unfold q7g at g1 ⊢
  split at g1
  .exact g1
  .split at g1
   .rename_i h2 h3;(try simp only[h2,q3q h3]);exact g1
   .cases g1
  .split at g1
   .rename_i h2 h3;(try simp only[h2,q3q h3]);exact g1
   .cases g1
  .exact g1
  .cases g1
 | makeFunc fn first captured=>cases fn<;>exact h
 | convert s d x =>
  simp only[aop]at h ⊢
  split at h
  .rename_i v hv;(try simp only[hv]);exact h
  .rename_i hv
   (try simp only[hv])
   simp only[Option.map_eq_some_iff]at h ⊢
   obtain ⟨r,h1,h2⟩:=h
   refine ⟨r,?_,h2⟩
   unfold qa9 at h1 ⊢
   split at h1
   .split at h1
    .rename_i he hs;simp only[he,qn6 hs];exact h1
    .cases h1
   .cases h1
 | makeMap t r =>
  simp only[aop]at h
  split at h
  .simp only[Option.map_eq_some_iff]at h;obtain ⟨_,_,rfl⟩:=h;cases hu
  .split at h
   .simp at h;subst h;cases hu
   .cases h
  .cases h
 | mapUpdate t m k x =>
  simp only[aop]at h
  split at h
  .split at h
   .split at h
    .split at h
     .simp at h;subst h;cases hu
     .cases h
    .split at h
     .simp at h;subst h;cases hu
     .cases h
    .cases h
   .cases h
  .cases h
 | lookup t m k ok =>
  simp only[aop]at h ⊢
  split at h
  .rename_i e id s h1 h2 h3
   (try simp only[h1,h2,h3])
   split at h
   .rename_i ag es z h4 h5
    have h6:(σ++τ)[id]?=some (some (.mp ag es)):=by
     rw[List.getElem?_append_left]
     .exact h4
     .exact (List.getElem?_eq_some_iff.1 h4).1
    simp only[h6,h5];exact h
   .cases h
  .cases h
 | call c =>
  obtain ⟨callee,args,tys⟩:=c
  cases callee with
  | builtin b =>
   cases b with
   | len =>
    simp only[aop]at h ⊢
    split at h
    .rename_i x t e1 e2
     simp only[Option.map_eq_some_iff]at h ⊢
     obtain ⟨n,g1,g2⟩:=h
     refine ⟨n,?_,g2⟩
     unfold q8t at g1 ⊢
     split at g1
     .rename_i h1 h2;(try simp only[h1,h2]);exact g1
     .rename_i h1 h2;(try simp only[h1,h2]);exact g1
     .rename_i h1 h2;(try simp only[h1,h2]);exact g1
     .rename_i h1 h2
      try simp only[h1,h2]
      split at g1
      .rename_i hl;rw[q3q hl];exact g1
      .rename_i hl;rw[q3q hl];exact g1
      .cases g1
     .cases g1
    .cases h
   | append =>
    simp only[aop]at h ⊢
    split at h
    .rename_i x y t u e1 e2
     split at h
     .rename_i htu
      try rw[if_pos htu]
      unfold q6s at h ⊢
      split at h
      .rename_i e sz by_ b s h1 h2 h3
       try simp only[h1,h2,h3]
       split at h
       .rename_i n xs z h4 h5
        simp only[qn6 h4,h5]
        split at h
        .rename_i hc
         try rw[if_pos hc]
         split at h
         .exact h
         .exact h
         .split at h
          .rename_i hl
           simp only[q3q hl]
           split at h
           .rename_i hn;rw[if_pos hn];exact h
           .split at h
            .simp at h;subst h;cases hu
            .cases h
          .rename_i hl
           simp only[q3q hl]
           split at h
           .rename_i hn;rw[if_pos hn];exact h
           .split at h
            .simp at h;subst h;cases hu
            .cases h
          .cases h
         .cases h
        .cases h
       .cases h
      .cases h
     .cases h
    .cases h
   | _=>exact h
  | _=>exact h
 | _=>exact h
end Abs
end Go.Proofs.YtagadjpmkggjdaaGreatDoor
namespace Go.Proofs.YtagadjpmkggjdaaGreatDoor
namespace Abs
open Go.RowKit
variable {E : World -> Prop} {E0 : Nat} {P : Program} {G : Nat -> Option (List PV)} {X : Cx} {w : World}
def q4i (o:Oper):List Nat:=(o.after.toList.filter fun e=>Region.binds .any e).map (·.on)
def OpE (E:World->Prop) (E0:Nat) (P:Program) (ρ:Operand->TV) (σ:Sto) (o:Op) (eff:Eff):Prop:=OpA E E0 P ρ σ o fun x=>x=eff
theorem qa6 {ρ:Operand->TV} {σ:Sto} {o:Op} {K:Eff->Prop} (h:OpA E E0 P ρ σ o K):∃eff,OpE E E0 P ρ σ o eff/\K eff:=by
 unfold OpE
 unfold OpA at h ⊢
 split at h
 .split at h
  .obtain ⟨eff,h1,h2⟩:=h
   exact ⟨eff,⟨eff,h1,rfl⟩,h2⟩
  .exact h.elim
 .split at h
  .exact ⟨_,rfl,h⟩
  .exact h.elim
theorem qa7 {ρ:Operand->TV} {σ:Sto} {o:Op} {eff:Eff} (h:OpE E E0 P ρ σ o eff) :
  (∃f args tys g caps l,o=.call { callee:=.value f,args:=args,argTypes:=tys }/\q66 (ρ f)=some (g,caps)/\q33 ρ args.toList=some l/\CallEff E E0 P σ g (l++caps) eff)\/aop P ρ σ o=some eff:=by
 unfold OpE OpA at h
 split at h
 .rename_i f args tys
  split at h
  .rename_i g caps l h1 h2
   obtain ⟨e,h3,rfl⟩:=h
   exact .inl ⟨f,args,tys,g,caps,l,rfl,h1,h2,h3⟩
  .exact h.elim
 .split at h
  .rename_i e he;subst h;exact .inr he
  .exact h.elim
theorem qns {σ τ:Sto} {g:FuncId} {args:List AV} {r:TV} (h:CallEff E E0 P σ g args (.val r)):∃args',q1h (σ++τ) args=some args'/\enters P g=true/\Pure E E0 P g args' r/\(r.flat=true\/args.any AV.owns=false):=by
 cases h with
 | val h1 h2 h3 h4=>exact ⟨_,qjc h1,h2,h3,h4⟩
theorem qgn {ρ ρ':Operand->TV} {σ τ:Sto} {o:Op} {eff:Eff} (hρ:∀x∈o.operands.toList,ρ x=ρ' x) (hu:eff.isUpd=false) (h:OpE E E0 P ρ σ o eff) :
  (∃f args tys g caps l args' r,o=.call { callee:=.value f,args:=args,argTypes:=tys }/\q66 (ρ' f)=some (g,caps)/\q33 ρ' args.toList=some l/\eff=.val r/\q1h (σ++τ) (l++caps)=some args'/\enters P g=true/\Pure E E0 P g args' r/\(r.flat=true\/(l++caps).any AV.owns=false))\/aop P ρ' (σ++τ) o=some eff:=by
 rcases qa7 h with ⟨f,args,tys,g,caps,l,rfl,h1,h2,h3⟩|h
 .left
  have hf:=hρ f (by simp[Op.operands,Call.operands])
  have hargs:∀y∈args.toList,ρ y=ρ' y:=fun y hy=>hρ y (by simp[Op.operands,Call.operands];exact .inr (by simpa using hy))
  cases eff with
  | val r =>
   obtain ⟨args',k1,k2,k3,k4⟩:=qns (τ:=τ) h3
   exact ⟨f,args,tys,g,caps,l,args',r,rfl,by rw[←hf];exact h1,by rw[←qh4 hargs];exact h2,rfl,k1,k2,k3,k4⟩
  | new ob f=>cases h3
  | upd σ' v=>cases hu
 .exact .inr (by rw[←qct hρ];exact qgw hu h)
theorem qhk (hi:Inv E E0 X w) {g:FuncId} {args args':List AV} {r:TV} (hf:q1h X.σ args=some args') (hp:Pure E E0 P g args' r) (hc:r.flat=true\/args.any AV.owns=false) {vs:List Value} (hv:All2 (qf X w) args vs) :
  Calls P g vs.toArray w fun e w'=>∃v,e=.returned v/\Below w.heap.size w w'/\E w'/\TRep { X with hs:=w'.heap.size } w' r v:=by
 obtain ⟨m1,m2,m3,m4⟩:=qey args hi hv
 have hv1:=hv.imp fun _ _=>qf.ext m2
 have ha:=qb1 m1 (Y:=Cx.bare w.heap.size w.heap.size ({ X with σ:=q21 X.σ args }:Cx).prot) (fun b o k=>.inl ⟨q5v m1 k,k⟩) (by rw[qb0 m3];exact hf) hv1 m4
 refine (hp _ w vs hi.env (Nat.le_trans hi.e0 hi.b0) (fun b o k=>qb3 m1 k) ha).mono ?_
 rintro e w' ⟨v,he,hb,hE,hr⟩
 have hr2:TRep { X with σ:=q21 X.σ args,hs:=w'.heap.size } w' r v:=by
  refine qhb (fun b o k=>?_) hr
  rcases k with ⟨_,k⟩|⟨k1,k2,_⟩
  .exact ((q2u m1 hb).prot b o k).1
  .refine .inr ⟨?_,k2,fun id ob l e' hp' hl hbl=>?_⟩
   .have:=hi.b0;have k1':w.heap.size<=b:=k1;show X.B0<=b;omega
   .have:=qai m1 (X:={ X with σ:=q21 X.σ args }) e' hp' hl
    have k1':w.heap.size<=b:=k1
    omega
 refine ⟨v,he,hb,hE,?_⟩
 rcases hc with hc|hc
 .exact qj5 hc hr
 .rw[qex hc]at hr2;exact hr2
theorem args_rep' {ρ:Operand->TV} {ev:Operand->Value}:∀{l:List Operand} {vs:List AV},(∀x∈l,TRep X w (ρ x) (ev x))->q33 ρ l=some vs->All2 (qf X w) vs (l.map ev)
 | [],vs,_,h=>by simp[q33]at h;subst h;trivial
 | x::r,vs,hr,h=>by
  simp only[q33,Option.bind_eq_some_iff,Option.map_eq_some_iff]at h
  obtain ⟨v,h1,l,h2,rfl⟩:=h
  have h0:=hr x (by simp)
  rw[q6t h1]at h0
  exact ⟨h0,args_rep' (fun y hy=>hr y (by simp[hy])) h2⟩
abbrev Tr:=List (List TV×Sto×Option Eff)
def q5z (σ:Sto):Option Eff->TV
 | some eff=>effV σ eff
 | none=>q11
def q8k (σ:Sto):Option Eff->Sto
 | some eff=>effσ σ eff
 | none=>σ
def Did (E:World->Prop) (E0:Nat) (P:Program) (G:Nat->Option (List PV)) (ops:Array Oper) (o:Oper) (T:List TV) (σ:Sto):Option Eff->Prop
 | some eff=>eff.isUpd=false/\q1f ops T o=some true/\OpE E E0 P (evT G T) σ o.op eff
 | none=>q1f ops T o=some false
def IsTr (E:World->Prop) (E0:Nat) (P:Program) (G:Nat->Option (List PV)) (ops:Array Oper):List Oper->List TV->Sto->Tr->List TV->Sto->Prop
 | [],T,σ,[],T',σ'=>T'=T/\σ'=σ
 | o::r,T,σ,x::tr,T',σ'=>x.1=T/\x.2.1=σ/\Did E E0 P G ops o T σ x.2.2/\IsTr E E0 P G ops r (putT T o.dst (q5z σ x.2.2)) (q8k σ x.2.2) tr T' σ'
 | _,_,_,_,_,_=>False
def asqD (E:World->Prop) (E0:Nat) (P:Program) (G:Nat->Option (List PV)) (ops:Array Oper):List Oper->List TV->Sto->(List TV->Sto->Prop)->Prop
 | [],T,σ,K=>K T σ
 | o::r,T,σ,K =>
  match q1f ops T o with
  | some true=>OpA E E0 P (evT G T) σ o.op fun eff=>match eff with
   | .upd _ _=>False
   | eff=>asqD E E0 P G ops r (putT T o.dst (effV σ eff)) (effσ σ eff) K
  | some false=>asqD E E0 P G ops r (putT T o.dst q11) σ K
  | none=>False
theorem qad {ops:Array Oper} {K:List TV->Sto->Prop}:∀{l:List Oper} {T:List TV} {σ:Sto},asqD E E0 P G ops l T σ K->∃tr T' σ',IsTr E E0 P G ops l T σ tr T' σ'/\K T' σ'
 | [],T,σ,h=>⟨[],T,σ,⟨rfl,rfl⟩,h⟩
 | o::r,T,σ,h=>by
  unfold asqD at h
  split at h
  .rename_i hw
   obtain ⟨eff,h1,h2⟩:=qa6 h
   have key:eff.isUpd=false/\asqD E E0 P G ops r (putT T o.dst (effV σ eff)) (effσ σ eff) K:=by
    cases eff with
    | upd _ _=>exact h2.elim
    | val _=>exact ⟨rfl,h2⟩
    | new _ _=>exact ⟨rfl,h2⟩
   obtain ⟨tr,T',σ',k1,k2⟩:=qad key.2
   exact ⟨(T,σ,some eff)::tr,T',σ',⟨rfl,rfl,⟨key.1,hw,h1⟩,k1⟩,k2⟩
  .rename_i hw
   obtain ⟨tr,T',σ',k1,k2⟩:=qad h
   exact ⟨(T,σ,none)::tr,T',σ',⟨rfl,rfl,hw,k1⟩,k2⟩
  .exact h.elim
theorem q8h (T:List TV) (d:Option Tmp) (v:TV):(putT T d v).length=T.length:=by cases d<;>simp[putT]
theorem q9q {T:List TV} {d:Option Tmp} {v:TV} {t:Nat} (h:d≠some t):(putT T d v)[t]?=T[t]?:=by
 cases d with
 | none=>rfl
 | some d=>simp only[putT];rw[List.getElem?_set_ne];intro e;subst e;exact h rfl
theorem qly {T:List TV} {v:TV} {d:Nat} (h:d<T.length):(putT T (some d) v)[d]?=some v:=by simp only[putT];rw[List.getElem?_set_self h]
theorem q9y (σ:Sto) {e:Option Eff} (h:∀eff,e=some eff->eff.isUpd=false):∃τ,q8k σ e=σ++τ/\((∃ob f,e=some (.new ob f)/\τ=[some ob])\/((∀ob f,e≠some (.new ob f))/\τ=[])):=by
 cases e with
 | none=>exact ⟨[],by simp[q8k],.inr ⟨by simp,rfl⟩⟩
 | some eff =>
  cases eff with
  | val v=>exact ⟨[],by simp[q8k,effσ],.inr ⟨by simp,rfl⟩⟩
  | new ob f=>exact ⟨[some ob],rfl,.inl ⟨ob,f,rfl,rfl⟩⟩
  | upd _ _=>have:=h _ rfl;simp[Eff.isUpd]at this
theorem q97 {ops:Array Oper} {o:Oper} {T:List TV} {σ:Sto} {e:Option Eff} (h:Did E E0 P G ops o T σ e):∀eff,e=some eff->eff.isUpd=false:=by
 rintro eff rfl;exact h.1
structure TrAt (E:World->Prop) (E0:Nat) (P:Program) (G:Nat->Option (List PV)) (ops:Array Oper) (l:List Oper) (T:List TV) (σ:Sto) (T':List TV) (σ':Sto) (i:Nat) (o:Oper) (Ti:List TV) (σi:Sto) (e:Option Eff):Prop where
 did:Did E E0 P G ops o Ti σi e
 up:∃τ,σ'=σi++τ
 low:σ.length<=σi.length
 later:∀t,(∀(j:Nat) (oj:Oper),i<=j->l[j]?=some oj->oj.dst≠some t)->T'[t]?=Ti[t]?
 val:∀d,o.dst=some d->(∀(j:Nat) (oj:Oper),i<j->l[j]?=some oj->oj.dst≠some d)->d<T.length->T'[d]?=some (q5z σi e)
 ob:∀ob f,e=some (.new ob f)->σ'[σi.length]?=some (some ob)
theorem q79 {ops:Array Oper}:∀{l:List Oper} {T:List TV} {σ:Sto} {tr:Tr} {T':List TV} {σ':Sto},IsTr E E0 P G ops l T σ tr T' σ' ->
  T'.length=T.length/\(∃τ,σ'=σ++τ)/\∀t,(∀(j:Nat) (oj:Oper),l[j]?=some oj->oj.dst≠some t)->T'[t]?=T[t]?
 | [],T,σ,[],T',σ',h=>by obtain ⟨rfl,rfl⟩:=h;exact ⟨rfl,⟨[],by simp⟩,fun _ _=>rfl⟩
 | o::r,T,σ,x::tr,T',σ',h=>by
  obtain ⟨_,_,hd,h⟩:=h
  obtain ⟨h1,⟨τ,h2⟩,h3⟩:=q79 h
  obtain ⟨τ0,h4,_⟩:=q9y σ (q97 hd)
  refine ⟨by rw[h1,q8h],⟨τ0++τ,by rw[h2,h4,List.append_assoc]⟩,fun t ht=>?_⟩
  rw[h3 t fun j oj e=>ht (j+1) oj (by simpa using e)]
  exact q9q (ht 0 o rfl)
 | [],_,_,_::_,_,_,h=>h.elim
 | _::_,_,_,[],_,_,h=>h.elim
theorem qa0 {ops:Array Oper}:∀{l:List Oper} {T:List TV} {σ:Sto} {tr:Tr} {T':List TV} {σ':Sto},IsTr E E0 P G ops l T σ tr T' σ'->∀(i:Nat) (o:Oper),l[i]?=some o ->
  ∃Ti σi e,tr[i]?=some (Ti,σi,e)/\TrAt E E0 P G ops l T σ T' σ' i o Ti σi e
 | [],_,_,_,_,_,_,i,o,hi=>by simp at hi
 | o0::r,T,σ,[],T',σ',h,_,_,_=>h.elim
 | o0::r,T,σ,(T0,σ0,e0)::tr,T',σ',h,i,o,hi=>by
  obtain ⟨hT,hσ,hd,h⟩:=h
  simp only at hT hσ hd h
  subst hT hσ
  obtain ⟨b1,⟨τ,b2⟩,b3⟩:=q79 h
  obtain ⟨τ0,b4,b5⟩:=q9y σ0 (q97 hd)
  cases i with
  | zero =>
   simp at hi;subst hi
   refine ⟨T0,σ0,e0,rfl,hd,⟨τ0++τ,by rw[b2,b4,List.append_assoc]⟩,Nat.le_refl _,fun t ht=>?_,fun d hd2 hl hlt=>?_,fun ob f he=>?_⟩
   .rw[b3 t fun j oj e=>ht (j+1) oj (Nat.zero_le _) (by simpa using e)]
    exact q9q (ht 0 o0 (Nat.le_refl _) rfl)
   .rw[b3 d fun j oj e=>hl (j+1) oj (by omega) (by simpa using e),hd2]
    exact qly hlt
   .rcases b5 with ⟨ob',f',k1,k2⟩|⟨k1,_⟩
    .rw[he]at k1
     simp at k1
     rw[b2,b4,k2,←k1.1,List.append_assoc]
     simp
    .exact absurd he (k1 ob f)
  | succ i =>
   obtain ⟨Ti,σi,e,k1,k2⟩:=qa0 h i o (by simpa using hi)
   refine ⟨Ti,σi,e,by simpa using k1,k2.did,k2.up,?_,fun t ht=>?_,fun d hd2 hl hlt=>?_,k2.ob⟩
   .have:=k2.low;rw[b4]at this;simp at this;omega
   .exact k2.later t fun j oj hj e=>ht (j+1) oj (by omega) (by simpa using e)
   .exact k2.val d hd2 (fun j oj hj e=>hl (j+1) oj (by omega) (by simpa using e)) (by rw[q8h];exact hlt)
def Nid (tr:Tr) (i id:Nat):Prop:=∃Ti σi ob f,tr[i]?=some (Ti,σi,some (.new ob f))/\id=σi.length
theorem qg7 {ops:Array Oper}:∀{l:List Oper} {T:List TV} {σ:Sto} {tr:Tr} {T':List TV} {σ':Sto},IsTr E E0 P G ops l T σ tr T' σ'->∀id,σ.length<=id->id<σ'.length->∃i,i<l.length/\Nid tr i id
 | [],T,σ,[],T',σ',h,id,h1,h2=>by obtain ⟨rfl,rfl⟩:=h;omega
 | o::r,T,σ,(T0,σ0,e0)::tr,T',σ',h,id,h1,h2=>by
  obtain ⟨hT,hσ,hd,h⟩:=h
  simp only at hT hσ hd h
  subst hT hσ
  obtain ⟨τ0,b4,b5⟩:=q9y σ0 (q97 hd)
  by_cases hlt:(q8k σ0 e0).length<=id
  .obtain ⟨i,k1,Ti,σi,ob,f,k2,k3⟩:=qg7 h id hlt h2
   exact ⟨i+1,by simp;omega,Ti,σi,ob,f,by simpa using k2,k3⟩
  .rcases b5 with ⟨ob,f,k1,k2⟩|⟨_,k2⟩
   .rw[b4,k2]at hlt
    simp at hlt
    exact ⟨0,by simp,T0,σ0,ob,f,by simp[k1],by omega⟩
   .rw[b4,k2]at hlt;simp at hlt;omega
 | [],_,_,_::_,_,_,h,_,_,_=>h.elim
 | _::_,_,_,[],_,_,h,_,_,_=>h.elim
theorem qch {ops:Array Oper}:∀{l:List Oper} {T:List TV} {σ:Sto} {tr:Tr} {T':List TV} {σ':Sto},IsTr E E0 P G ops l T σ tr T' σ'->∀i id,Nid tr i id->σ.length<=id
 | [],T,σ,[],T',σ',_,i,id,h=>by obtain ⟨_,_,_,_,h,_⟩:=h;simp at h
 | o::r,T,σ,(T0,σ0,e0)::tr,T',σ',h,i,id,hn=>by
  obtain ⟨hT,hσ,hd,h⟩:=h
  simp only at hT hσ hd h
  subst hT hσ
  obtain ⟨τ0,b4,_⟩:=q9y σ0 (q97 hd)
  obtain ⟨Ti,σi,ob,f,k1,k2⟩:=hn
  cases i with
  | zero=>simp at k1;obtain ⟨_,rfl,_⟩:=k1;omega
  | succ i =>
   have:=qch h i id ⟨Ti,σi,ob,f,by simpa using k1,k2⟩
   rw[b4]at this;simp at this;omega
 | [],_,_,_::_,_,_,h,_,_,_=>h.elim
 | _::_,_,_,[],_,_,h,_,_,_=>h.elim
theorem qg8 {ops:Array Oper}:∀{l:List Oper} {T:List TV} {σ:Sto} {tr:Tr} {T':List TV} {σ':Sto},IsTr E E0 P G ops l T σ tr T' σ'->∀i j id,Nid tr i id->Nid tr j id->i=j
 | [],T,σ,[],T',σ',_,i,j,id,h,_=>by obtain ⟨_,_,_,_,h,_⟩:=h;simp at h
 | o::r,T,σ,(T0,σ0,e0)::tr,T',σ',h,i,j,id,hi,hj=>by
  obtain ⟨hT,hσ,hd,h⟩:=h
  simp only at hT hσ hd h
  subst hT hσ
  obtain ⟨τ0,b4,b5⟩:=q9y σ0 (q97 hd)
  have zero:∀id k,Nid ((T0,σ0,e0)::tr) 0 id->Nid tr k id->False:=by
   rintro id k ⟨Ti,σi,ob,f,k1,k2⟩ hk
   simp at k1
   obtain ⟨_,rfl,rfl⟩:=k1
   have:=qch h k id hk
   simp[q8k,effσ]at this
   omega
  cases i with
  | zero =>
   cases j with
   | zero=>rfl
   | succ j =>
    obtain ⟨Ti,σi,ob,f,k1,k2⟩:=hj
    exact (zero id j hi ⟨Ti,σi,ob,f,by simpa using k1,k2⟩).elim
  | succ i =>
   obtain ⟨Ti,σi,ob,f,k1,k2⟩:=hi
   cases j with
   | zero=>exact (zero id i hj ⟨Ti,σi,ob,f,by simpa using k1,k2⟩).elim
   | succ j =>
    obtain ⟨Tj,σj,ob',f',k3,k4⟩:=hj
    rw[qg8 h i j id ⟨Ti,σi,ob,f,by simpa using k1,k2⟩ ⟨Tj,σj,ob',f',by simpa using k3,k4⟩]
 | [],_,_,_::_,_,_,h,_,_,_,_,_=>h.elim
 | _::_,_,_,[],_,_,h,_,_,_,_,_=>h.elim
theorem qlo (hi:Inv E E0 X w) (hn:∀id,¬X.pend id) {σ1 τ:Sto} (he:σ1=X.σ++τ) {Pd:Nat->Prop} (h1:∀id,X.σ.length<=id->id<σ1.length->Pd id) (h2:∀id,id<X.σ.length->¬Pd id) :
  Inv E E0 { X with σ:=σ1,pend:=Pd } w/\Ext X w { X with σ:=σ1,pend:=Pd } w:=by
 have get:∀{id:Nat} {ob:AObj},σ1[id]?=some (some ob)->¬Pd id->X.σ[id]?=some (some ob):=by
  intro id ob e hp
  have hlt:id<σ1.length:=by
   rcases Nat.lt_or_ge id σ1.length with k|k
   .exact k
   .rw[List.getElem?_eq_none k]at e;cases e
  have:id<X.σ.length:=by
   rcases Nat.lt_or_ge id X.σ.length with k|k
   .exact k
   .exact absurd (h1 id k hlt) hp
  rw[he,List.getElem?_append_left this]at e
  exact e
 have hx:Ext X w { X with σ:=σ1,pend:=Pd } w:=by
  refine ⟨rfl,rfl,Below.refl _ _,by simp[he],fun b o h=>⟨?_,rfl⟩,fun id hl _=>h2 id hl,fun id ob' hl _ e=>⟨ob',get e (h2 id hl),Nat.le_refl _,fun _=>⟨rfl,rfl,rfl⟩⟩,fun _ _ _ _ h=>h⟩
  rcases h with h|⟨k1,k2,k3⟩
  .exact .inl h
  .exact .inr ⟨k1,k2,fun id ob l e hp hl hb=>k3 id ob l (get e hp) (hn id) hl hb⟩
 refine ⟨⟨hi.hs,hi.b0,hi.e0,hi.env,fun id ob e hp hbr=>?_,fun id id' ob ob' l l' e e' hp hp'=>hi.inj id id' ob ob' l l' (get e hp) (get e' hp') (hn id) (hn id'),hi.glob,fun id ob e hp=>hi.bare id ob (get e hp) (hn id),hi.maps.carry hx (fun _ _ _ _ h=>h) fun id ag es e hp=>⟨get e hp,hn id⟩⟩,hx⟩
 obtain ⟨l,hl,hB,cs,T,hg,hz,hr⟩:=hi.ob id ob (get e hp) (hn id) hbr
 exact ⟨l,hl,hB,cs,T,hg,hz,fun i c hc=>(hr i c hc).imp fun u hu=>⟨hu.1,CRep.ext hx hu.2⟩⟩
end Abs
end Go.Proofs.YtagadjpmkggjdaaGreatDoor
