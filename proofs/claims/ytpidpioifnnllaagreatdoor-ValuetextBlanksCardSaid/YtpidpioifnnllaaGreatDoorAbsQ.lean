/-
  Calls by contract; regions; code; functions.
  Loops; what is forgotten and dropped; functions.
  Rules for walking: a list of codes to be run one after the other.
  Regions that draw their order: what an operation comes to does not hang on objects made beside it.
  Regions that draw their order: every order comes to what the order of the text comes to.
-/
import Derived.Test.YtpidpioifnnllaaGreatDoorAbsL
set_option linter.unusedVariables false
set_option linter.unusedSimpArgs false
namespace Go.Proofs.YtpidpioifnnllaaGreatDoor
namespace Abs
open Go.RowKit
variable {E : World → Prop} {E0 : Nat} {P : Program} {X : Cx} {w : World} {G : Nat → Option (List PV)}
theorem qhe {B hs:Nat} {old:Nat→Nat→Prop} {Y:Cx} (hY:∀ b o,(Cx.bare B hs old).prot b o→Y.prot b o) {c:AC} {u:Value} (h:CRep (Cx.bare B hs old) w c u):CRep Y w c u:=by
 cases c with
 | any=>trivial
 | undef=>exact h
 | ubool=>exact h
 | pv x=>exact PRep.mono (fun b o k=>⟨hY b o k,rfl⟩) h
 | own id ver off len=>exact absurd h.2.2.1 (by simp[Cx.bare])
 | ptr id ver off=>exact absurd h.2.2.1 (by simp[Cx.bare])
 | fn f caps =>
  obtain ⟨us,hu,hc⟩:=h
  exact ⟨us,hu,hc.imp fun c u k=>absurd k.2.2.1 (by simp[Cx.bare])⟩
 | mapr id=>exact absurd h.2.1 (by simp[Cx.bare])
theorem qhg {B hs:Nat} {old:Nat→Nat→Prop} {Y:Cx} (hY:∀ b o,(Cx.bare B hs old).prot b o→Y.prot b o) {v:AV} {u:Value} (h:q9 (Cx.bare B hs old) w v u):q9 Y w v u:=by
 cases v with
 | cell c=>exact qhe hY h
 | agg cs=>obtain ⟨us,hu,hc⟩:=h; exact ⟨us,hu,hc.imp fun _ _=>qhe hY⟩
theorem qhf {B hs:Nat} {old:Nat→Nat→Prop} {Y:Cx} (hY:∀ b o,(Cx.bare B hs old).prot b o→Y.prot b o) {v:TV} {u:Value} (h:TRep (Cx.bare B hs old) w v u):TRep Y w v u:=by
 cases v with
 | one v=>exact qhg hY h
 | tup vs=>obtain ⟨us,hu,hc⟩:=h; exact ⟨us,hu,hc.imp fun _ _=>qhg hY⟩
 | dead v=>exact h.elim
theorem qdg (hi:Inv E E0 X w) (hn:∀ id,¬ X.pend id) {g:FuncId} {args:List AV} {eff:Eff} (h:CallEff E E0 P X.σ g args eff) {vs:List Value} (hv:All2 (q9 X w) args vs) :
  enters P g=true∧Calls P g vs.toArray w fun e w'=>∃ v X',e=.returned v∧X'.σ=effσ X.σ eff∧(∀ id,¬ X'.pend id)∧Inv E E0 X' w'∧Ext X w X' w'∧TRep X' w' (effV X.σ eff) v:=by
 obtain ⟨m1,m2,m3,m4⟩:=qf4 args hi hv
 have hv1:=hv.imp fun _ _=>q9.ext m2
 have pure:∀ {args':List AV} {r:TV},q17 X.σ args=some args'→Pure E E0 P g args' r →
   Calls P g vs.toArray w fun e w'=>∃ v,e=.returned v∧Below w.heap.size w w'∧E w'∧TRep { X with σ:=q1o X.σ args,hs:=w'.heap.size } w' r v:=by
  intro args' r hf hp
  have ha:=q8u m1 (Y:=Cx.bare w.heap.size w.heap.size ({ X with σ:=q1o X.σ args }:Cx).prot) (fun b o k=>.inl ⟨q35 m1 k,k⟩) (by rw[qay m3]; exact hf) hv1 m4
  refine (hp _ w vs hi.env (Nat.le_trans hi.e0 hi.b0) (fun b o k=>q74 m1 k) ha).mono ?_
  rintro e w' ⟨v,he,hb,hE,hr⟩
  refine ⟨v,he,hb,hE,qhf (fun b o k=>?_) hr⟩
  rcases k with ⟨_,k⟩ | ⟨k1,k2,_⟩
  ·exact ((q2p m1 hb).prot b o k).1
  ·refine .inr ⟨?_,k2,fun id ob l e' hp' hl hbl=>?_⟩
   ·have:=hi.b0; have k1':w.heap.size≤b:=k1; show X.B0≤b; omega
   ·have:=q2w m1 (X:={ X with σ:=q1o X.σ args }) e' hp' hl
    have k1':w.heap.size≤b:=k1
    omega
 cases h with
 | val hf hen hp hc =>
  refine ⟨hen,(pure hf hp).mono ?_⟩
  rintro e w' ⟨v,he,hb,hE,hr⟩
  refine ⟨v,{ X with hs:=w'.heap.size },he,rfl,hn,q3p hi hb hE,q2p hi hb,?_⟩
  rcases hc with hc | hc
  ·exact qj5 hc hr
  ·rw[qf3 hc]at hr; exact hr
 | mark hf hen hp =>
  refine ⟨hen,(pure hf hp).mono ?_⟩
  rintro e w' ⟨v,he,hb,hE,hr⟩
  exact ⟨v,{ X with σ:=q1o X.σ args,hs:=w'.heap.size },he,rfl,hn,q3p m1 hb hE,m2.trans (q2p m1 hb),hr⟩
 | share hen ho =>
  refine ⟨hen,(ho X w vs rfl hn hi hv).mono ?_⟩
  rintro e w' ⟨X',v,he,h1,h2,h3,h4,h5⟩
  exact ⟨v,X',he,h1,h2,h3,h4,h5⟩
 | adopt hf hen ho =>
  have ha:=q8u m1 (Y:={ X with σ:=q1o X.σ args }) (fun b o k=>k) (by rw[qay m3]; exact hf) hv1 m4
  refine ⟨hen,(ho { X with σ:=q1o X.σ args } w vs rfl hn m1 ha).mono ?_⟩
  rintro e w' ⟨X',v,he,h1,h2,h3,h4,h5⟩
  exact ⟨v,X',he,h1,h2,h3,m2.trans h4,h5⟩
def FinQ (E:World→Prop) (E0:Nat) (K:List TV→Sto→Prop) (Q:Exit→Act→World→Prop) (X:Cx) (w:World):Prop :=
 (∀ T' X' w' a',Ext X w X' w'→(∀ id,¬ X'.pend id)→Inv E E0 X' w'→Frm X' w' T' a'→K T' X'.σ→Q .normal a' w') ∧
 (∀ v X' w' a',Ext X w X' w'→(∀ id,¬ X'.pend id)→Inv E E0 X' w'→a'.defers=[]→K [.dead v] []→Q (.panic [{ v:=v,recovered:=false }]) a' w')
theorem FinQ.ext {K:List TV→Sto→Prop} {Q:Exit→Act→World→Prop} {X':Cx} {w':World} (h:FinQ E E0 K Q X w) (hx:Ext X w X' w'):FinQ E E0 K Q X' w' :=
 ⟨fun T' X2 w2 a2 k1 k2 k3 k4 k5=>h.1 T' X2 w2 a2 (hx.trans k1) k2 k3 k4 k5,fun v X2 w2 a2 k1 k2 k3 k4 k5=>h.2 v X2 w2 a2 (hx.trans k1) k2 k3 k4 k5⟩
theorem qdb {ρ:Operand→TV} {ev:Operand→Value} {o:Oper} {K:Eff→Prop} (hi:Inv E E0 X w) (hx:∀ x ∈ o.op.operands.toList,TRep X w (ρ x) (ev x)) (h:qch P ρ X.σ o.op K):∃ eff,Got E E0 P X w (execOp ev o) eff∧K eff:=by
 obtain ⟨ps,sz,len,h1,hk⟩:=h
 unfold qda at h1
 split at h1
 ·rename_i t n parts e
  split at h1
  ·rename_i q1 sz' q2 n' ps' q3 q4
   split at h1
   ·rename_i hc
    obtain ⟨rfl,hc2,hc3⟩:=hc
    simp only[Option.some.injEq,Prod.mk.injEq]at h1
    obtain ⟨rfl,rfl,rfl⟩:=h1
    exact ⟨_,qtr e hi (fun y hy=>hx y.2 (by rw[e]; simp only[Op.operands,List.toList_toArray]; exact List.mem_map.2 ⟨y,hy,rfl⟩)) q3 hc2 hc3 q4,hk⟩
   ·cases h1
  ·cases h1
 ·cases h1
theorem qab (hE:∀ w w',E w→Below E0 w w'→E w') (hG:GRep E E0 G) {ops:Array Oper} {Q:Exit→Act→World→Prop} {K:List TV→Sto→Prop}:∀ (l:List Oper) (T:List TV) (X:Cx) (w:World) (a:Act),(∀ id,¬ X.pend id)→Inv E E0 X w→Frm X w T a→asq E E0 P G ops l T X.σ K →
  FinQ E E0 K Q X w→wpList P ops Q l a w
 | [],T,X,w,a,hn,hi,hf,h,hq=>hq.1 T X w a (Ext.refl _ _) hn hi hf h
 | o::r,T,X,w,a,hn,hi,hf,h,hq=>by
  unfold asq at h
  have cont:∀ {eff:Eff} {u:Value} {w':World} {X':Cx},X'.σ=effσ X.σ eff→(∀ id,¬ X'.pend id)→Inv E E0 X' w'→Ext X w X' w'→TRep X' w' (effV X.σ eff) u →
    asq E E0 P G ops r (putT T o.dst (effV X.σ eff)) (effσ X.σ eff) K→wpList P ops Q r (a.put o.dst u) w':=by
   intro eff u w' X' e1 e2 e3 e4 e5 hk
   exact qab hE hG r _ X' w' _ e2 e3 (q5f hf e4 e5 _) (by rw[e1]; exact hk) (hq.ext e4)
  have noncall:(∃ eff,aop P (evT G T) X.σ o.op=some eff∧asq E E0 P G ops r (putT T o.dst (effV X.σ eff)) (effσ X.σ eff) K)→o.wp P a w (wpList P ops Q r) Q:=by
   rintro ⟨eff,h1,h2⟩
   obtain ⟨u,w',X',g1,g2,g3,g4,g5,g6⟩:=q76 hi hE hn (q6u (P:=P) (ev:=a.eval) hi hE (fun x _=>q39 hG hi hf x) h1)
   unfold Oper.wp
   rcases g1 with g1 | ⟨g1,rfl⟩
   ·rw[g1]; exact cont g2 g3 g4 g5 g6 h2
   ·rw[g1]; exact cont g2 g3 g4 g5 g6 h2
  split at h
  ·rename_i hw
   unfold wpList
   rw[if_pos (qcg hf hw)]
   left
   rcases h with h | h | h
   rotate_left 2
   ·obtain ⟨eff,hg,h2⟩:=qdb (ev:=a.eval) hi (fun x _=>q39 hG hi hf x) h
    obtain ⟨u,w',X',g1,g2,g3,g4,g5,g6⟩:=q76 hi hE hn hg
    unfold Oper.wp
    rcases g1 with g1 | ⟨g1,rfl⟩
    ·rw[g1]; exact cont g2 g3 g4 g5 g6 h2
    ·rw[g1]; exact cont g2 g3 g4 g5 g6 h2
   rotate_left
   ·unfold q5x at h
    split at h
    ·rename_i f args tys hop
     split at h
     ·rename_i g caps l hc ha
      obtain ⟨v,hen,hce,hk⟩:=h
      obtain ⟨us,hu,hcr⟩:=q5a hc (q39 hG hi hf f)
      have har:=q8d hG hi hf ha
      have hrun:=q5s (P:=P) (o:=o) hop hu hen w
      unfold Oper.wp
      rw[hrun]
      show Calls P g _ w _
      have harr:args.map a.eval++us=(args.toList.map a.eval++us.toList).toArray:=by
       apply Array.ext'; simp
      rw[harr]
      refine (hce X w _ rfl hn hi (har.append hcr)).mono ?_
      rintro e w' ⟨rfl,X',h2,h3,h4⟩
      exact hq.2 v X' w' a h4 h2 h3 hf.defers hk
     ·exact h.elim
    ·exact h.elim
   unfold OpA at h
   split at h
   ·rename_i f args tys hop
    split at h
    ·rename_i g caps l hc ha
     obtain ⟨eff,hce,hk⟩:=h
     obtain ⟨us,hu,hcr⟩:=q5a hc (q39 hG hi hf f)
     have har:=q8d hG hi hf ha
     obtain ⟨hen,hcalls⟩:=qdg hi hn hce (har.append hcr)
     have hrun:=q5s (P:=P) (o:=o) hop hu hen w
     unfold Oper.wp
     rw[hrun]
     show Calls P g _ w _
     have harr:args.map a.eval++us=(args.toList.map a.eval++us.toList).toArray:=by
      apply Array.ext'; simp
     rw[harr]
     refine hcalls.mono ?_
     rintro e w' ⟨v,X',rfl,h1,h2,h3,h4,h5⟩
     exact cont h1 h2 h3 h4 h5 hk
    ·exact h.elim
   ·refine noncall ?_
    split at h
    ·rename_i eff he
     exact ⟨eff,he,h⟩
    ·exact h.elim
  ·rename_i hw
   unfold wpList
   rw[if_neg (by rw[qcg hf hw]; simp)]
   exact qab hE hG r _ X w _ hn hi (q5f hf (Ext.refl _ _) q6l _) h hq
  ·exact h.elim
inductive Ex where
 | normal
 | exit (id:Nat)
 | ret
 | pan (v:Value)
def Ex.out:Ex→Exit
 | .normal=>.normal
 | .exit id=>.exit id
 | .ret=>.ret
 | .pan v=>.panic [{ v:=v,recovered:=false }]
structure ExtB (m:Nat) (X:Cx) (w:World) (X':Cx) (w':World):Prop where
 b0:X'.B0=X.B0
 old:X'.old=X.old
 below:BelowO X.B0 X.low w w'
 len:m≤X'.σ.length
 prot:∀ b o,X.prot b o→X'.prot b o∧w'.cell? ⟨b,o,none⟩=w.cell? ⟨b,o,none⟩
 ids:∀ id ob',id < m→X'.σ[id]?=some (some ob')→∃ ob,X.σ[id]?=some (some ob)∧ob.ver≤ob'.ver∧(ob.ver=ob'.ver→X'.loc id=X.loc id∧ob'.kind=ob.kind∧ob.cells.length=ob'.cells.length)
 mloc:∀ id r,id < m→X.mloc id=some r→X'.mloc id=some r
 low:X'.low=X.low
theorem Ext.b {X':Cx} {w':World} (h:Ext X w X' w') (hn:∀ id,¬ X.pend id) {m:Nat} (hm:m≤X.σ.length):ExtB m X w X' w' :=
 ⟨h.b0,h.old,h.below,Nat.le_trans hm h.len,h.prot,fun id ob' hl e=>h.ids id ob' (Nat.lt_of_lt_of_le hl hm) (hn id) e,fun id r hl e=>h.mloc id r (Nat.lt_of_lt_of_le hl hm) (hn id) e,h.low⟩
theorem ExtB.trans {m:Nat} {X1 X2:Cx} {w1 w2:World} (h:ExtB m X w X1 w1) (k:ExtB m X1 w1 X2 w2):ExtB m X w X2 w2:=by
 refine ⟨k.b0.trans h.b0,k.old.trans h.old,h.below.trans (h.b0 ▸ h.low ▸ k.below),k.len,fun b o hp=>?_,fun id ob' hl e=>?_,fun id r hl e=>k.mloc id r hl (h.mloc id r hl e),k.low.trans h.low⟩
 ·obtain ⟨h1,h2⟩:=h.prot b o hp
  obtain ⟨k1,k2⟩:=k.prot b o h1
  exact ⟨k1,k2.trans h2⟩
 ·obtain ⟨o1,e1,v1,s1⟩:=k.ids id ob' hl e
  obtain ⟨o0,e0,v0,s0⟩:=h.ids id o1 hl e1
  refine ⟨o0,e0,by omega,fun hv=>?_⟩
  obtain ⟨a1,a2,a3⟩:=s1 (by omega)
  obtain ⟨b1,b2,b3⟩:=s0 (by omega)
  exact ⟨a1.trans b1,a2.trans b2,b3.trans a3⟩
theorem ExtB.ext {X':Cx} {w':World} (h:ExtB X.σ.length X w X' w') (hn:∀ id,¬ X'.pend id):Ext X w X' w' :=
 ⟨h.b0,h.old,h.below,h.len,h.prot,fun id _ _=>hn id,fun id ob' hl _ e=>h.ids id ob' hl e,fun id r hl _ e=>h.mloc id r hl e,h.low⟩
def Post (E:World→Prop) (E0 m:Nat) (X:Cx) (w:World) (K:Ex→List TV→Sto→Prop):Exit→Act→World→Prop:=fun e a' w' =>
 ∃ ex T' X',e=Ex.out ex∧K ex T' X'.σ∧(∀ id,¬ X'.pend id)∧Inv E E0 X' w'∧ExtB m X w X' w'∧Frm X' w' T' a'
structure Base (E:World→Prop) (E0:Nat) (G:Nat→Option (List PV)):Prop where
 step:∀ w w',E w→Below E0 w w'→E w'
 glob:GRep E E0 G
def awp (E:World→Prop) (E0:Nat) (P:Program) (m:Nat) (c:Code) (T:List TV) (σ:Sto) (K:Ex→List TV→Sto→Prop):Prop :=
 ∀ (X:Cx) (w:World) (a:Act),X.σ=σ→m≤σ.length→(∀ id,¬ X.pend id)→Inv E E0 X w→Frm X w T a→c.wp P (Post E E0 m X w K) a w
variable {m : Nat} {T : List TV} {σ : Sto} {K : Ex → List TV → Sto → Prop}
theorem qac {c:Code} {K':Ex→List TV→Sto→Prop} (h:awp E E0 P m c T σ K) (hk:∀ ex T' σ',K ex T' σ'→K' ex T' σ'):awp E E0 P m c T σ K' :=
 fun X w a h1 h2 h3 h4 h5=>wp_mono (h X w a h1 h2 h3 h4 h5) fun _ _ _ ⟨ex,T',X',g1,g2,g3⟩=>⟨ex,T',X',g1,hk _ _ _ g2,g3⟩
theorem qfn {X:Cx} {w:World} {a:Act} {ex:Ex} {T:List TV} (h2:m≤X.σ.length) (h3:∀ id,¬ X.pend id) (h4:Inv E E0 X w) (h5:Frm X w T a) (hk:K ex T X.σ):Post E E0 m X w K ex.out a w :=
 ⟨ex,T,X,rfl,hk,h3,h4,(Ext.refl X w).b h3 h2,h5⟩
theorem qpf (h:K .normal T σ):awp E E0 P m .skip T σ K:=fun _ _ _ h1 h2 h3 h4 h5=>wp_skip (qfn (ex:=.normal) (h1 ▸ h2) h3 h4 h5 (h1 ▸ h))
theorem qpd (h:K .ret T σ):awp E E0 P m .ret T σ K:=fun _ _ _ h1 h2 h3 h4 h5=>wp_ret (qfn (ex:=.ret) (h1 ▸ h2) h3 h4 h5 (h1 ▸ h))
theorem qp9 {id:Nat} (h:K (.exit id) T σ):awp E E0 P m (.exit id) T σ K:=fun _ _ _ h1 h2 h3 h4 h5=>wp_exit (qfn (ex:=.exit id) (h1 ▸ h2) h3 h4 h5 (h1 ▸ h))
theorem q5q {X1:Cx} {w1:World} (h:ExtB m X w X1 w1) {e:Exit} {a:Act} {w2:World} (k:Post E E0 m X1 w1 K e a w2):Post E E0 m X w K e a w2:=by
 obtain ⟨ex,T',X',g1,g2,g3,g4,g5,g6⟩:=k
 exact ⟨ex,T',X',g1,g2,g3,g4,h.trans g5,g6⟩
theorem qpe {c d:Code} (h:awp E E0 P m c T σ fun ex T' σ'=>match ex with | .normal=>awp E E0 P m d T' σ' K | ex=>K ex T' σ'):awp E E0 P m (.seq c d) T σ K:=by
 intro X w a h1 h2 h3 h4 h5
 refine wp_seq (wp_mono (h X w a h1 h2 h3 h4 h5) ?_)
 rintro e a' w' ⟨ex,T',X',rfl,g2,g3,g4,g5,g6⟩
 cases ex with
 | normal =>
  show d.wp P _ a' w'
  exact wp_mono (g2 X' w' a' rfl g5.len g3 g4 g6) fun _ _ _ k=>q5q g5 k
 | exit id=>exact ⟨.exit id,T',X',rfl,g2,g3,g4,g5,g6⟩
 | ret=>exact ⟨.ret,T',X',rfl,g2,g3,g4,g5,g6⟩
 | pan v=>exact ⟨.pan v,T',X',rfl,g2,g3,g4,g5,g6⟩
theorem qhc {id:Nat} {c:Code} (h:awp E E0 P m c T σ fun ex T' σ'=>match ex with | .exit i=>if i=id then K .normal T' σ' else K (.exit i) T' σ' | ex=>K ex T' σ'):awp E E0 P m (.block id c) T σ K:=by
 intro X w a h1 h2 h3 h4 h5
 refine wp_block (wp_mono (h X w a h1 h2 h3 h4 h5) ?_)
 rintro e a' w' ⟨ex,T',X',rfl,g2,g3,g4,g5,g6⟩
 cases ex with
 | normal=>exact ⟨.normal,T',X',rfl,g2,g3,g4,g5,g6⟩
 | ret=>exact ⟨.ret,T',X',rfl,g2,g3,g4,g5,g6⟩
 | pan v=>exact ⟨.pan v,T',X',rfl,g2,g3,g4,g5,g6⟩
 | exit i =>
  simp only at g2
  show if i=id then _ else _
  split
  ·rename_i e; rw[if_pos e]at g2; exact ⟨.normal,T',X',rfl,g2,g3,g4,g5,g6⟩
  ·rename_i e; rw[if_neg e]at g2; exact ⟨.exit i,T',X',rfl,g2,g3,g4,g5,g6⟩
theorem qp6 (hb:Base E E0 G) {c:Operand} {t:Bool} {x y:Code} (hc:evT G T c=Abs.sc (.bool t)) (h:if t then awp E E0 P m x T σ K else awp E E0 P m y T σ K):awp E E0 P m (.cond c x y) T σ K:=by
 intro X w a h1 h2 h3 h4 h5
 have hr:=q39 hb.glob h4 h5 c
 rw[hc]at hr
 refine wp_cond (t:=t) (q1s hr).1 ?_
 cases t with
 | true=>exact h X w a h1 h2 h3 h4 h5
 | false=>exact h X w a h1 h2 h3 h4 h5
theorem qph (hb:Base E E0 G) {c:Operand} {x y:Code} (hc:evT G T c=.one (.cell .ubool)) (hx:awp E E0 P m x T σ K) (hy:awp E E0 P m y T σ K):awp E E0 P m (.cond c x y) T σ K:=by
 intro X w a h1 h2 h3 h4 h5
 have hr:=q39 hb.glob h4 h5 c
 rw[hc]at hr
 obtain ⟨t,ht⟩:=hr
 refine wp_cond (t:=t) ht ?_
 cases t with
 | true=>exact hx X w a h1 h2 h3 h4 h5
 | false=>exact hy X w a h1 h2 h3 h4 h5
def KD (K:Ex→List TV→Sto→Prop):List TV→Sto→Prop
 | [.dead v],_=>∀ T σ,K (.pan v) T σ
 | T,σ=>K .normal T σ
theorem KD_of {K:Ex→List TV→Sto→Prop} {T:List TV} {σ:Sto} {X:Cx} {w:World} {a:Act} (hf:Frm X w T a) (h:KD K T σ):K .normal T σ:=by
 unfold KD at h
 split at h
 ·rename_i v
  have hz:0 < a.tmps.size:=by rw[← hf.len]; simp
  exact (hf.rep 0 (.dead v) a.tmps[0] rfl (Array.getElem?_eq_getElem hz)).elim
 ·exact h
theorem q87 {K:Ex→List TV→Sto→Prop} {T:List TV} {σ:Sto} (h:K .normal T σ) (hT:∀ v,T=[.dead v]→False):KD K T σ:=by
 unfold KD
 split
 ·rename_i v; exact (hT v rfl).elim
 ·exact h
theorem qci {K:Ex→List TV→Sto→Prop} {X:Cx} {w:World} (h2:m≤X.σ.length) (h3:∀ id,¬ X.pend id):FinQ E E0 (KD K) (Post E E0 m X w K) X w :=
 ⟨fun T' X' w' a' k1 k2 k3 k4 k5=>⟨.normal,T',X',rfl,KD_of k4 k5,k2,k3,k1.b h3 h2,k4⟩,fun v X' w' a' k1 k2 k3 k4 k5=>⟨.pan v,List.replicate a'.tmps.size (.one (.cell .any)),X',rfl,k5 _ _,k2,k3,k1.b h3 h2,
  ⟨by simp,fun i t u e1 e2=>by
   rw[List.getElem?_replicate]at e1
   split at e1
   ·simp at e1; subst e1; trivial
   ·exact absurd e1 (by simp),k4⟩⟩⟩
theorem qhd (hb:Base E E0 G) {id:Nat} {ops:Array Oper} (h:asq E E0 P G ops ops.toList T σ (KD K)):awp E E0 P m (.region id ops false) T σ K:=by
 intro X w a h1 h2 h3 h4 h5
 subst h1
 exact wp_region_list (qab hb.step hb.glob ops.toList T X w a h3 h4 h5 h (qci h2 h3))
end Abs
end Go.Proofs.YtpidpioifnnllaaGreatDoor
namespace Go.Proofs.YtpidpioifnnllaaGreatDoor
namespace Abs
open Go.RowKit
variable {E : World → Prop} {E0 : Nat} {P : Program} {X : Cx} {w : World} {G : Nat → Option (List PV)} {m : Nat} {T : List TV} {σ : Sto} {K : Ex → List TV → Sto → Prop}
theorem qdv {id:Nat}:∀ {k k':List Item},exitTo id k=some k'→k'.length≤k.length
 | [],_,h=>by simp[exitTo]at h
 | x::k,k',h=>by
  cases x with
  | inBlock i =>
   simp only[exitTo]at h
   split at h
   ·simp at h; subst h; simp
   ·have:=qdv h; simp; omega
  | _=>simp only[exitTo]at h; have:=qdv h; simp; omega
theorem qc5 {b:Frame} {a:Act} {c:Code} {k:List Item} {cs:List Frame} {w:World} {m':Machine} (h:Steps P (lone (b.at a (.code (.loop c)::k)) cs w) m') (hne:lone (b.at a (.code (.loop c)::k)) cs w≠m') :
  Steps P (lone (b.at a (.inLoop c::k)) cs w) m':=by
 obtain ⟨n,hn⟩:=h
 cases n with
 | zero=>simp only[runN,Stepped.next.injEq]at hn; exact absurd hn hne
 | succ n =>
  simp only[runN,step_loop]at hn
  exact .head step_inLoop ⟨n,hn⟩
theorem qp2 {b:Frame} {a:Act} {c:Code} {k:List Item} {cs:List Frame} {w:World} {ex:Ex} {a':Act} {w':World} (h:Arrives P (lone (b.at a (.code (.loop c)::k)) cs w) b k cs ex.out a' w') :
  Arrives P (lone (b.at a (.inLoop c::k)) cs w) b k cs ex.out a' w':=by
 cases ex with
 | normal =>
  refine qc5 h fun e=>?_
  simp[lone,Frame.at]at e
 | exit id =>
  intro k' hk
  refine qc5 (h k' hk) fun e=>?_
  have h0:=congrArg (fun M:Machine=>(M.gs[0]?).map fun g=>g.frame.todo.length) e
  have h2:=qdv hk
  simp[lone,Frame.at]at h0
  omega
 | ret =>
  obtain ⟨todo,hs⟩:=h
  refine ⟨todo,qc5 hs fun e=>?_⟩
  simp[lone,Frame.at]at e
 | pan v =>
  obtain ⟨todo,hs⟩:=h
  refine ⟨todo,qc5 hs fun e=>?_⟩
  simp[lone,Frame.at]at e
theorem qpc {b:Code} (h:awp E E0 P m b T σ fun ex T' σ'=>match ex with | .normal=>awp E E0 P m (.loop b) T' σ' K | ex=>K ex T' σ'):awp E E0 P m (.loop b) T σ K:=by
 intro X w a h1 h2 h3 h4 h5 fr k cs
 obtain ⟨e,a1,w1,⟨ex,T',X',rfl,g2,g3,g4,g5,g6⟩,harr⟩:=h X w a h1 h2 h3 h4 h5 fr (.inLoop b::k) cs
 cases ex with
 | normal =>
  obtain ⟨e2,a2,w2,hq2,harr2⟩:=g2 X' w1 a1 rfl g5.len g3 g4 g6 fr k cs
  obtain ⟨ex2,T2,X2,rfl,q2⟩:=hq2
  refine ⟨ex2.out,a2,w2,⟨ex2,T2,X2,rfl,q2.1,q2.2.1,q2.2.2.1,g5.trans q2.2.2.2.1,q2.2.2.2.2⟩,.of_steps (.one step_loop) (.of_steps harr (qp2 harr2))⟩
 | exit id=>exact ⟨_,a1,w1,⟨.exit id,T',X',rfl,g2,g3,g4,g5,g6⟩,.of_steps (.one step_loop) (.pass (x:=.inLoop b) rfl (fun _ _=>.inl (by simp[Ex.out])) harr)⟩
 | ret=>exact ⟨_,a1,w1,⟨.ret,T',X',rfl,g2,g3,g4,g5,g6⟩,.of_steps (.one step_loop) (.pass (x:=.inLoop b) rfl (fun _ _=>.inl (by simp[Ex.out])) harr)⟩
 | pan v=>exact ⟨_,a1,w1,⟨.pan v,T',X',rfl,g2,g3,g4,g5,g6⟩,.of_steps (.one step_loop) (.pass (x:=.inLoop b) rfl (fun _ _=>.inl (by simp[Ex.out])) harr)⟩
def q5i (ks:List Nat) (T:List TV):List TV:=T.mapIdx fun i t=>if ks.contains i then t else .one (.cell .any)
theorem qpa (ks:List Nat) {c:Code} (h:awp E E0 P m c (q5i ks T) σ K):awp E E0 P m c T σ K:=by
 intro X w a h1 h2 h3 h4 h5
 refine h X w a h1 h2 h3 h4 ⟨by simp[q5i,h5.len],fun i t u e1 e2=>?_,h5.defers⟩
 simp[q5i]at e1
 obtain ⟨t',e1,rfl⟩:=e1
 split
 ·exact h5.rep i t' u e1 e2
 ·trivial
def AC.under (k:Nat):AC→Bool
 | .own id _ _ _=>decide (id < k)
 | .ptr id _ _=>decide (id < k)
 | .fn _ caps=>caps.all fun c=>decide (c.1 < k)
 | .mapr id=>decide (id < k)
 | _=>true
def AV.under (k:Nat) (v:AV):Bool:=v.cells.all (AC.under k)
def TV.under (k:Nat):TV→Bool
 | .one v=>v.under k
 | .tup vs=>vs.all (AV.under k)
 | .dead _=>false
def AObj.under (k:Nat):AObj→Bool
 | .box cs=>cs.all (AC.under k)
 | .arr _ _ _=>true
 | .nilarr _=>true
 | .mp _ _=>true
def q4x (k:Nat):Option AObj→Bool
 | none=>true
 | some o=>o.under k
def killσ (ids:List Nat) (σ:Sto):Sto:=σ.mapIdx fun i o=>if ids.contains i then none else o
theorem q7c {ids:List Nat} {σ:Sto} {id:Nat} {ob:AObj} (h:(killσ ids σ)[id]?=some (some ob)):σ[id]?=some (some ob):=by
 simp[killσ]at h
 exact h.1
theorem qg9 {X X':Cx} (h1:X'.B0=X.B0) (h2:X'.hs=X.hs) (h3:X'.old=X.old) (h4:X'.loc=X.loc) (h5:X'.pend=X.pend) (hs:∀ (id:Nat) (ob:AObj),X'.σ[id]?=some (some ob)→X.σ[id]?=some (some ob)) {b o:Nat} (h:X.prot b o):X'.prot b o:=by
 rcases h with ⟨k1,k2⟩ | ⟨k1,k2,k3⟩
 ·exact .inl ⟨by rw[h1]; exact k1,by rw[h3]; exact k2⟩
 ·exact .inr ⟨by rw[h1]; exact k1,by rw[h2]; exact k2,fun id ob l e hp hl hb=>k3 id ob l (hs id ob e) (by rw[← h5]; exact hp) (by rw[← h4]; exact hl) hb⟩
theorem q9.to {Y:Cx} {w':World} {v:AV} {u:Value} (hc:∀ c ∈ v.cells,∀ u,CRep X w c u→CRep Y w' c u) (h:q9 X w v u):q9 Y w' v u:=by
 cases v with
 | cell c=>exact hc c (by simp[AV.cells]) u h
 | agg cs =>
  obtain ⟨us,hu,ha⟩:=h
  refine ⟨us,hu,All2.of_get ha.length fun i c u h1 h2=>?_⟩
  obtain ⟨u',h3,h4⟩:=ha.get i c h1
  rw[h2]at h3
  obtain rfl:u=u':=by simpa using h3
  exact hc c (List.mem_of_getElem? h1) u h4
theorem qt9 {ag:Bool} {ps:List PV} {v:AV} (h:mval ag ps=some v):∀ c ∈ v.cells,∃ p,c=.pv p:=by
 unfold mval at h
 split at h
 ·simp at h; subst h
  intro c hc
  simp[AV.cells]at hc
  obtain ⟨p,_,rfl⟩:=hc; exact ⟨p,rfl⟩
 ·simp at h; subst h
  intro c hc
  simp[AV.cells]at hc
  exact ⟨_,hc⟩
 ·cases h
theorem qnn (hi:Inv E E0 X w) {σ':Sto} (hs:∀ (id:Nat) (ob:AObj),σ'[id]?=some (some ob)→X.σ[id]?=some (some ob))
  (hc:∀ (id:Nat) (ob:AObj),σ'[id]?=some (some ob)→∀ c ∈ ob.cells,∀ u,CRep X w c u→CRep { X with σ:=σ' } w c u):Inv E E0 { X with σ:=σ' } w:=by
 refine ⟨hi.hs,hi.b0,hi.e0,hi.env,fun id ob e hp hbr=>?_,fun i i' ob1 ob2 l l' e e'=>hi.inj i i' ob1 ob2 l l' (hs i ob1 e) (hs i' ob2 e'),hi.glob,fun id ob e=>hi.bare id ob (hs id ob e),⟨fun id ag es e hp=>?_,fun id id' ag ag' es es' r e e'=>hi.maps.2 id id' ag ag' es es' r (hs _ _ e) (hs _ _ e')⟩,hi.low⟩
 rotate_left
 ·obtain ⟨r,arr,k,q1,q2,q3,q4⟩:=hi.maps.1 id ag es (hs _ _ e) hp
  refine ⟨r,arr,k,q1,q2,q3,q4.imp fun c e ⟨g1,v,g2,g3⟩=>⟨g1,v,g2,?_⟩⟩
  have hpv:∀ b o,X.prot b o→({ X with σ:=σ' }:Cx).prot b o:=fun b o h=>qg9 (X:=X) (X':={ X with σ:=σ' }) rfl rfl rfl rfl rfl hs h
  have hcell:∀ c ∈ v.cells,∃ p,c=.pv p:=qt9 g2
  exact q9.to (fun c hc u hu=>by
   obtain ⟨p,rfl⟩:=hcell c hc
   exact PRep.mono (fun b o k=>⟨hpv b o k,rfl⟩) hu) g3
 obtain ⟨l,hl,hB,cs,T,hg,hz,hr⟩:=hi.ob id ob (hs id ob e) hp hbr
 exact ⟨l,hl,hB,cs,T,hg,hz,fun i c hic=>(hr i c hic).imp fun u hu=>⟨hu.1,hc id ob e c (List.mem_of_getElem? hic) u hu.2⟩⟩
theorem qen (X:Cx) (ids:List Nat) {b o:Nat} (h:X.prot b o):({ X with σ:=killσ ids X.σ }:Cx).prot b o :=
 qg9 (X:=X) (X':={ X with σ:=killσ ids X.σ }) rfl rfl rfl rfl rfl (fun _ _ e=>q7c (ids:=ids) (σ:=X.σ) e) h
theorem qem {ids:List Nat} {c:AC} {u:Value} (h:CRep X w c u):CRep { X with σ:=killσ ids X.σ } w c u:=by
 have hlen:(killσ ids X.σ).length=X.σ.length:=by simp[killσ]
 have ptr:∀ {id ver off:Nat} {u:Value},q2e X id ver off u→q2e { X with σ:=killσ ids X.σ } id ver off u:=fun k =>
  ⟨k.1,k.2.1,by show _ < (killσ ids X.σ).length; rw[hlen]; exact k.2.2.1,fun ob e=>k.2.2.2 ob (q7c e)⟩
 cases c with
 | any=>trivial
 | undef=>exact h
 | ubool=>exact h
 | pv x=>exact PRep.mono (fun b o k=>⟨qen X ids k,rfl⟩) h
 | own id ver off len=>exact ⟨h.1,h.2.1,by show _ < (killσ ids X.σ).length; rw[hlen]; exact h.2.2.1,fun ob e=>h.2.2.2 ob (q7c e)⟩
 | ptr id ver off=>exact ptr h
 | fn f caps=>obtain ⟨us,hu,hc⟩:=h; exact ⟨us,hu,hc.imp fun _ _=>ptr⟩
 | mapr id=>exact ⟨h.1,by show _ < (killσ ids X.σ).length; rw[hlen]; exact h.2.1,h.2.2⟩
theorem q9q {k:Nat} {σ:Sto} {id:Nat} {ob:AObj} (h:(σ.take k)[id]?=some (some ob)):σ[id]?=some (some ob):=by
 rw[List.getElem?_take]at h
 split at h
 ·exact h
 ·cases h
theorem qns (X:Cx) (k:Nat) {b o:Nat} (h:X.prot b o):({ X with σ:=X.σ.take k }:Cx).prot b o :=
 qg9 (X:=X) (X':={ X with σ:=X.σ.take k }) rfl rfl rfl rfl rfl (fun _ _ e=>q9q (k:=k) (σ:=X.σ) e) h
theorem qga {k:Nat} {c:AC} {u:Value} (hk:c.under k=true) (h:CRep X w c u):CRep { X with σ:=X.σ.take k } w c u:=by
 have ptr:∀ {id ver off:Nat} {u:Value},id < k→q2e X id ver off u→q2e { X with σ:=X.σ.take k } id ver off u:=fun hlt q =>
  ⟨q.1,q.2.1,by show _ < (X.σ.take k).length; have:=q.2.2.1; simp; omega,fun ob e=>q.2.2.2 ob (q9q e)⟩
 cases c with
 | any=>trivial
 | undef=>exact h
 | ubool=>exact h
 | pv x=>exact PRep.mono (fun b o q=>⟨qns X k q,rfl⟩) h
 | own id ver off len =>
  have hlt:id < k:=by simpa [AC.under] using hk
  exact ⟨h.1,h.2.1,by show _ < (X.σ.take k).length; have:=h.2.2.1; simp; omega,fun ob e=>h.2.2.2 ob (q9q e)⟩
 | ptr id ver off=>exact ptr (by simpa [AC.under] using hk) h
 | fn f caps =>
  obtain ⟨us,hu,hc⟩:=h
  refine ⟨us,hu,All2.of_get hc.length fun i c u h1 h2=>?_⟩
  obtain ⟨u',h3,h4⟩:=hc.get i c h1
  rw[h2]at h3
  obtain rfl:u=u':=by simpa using h3
  simp[AC.under]at hk
  exact ptr (hk _ _ _ (List.mem_of_getElem? h1)) h4
 | mapr id =>
  have hlt:id < k:=by simpa [AC.under] using hk
  exact ⟨h.1,by show _ < (X.σ.take k).length; have:=h.2.1; simp; omega,h.2.2⟩
theorem qnt {k:Nat} {v:TV} {u:Value} (hk:v.under k=true) (h:TRep X w v u):TRep { X with σ:=X.σ.take k } w v u:=by
 cases v with
 | one v=>exact q9.to (fun c hc u q=>qga (by simp[TV.under,AV.under]at hk; exact hk c hc) q) h
 | tup vs =>
  obtain ⟨us,hu,ha⟩:=h
  refine ⟨us,hu,All2.of_get ha.length fun i c u h1 h2=>?_⟩
  obtain ⟨u',h3,h4⟩:=ha.get i c h1
  rw[h2]at h3
  obtain rfl:u=u':=by simpa using h3
  simp[TV.under,AV.under]at hk
  exact q9.to (fun d hd u q=>qga (hk c (List.mem_of_getElem? h1) d hd) q) h4
 | dead v=>exact h.elim
theorem qke {ids:List Nat} {v:TV} {u:Value} (h:TRep X w v u):TRep { X with σ:=killσ ids X.σ } w v u:=by
 cases v with
 | one v=>exact q9.to (fun c _ u q=>qem q) h
 | tup vs=>obtain ⟨us,hu,ha⟩:=h; exact ⟨us,hu,ha.imp fun _ _ k=>q9.to (fun c _ u q=>qem q) k⟩
 | dead v=>exact h.elim
theorem qkd (ids:List Nat) (hi:Inv E E0 X w):Inv E E0 { X with σ:=killσ ids X.σ } w:=qnn hi (fun _ _ e=>q7c e) fun _ _ _ _ _ _ q=>qem q
theorem qnr {k:Nat} (hi:Inv E E0 X w) (hk:(X.σ.take k).all (q4x k)=true):Inv E E0 { X with σ:=X.σ.take k } w:=by
 refine qnn hi (fun _ _ e=>q9q e) fun id ob e c hc u q=>qga ?_ q
 have h1:=List.all_eq_true.1 hk _ (List.mem_of_getElem? e)
 cases ob with
 | box cs=>simp[q4x,AObj.under]at h1; exact h1 c hc
 | arr ps sz fr=>simp[AObj.cells]at hc; obtain ⟨p,_,rfl⟩:=hc; rfl
 | nilarr sz=>simp[AObj.cells]at hc
 | mp _ _=>simp[AObj.cells]at hc
theorem qkc {ids:List Nat} {X:Cx} {w:World} (hm:m≤X.σ.length):ExtB m X w { X with σ:=killσ ids X.σ } w :=
 ⟨rfl,rfl,BelowO.refl _ _ _,by simp[killσ]; exact hm,fun b o h=>⟨qen X ids h,rfl⟩,fun id ob' _ e=>⟨ob',q7c e,Nat.le_refl _,fun _=>⟨rfl,rfl,rfl⟩⟩,fun _ _ _ h=>h,rfl⟩
theorem qnq {k:Nat} {X:Cx} {w:World} (hm:m≤X.σ.length) (hk:m≤k):ExtB m X w { X with σ:=X.σ.take k } w :=
 ⟨rfl,rfl,BelowO.refl _ _ _,by simp; omega,fun b o h=>⟨qns X k h,rfl⟩,fun id ob' _ e=>⟨ob',q9q e,Nat.le_refl _,fun _=>⟨rfl,rfl,rfl⟩⟩,fun _ _ _ h=>h,rfl⟩
theorem qpb (ids:List Nat) {c:Code} (h:awp E E0 P m c T (killσ ids σ) K):awp E E0 P m c T σ K:=by
 intro X w a h1 h2 h3 h4 h5
 subst h1
 have:=h { X with σ:=killσ ids X.σ } w a rfl (by simp[killσ]; exact h2) h3 (qkd ids h4) ⟨h5.len,fun i t u e1 e2=>qke (h5.rep i t u e1 e2),h5.defers⟩
 exact wp_mono this fun _ _ _ k=>q5q (qkc h2) k
theorem qpg (k:Nat) {c:Code} (hm:m≤k) (hT:T.all (TV.under k)=true) (hs:(σ.take k).all (q4x k)=true) (h:awp E E0 P m c T (σ.take k) K):awp E E0 P m c T σ K:=by
 intro X w a h1 h2 h3 h4 h5
 subst h1
 have:=h { X with σ:=X.σ.take k } w a rfl (by simp; omega) h3 (qnr h4 hs) ⟨h5.len,fun i t u e1 e2=>qnt (List.all_eq_true.1 hT _ (List.mem_of_getElem? e1)) (h5.rep i t u e1 e2),h5.defers⟩
 exact wp_mono this fun _ _ _ k=>q5q (qnq h2 hm) k
def qbv (P:Program) (T:List TV) (σ:Sto):ResultVar→Option AV
 | .tmp t=>avOf (T.getD t qw)
 | .cell p t=>match q11 (T.getD p qw),size? P t,isAgg? P t with
  | some (.ptr id ver off),some n,some ag=>match live σ id ver with
   | some ob=>rd ob.cells off n ag
   | none=>none
  | _,_,_=>none
def q6i (P:Program) (T:List TV) (σ:Sto):List ResultVar→Option (List AV)
 | []=>some []
 | r::l=>(qbv P T σ r).bind fun v=>(q6i P T σ l).map fun vs=>v::vs
def q4e (P:Program) (T:List TV) (σ:Sto) (rs:List ResultVar):Option TV :=
 match q6i P T σ rs with
 | some [v]=>some (.one v)
 | some vs=>some (.tup vs)
 | none=>none
def resV (tmps:Array Value) (r:ResultVar):Sem Value:=match r with | .tmp t=>pure (tmps.getD t undef) | .cell p t=>do loadVar t (← asAddr (tmps.getD p undef))
theorem qvp (hi:Inv E E0 X w) {T:List TV} {a:Act} (hf:Frm X w T a) {r:ResultVar} {v:AV} (h:qbv P T X.σ r=some v) :
  ∃ u,(resV a.tmps r).run P w=.ok u w∧q9 X w v u:=by
 have hG:GRep E E0 (fun _=>none):=fun _ _ _ _ h=>by cases h
 cases r with
 | tmp t =>
  have hr:=q39 hG hi hf (.tmp t)
  have h':avOf (T.getD t qw)=some v:=h
  have e:evT (fun _=>none) T (.tmp t)=.one v:=q64 h'
  rw[e]at hr
  exact ⟨_,rfl,hr⟩
 | cell p t =>
  have hr:=q39 hG hi hf (.tmp p)
  simp only[qbv]at h
  split at h
  ·rename_i id ver off n ag h1 h2 h3
   have e:evT (fun _=>none) T (.tmp p)=.one (.cell (.ptr id ver off)):=q1a h1
   rw[e]at hr
   split at h
   ·rename_i ob hl
    obtain ⟨hp,hob,l,hloc,hu⟩:=q5r (X:=X) hr hl
    obtain ⟨u,hrun,hrep⟩:=qew (P:=P) (t:=t) (q7m hi hob hp hloc) h2 h3 h
    refine ⟨u,?_,hrep⟩
    simp only[Nat.zero_add]at hrun
    have hu':a.tmps.getD p undef=.pointer (some ⟨l.1,off,none⟩):=hu
    simp[resV,hu',asAddr,hrun]
   ·cases h
  ·cases h
theorem qmx (hi:Inv E E0 X w) {T:List TV} {a:Act} (hf:Frm X w T a):∀ {rs:List ResultVar} {vs:List AV},q6i P T X.σ rs=some vs →
  ∃ us,(rs.mapM (resV a.tmps)).run P w=.ok us w∧All2 (q9 X w) vs us
 | [],vs,h=>by simp[q6i]at h; subst h; exact ⟨[],by simp,trivial⟩
 | r::rs,vs,h=>by
  simp only[q6i,Option.bind_eq_some_iff,Option.map_eq_some_iff]at h
  obtain ⟨v,h1,l,h2,rfl⟩:=h
  obtain ⟨u,g1,g2⟩:=qvp (P:=P) hi hf h1
  obtain ⟨us,k1,k2⟩:=qmx hi hf h2
  refine ⟨u::us,?_,g2,k2⟩
  simp only[List.mapM_cons,Sem.run_bind,g1,Result.andThen_ok,k1,Sem.run_pure]
theorem qfu (hi:Inv E E0 X w) {T:List TV} {a:Act} (hf:Frm X w T a) {fn:Func} {r:TV} (h:q4e P T X.σ fn.results.toList=some r):∃ u,(results fn a.tmps).run P w=.ok u w∧TRep X w r u:=by
 unfold q4e at h
 have key:∀ {vs:List AV},q6i P T X.σ fn.results.toList=some vs→∃ us:List Value,(results fn a.tmps).run P w=.ok (if h:us.toArray.size=1 then us.toArray[0] else .tuple us.toArray) w∧All2 (q9 X w) vs us:=by
  intro vs hv
  obtain ⟨us,k1,k2⟩:=qmx (P:=P) hi hf hv
  refine ⟨us,?_,k2⟩
  have:results fn a.tmps=(do let vs ← fn.results.mapM (resV a.tmps); pure (if h:vs.size=1 then vs[0] else .tuple vs)):=rfl
  rw[this,Sem.run_bind,Array.mapM_eq_mapM_toList,Sem.run_map,k1]
  rfl
 split at h
 ·rename_i v hv
  simp at h; subst h
  obtain ⟨us,k1,k2⟩:=key hv
  match us,k2,k1 with
  | [u],k2,k1=>exact ⟨u,by simpa using k1,k2.1⟩
 ·rename_i vs hne hv
  simp at h; subst h
  obtain ⟨us,k1,k2⟩:=key hv
  have:us.length≠1:=by
   intro e
   rw[← k2.length]at e
   match vs,e,hne with
   | [v],_,hne=>exact hne v rfl
  refine ⟨.tuple us.toArray,?_,us.toArray,rfl,by simpa using k2⟩
  rw[k1]; simp[this]
 ·cases h
def q3o (args:List AV) (n:Nat):List TV:=args.map .one++List.replicate (n - args.length) qw
theorem qas {args:List AV} {vs:List Value} (h:All2 (q9 X w) args vs) (n:Nat):Frm X w (q3o args n) { tmps:=vs.toArray++Array.replicate (n - vs.toArray.size) undef,defers:=[] }:=by
 have hl:=h.length
 refine ⟨by simp[q3o,hl],fun i t u h1 h2=>?_,rfl⟩
 simp only[q3o,List.getElem?_append,List.length_map]at h1
 simp only[Array.getElem?_append,List.size_toArray]at h2
 rw[hl]at h1
 split at h1
 ·rename_i hlt
  rw[if_pos hlt]at h2
  simp at h1 h2
  obtain ⟨v,h3,rfl⟩:=h1
  obtain ⟨u',h4,h5⟩:=h.get i v h3
  rw[h2]at h4
  obtain rfl:u=u':=by simpa using h4
  exact h5
 ·rename_i hge
  rw[if_neg hge]at h2
  have e1:t=qw:=by
   have:=List.mem_of_getElem? h1
   exact List.eq_of_mem_replicate this
  have e2:u=undef:=by
   rw[Array.getElem?_replicate]at h2
   split at h2
   ·simpa using h2.symm
   ·cases h2
  rw[e1,e2]; exact q6l
def Ends (P:Program) (fn:Func) (R:TV→Sto→Prop):Ex→List TV→Sto→Prop
 | .exit _,_,_=>False
 | .pan _,_,_=>False
 | _,T,σ=>∃ r,q4e P T σ fn.results.toList=some r∧R r σ
theorem qv0 {f:FuncId} {fn:Func} {c:Code} {args:List AV} {r:TV} (hf:P.funcs[f]?=some fn) (hc:fn.body=some c)
  (h:awp E E0 P 0 c (q3o args fn.ntmps) [] (Ends P fn fun r' σ1=>frzT σ1 r'=some r)):Pure E E0 P f args r:=by
 intro old w vs he he0 hold h4
 have hinv:Inv E E0 (Cx.bare w.heap.size w.heap.size old) w:=⟨rfl,Nat.le_refl _,he0,he,fun id ob e=>by simp[Cx.bare]at e,fun id id' ob ob' l l' e=>by simp[Cx.bare]at e,hold,fun id ob e=>by simp[Cx.bare]at e,⟨fun id ag es e=>by simp[Cx.bare]at e,fun id id' ag ag' es es' r e=>by simp[Cx.bare]at e⟩,fun k hk=>hk.elim⟩
 refine calls_of_wp hf hc (wp_mono (h (Cx.bare w.heap.size w.heap.size old) w _ rfl (Nat.le_refl _) (fun _ k=>k) hinv (qas h4 _)) ?_)
 rintro e a' w' ⟨ex,T',X',rfl,g2,g3,g4,g5,g6⟩
 have fin:(∃ r',q4e P T' X'.σ fn.results.toList=some r'∧frzT X'.σ r'=some r)→a'.defers=[]∧∃ v,(results fn a'.tmps).run P w'=.ok v w'∧∃ v',Ending.returned v=.returned v'∧Below w.heap.size w w'∧E w'∧TRep (Cx.bare w.heap.size w'.heap.size old) w' r v':=by
  rintro ⟨r',k1,k2⟩
  obtain ⟨u,q1,q2⟩:=qfu (P:=P) g4 g6 k1
  have hB:X'.B0=w.heap.size:=g5.b0
  have ho:X'.old=old:=g5.old
  have hY:∀ σ1 b o,({ X' with σ:=σ1 }:Cx).prot b o→(Cx.bare w.heap.size w'.heap.size old).prot b o:=by
   intro σ1 b o k
   rcases k with ⟨k1,k2⟩ | ⟨k1,k2,_⟩
   ·exact .inl ⟨by have k1':b < X'.B0:=k1; rw[hB]at k1'; exact k1',by have k2':X'.old b o:=k2; rw[ho]at k2'; exact k2'⟩
   ·exact .inr ⟨by have k1':X'.B0≤b:=k1; rw[hB]at k1'; exact k1',by have k2':b < X'.hs:=k2; rw[g4.hs]at k2'; exact k2',fun id ob l e=>by simp[Cx.bare]at e⟩
  have mk:∀ (v v':AV) (u:Value),frzV X'.σ v=some v'→q9 X' w' v u→q9 (Cx.bare w.heap.size w'.heap.size old) w' v' u:=by
   intro v v' u hv hr
   obtain ⟨us,hcs⟩:=qi4 hr
   obtain ⟨m1,m2,m3,m4⟩:=q97 v.cells g4 hcs
   have e1:frzV (q2u X'.σ v.cells) v=some v':=by
    rw[← hv]; cases v <;> simp only[frzV,m3.frz,q8t m3]
   exact qe3 m1 e1 (q9.ext m2 hr) m4 (hY _)
  have mks:∀ (vs vs':List AV) (us:List Value),q17 X'.σ vs=some vs'→All2 (q9 X' w') vs us→All2 (q9 (Cx.bare w.heap.size w'.heap.size old) w') vs' us:=by
   intro vs
   induction vs with
   | nil =>
    intro vs' us hv hr
    simp[q17]at hv; subst hv
    cases us with
    | nil=>trivial
    | cons _ _=>exact hr.elim
   | cons v vs ih =>
    intro vs' us hv hr
    cases us with
    | nil=>exact hr.elim
    | cons u us =>
     simp only[q17,Option.bind_eq_some_iff,Option.map_eq_some_iff]at hv
     obtain ⟨x,h1,l,h2,rfl⟩:=hv
     exact ⟨mk v x u h1 hr.1,ih l us h2 hr.2⟩
  refine ⟨g6.defers,u,q1,u,rfl,g5.below.full (Nat.le_refl _) (fun _ k=>k.elim),g4.env,?_⟩
  cases r' with
  | one v =>
   simp only[frzT,Option.map_eq_some_iff]at k2
   obtain ⟨v',h1,rfl⟩:=k2
   exact mk v v' u h1 q2
  | tup vs =>
   simp only[frzT,Option.map_eq_some_iff]at k2
   obtain ⟨vs',h1,rfl⟩:=k2
   obtain ⟨us,hu,hc⟩:=q2
   exact ⟨us,hu,mks vs vs' us.toList h1 hc⟩
  | dead v=>exact q2.elim
 cases ex with
 | exit id=>exact g2.elim
 | pan v=>exact g2.elim
 | normal=>exact fin g2
 | ret=>exact fin g2
end Abs
end Go.Proofs.YtpidpioifnnllaaGreatDoor
namespace Go.Proofs.YtpidpioifnnllaaGreatDoor
namespace Abs
open Go.RowKit
variable {E : World → Prop} {E0 : Nat} {P : Program} {G : Nat → Option (List PV)} {m : Nat} {T : List TV} {σ : Sto} {K : Ex → List TV → Sto → Prop}
def awpL (E:World→Prop) (E0:Nat) (P:Program) (m:Nat):List Code→List TV→Sto→(Ex→List TV→Sto→Prop)→Prop
 | [],T,σ,K=>K .normal T σ
 | c::r,T,σ,K=>awp E E0 P m c T σ fun ex T' σ'=>match ex with | .normal=>awpL E E0 P m r T' σ' K | ex=>K ex T' σ'
variable {r : List Code}
theorem L_of {c:Code} (h:awpL E E0 P m [c] T σ K):awp E E0 P m c T σ K:=qac h fun ex _ _ k=>by cases ex <;> exact k
theorem q9z (h:K .normal T σ):awpL E E0 P m [] T σ K:=h
theorem qa0 {c d:Code} (h:awpL E E0 P m (c::d::r) T σ K):awpL E E0 P m (.seq c d::r) T σ K :=
 qpe (qac h fun ex _ _ k=>by
  cases ex with
  | normal=>exact k
  | exit _=>exact k
  | ret=>exact k
  | pan _=>exact k)
theorem qa1 (h:awpL E E0 P m r T σ K):awpL E E0 P m (.skip::r) T σ K:=qpf h
theorem q6q (h:K .ret T σ):awpL E E0 P m (.ret::r) T σ K:=qpd h
theorem q9y {id:Nat} (h:K (.exit id) T σ):awpL E E0 P m (.exit id::r) T σ K:=qp9 h
def qf9:List TV→Bool
 | [.dead _]=>false
 | _=>true
theorem qte {T:List TV} (h:qf9 T=true) (v:Value):T≠[.dead v]:=by rintro rfl; cases h
theorem qop (hb:Base E E0 G) {id:Nat} {ops:List Oper} (h:∀ R:List TV→Sto→Prop,(∀ T' σ',(∀ v,T'≠[.dead v])→awpL E E0 P m r T' σ' K→R T' σ')→(∀ v,(∀ T' σ',K (.pan v) T' σ')→R [.dead v] [])→asq E E0 P G ops.toArray ops T σ R):awpL E E0 P m (.region id ops.toArray false::r) T σ K :=
 qhd hb (by
  have:=h (KD fun ex T' σ'=>match ex with | .normal=>awpL E E0 P m r T' σ' K | ex=>K ex T' σ') (fun T' σ' q k=>q87 (K:=fun ex T' σ'=>match ex with | .normal=>awpL E E0 P m r T' σ' K | ex=>K ex T' σ') k fun v e=>q v e) fun v k=>k
  simpa using this)
theorem qck (hb:Base E E0 G) {c:Operand} {x y:Code} (t:Bool) (hc:evT G T c=Abs.sc (.bool t)) (h:if t then awpL E E0 P m (x::r) T σ K else awpL E E0 P m (y::r) T σ K):awpL E E0 P m (.cond c x y::r) T σ K :=
 qp6 hb hc (by cases t <;> exact h)
theorem L_unk (hb:Base E E0 G) {c:Operand} {x y:Code} (hc:evT G T c=.one (.cell .ubool)) (hx:awpL E E0 P m (x::r) T σ K) (hy:awpL E E0 P m (y::r) T σ K):awpL E E0 P m (.cond c x y::r) T σ K:=qph hb hc hx hy
theorem qco (hb:Base E E0 G) {c:Operand} {x y:Code} (hc:evT G T c=Abs.sc (.bool true)) (h:awpL E E0 P m (x::r) T σ K):awpL E E0 P m (.cond c x y::r) T σ K:=qck hb true hc h
theorem qcl (hb:Base E E0 G) {c:Operand} {x y:Code} (hc:evT G T c=Abs.sc (.bool false)) (h:awpL E E0 P m (y::r) T σ K):awpL E E0 P m (.cond c x y::r) T σ K:=qck hb false hc h
theorem qcj {id:Nat} {c:Code} (h:∀ K':Ex→List TV→Sto→Prop,(∀ T' σ',awpL E E0 P m r T' σ' K→K' .normal T' σ')→(∀ T' σ',awpL E E0 P m r T' σ' K→K' (.exit id) T' σ') →
  (∀ i T' σ',i≠id→K (.exit i) T' σ'→K' (.exit i) T' σ')→(∀ T' σ',K .ret T' σ'→K' .ret T' σ')→(∀ v T' σ',K (.pan v) T' σ'→K' (.pan v) T' σ')→awpL E E0 P m [c] T σ K'):awpL E E0 P m (.block id c::r) T σ K:=by
 refine qhc (L_of (h _ (fun T' σ' k=>?_) (fun T' σ' k=>?_) (fun i T' σ' hi k=>?_) (fun T' σ' k=>?_) (fun v T' σ' k=>?_)))
 ·exact k
 ·show if id=id then _ else _
  rw[if_pos rfl]; exact k
 ·show if i=id then _ else _
  rw[if_neg hi]; exact k
 ·exact k
 ·exact k
theorem qcm {b:Code} (h:awpL E E0 P m (b::.loop b::r) T σ K):awpL E E0 P m (.loop b::r) T σ K :=
 qpc (qac h fun ex _ _ k=>by
  cases ex with
  | normal=>exact k
  | exit _=>exact k
  | ret=>exact k
  | pan _=>exact k)
theorem qgt (ks:List Nat) {c:Code} (h:awpL E E0 P m (c::r) (q5i ks T) σ K):awpL E E0 P m (c::r) T σ K:=qpa ks h
theorem L_kill (ids:List Nat) {c:Code} (h:awpL E E0 P m (c::r) T (killσ ids σ) K):awpL E E0 P m (c::r) T σ K:=qpb ids h
theorem L_take (k:Nat) {c:Code} (hm:m≤k) (hT:T.all (TV.under k)=true) (hs:(σ.take k).all (q4x k)=true) (h:awpL E E0 P m (c::r) T (σ.take k) K):awpL E E0 P m (c::r) T σ K:=qpg k hm hT hs h
theorem qfq {f:FuncId} {fn:Func} {c:Code} {args:List AV} {r:TV} (hf:P.funcs[f]?=some fn) (hc:fn.body=some c)
  (h:awpL E E0 P 0 [c] (q3o args fn.ntmps) [] (Ends P fn fun r' σ1=>frzT σ1 r'=some r)):Pure E E0 P f args r:=qv0 hf hc (L_of h)
end Abs
end Go.Proofs.YtpidpioifnnllaaGreatDoor
namespace Go.Proofs.YtpidpioifnnllaaGreatDoor
namespace Abs
open Go.RowKit
variable {E : World → Prop} {E0 : Nat} {P : Program} {G : Nat → Option (List PV)}
def Eff.isUpd:Eff→Bool
 | .upd _ _=>true
 | _=>false
theorem q30 {σ τ:Sto} {id ver:Nat} {ob:AObj} (h:live σ id ver=some ob):live (σ++τ) id ver=some ob:=by
 obtain ⟨h1,h2⟩:=q6d h
 have:(σ++τ)[id]?=some (some ob):=by
  rw[List.getElem?_append_left]
  ·exact h1
  ·rcases Nat.lt_or_ge id σ.length with k | k
   ·exact k
   ·rw[List.getElem?_eq_none k]at h1; cases h1
 unfold live
 rw[this]
 simp[h2]
theorem qje {σ τ:Sto} {c:AC} {p:PV} (h:frzC σ c=some p):frzC (σ++τ) c=some p:=by
 cases c with
 | own id ver off len =>
  unfold frzC at h ⊢
  simp only at h ⊢
  split at h
  ·rename_i cells sz fr e
   have:(σ++τ)[id]?=some (some (.arr cells sz fr)):=by
    rw[List.getElem?_append_left]
    ·exact e
    ·rcases Nat.lt_or_ge id σ.length with k | k
     ·exact k
     ·rw[List.getElem?_eq_none k]at e; cases e
   rw[this]; exact h
  ·rename_i sz e
   have:(σ++τ)[id]?=some (some (.nilarr sz)):=by
    rw[List.getElem?_append_left]
    ·exact e
    ·rcases Nat.lt_or_ge id σ.length with k | k
     ·exact k
     ·rw[List.getElem?_eq_none k]at e; cases e
   rw[this]; exact h
  ·cases h
 | pv x=>cases x <;> exact h
 | _=>exact h
theorem qe2 {σ τ:Sto}:∀ {cs:List AC} {ps:List PV},frzL σ cs=some ps→frzL (σ++τ) cs=some ps
 | [],ps,h=>h
 | c::r,ps,h=>by
  simp only[frzL,Option.bind_eq_some_iff,Option.map_eq_some_iff]at h ⊢
  obtain ⟨p,h1,l,h2,h3⟩:=h
  exact ⟨p,qje h1,l,qe2 h2,h3⟩
theorem qrk {σ τ:Sto} {v v':AV} (h:frzV σ v=some v'):frzV (σ++τ) v=some v':=by
 cases v with
 | cell c =>
  simp only[frzV,Option.map_eq_some_iff]at h ⊢
  obtain ⟨p,h1,h2⟩:=h; exact ⟨p,qje h1,h2⟩
 | agg cs =>
  simp only[frzV,Option.map_eq_some_iff]at h ⊢
  obtain ⟨p,h1,h2⟩:=h; exact ⟨p,qe2 h1,h2⟩
theorem qji {σ τ:Sto}:∀ {vs vs':List AV},q17 σ vs=some vs'→q17 (σ++τ) vs=some vs'
 | [],_,h=>h
 | v::r,_,h=>by
  simp only[q17,Option.bind_eq_some_iff,Option.map_eq_some_iff]at h ⊢
  obtain ⟨p,h1,l,h2,h3⟩:=h
  exact ⟨p,qrk h1,l,qji h2,h3⟩
theorem qnh {σ τ:Sto} {c:AC} {r:Nat×List PV} (h:q36 σ c=some r):q36 (σ++τ) c=some r:=by
 cases c with
 | own id ver off len =>
  unfold q36 at h ⊢
  simp only at h ⊢
  split at h
  ·rename_i cells sz fr e; rw[q30 e]; exact h
  ·rename_i sz e; rw[q30 e]; exact h
  ·cases h
 | pv x=>cases x <;> exact h
 | _=>exact h
theorem qf8 {σ τ:Sto} {c:AC} {b:Bool} (h:nilness σ c=some b):nilness (σ++τ) c=some b:=by
 cases c with
 | own id ver off len =>
  unfold nilness at h ⊢
  simp only at h ⊢
  split at h
  ·rename_i e; rw[q30 e]; exact h
  ·rename_i e; rw[q30 e]; exact h
  ·cases h
 | pv x=>cases x <;> exact h
 | _=>exact h
theorem qoq {σ τ:Sto} {op:BinOp} {t:TypeId} {x y:AC} {v:Value} (h:q56 P σ op t x y=some v):q56 P (σ++τ) op t x y=some v:=by
 have nil:∀ {v:Value},q4k P σ op t x y=some v→q4k P (σ++τ) op t x y=some v:=by
  intro v h
  unfold q4k at h ⊢
  split at h
  ·rename_i e hu
   split at h
   ·rename_i a b h1 h2
    try rw[hu]
    rw[qf8 h1,qf8 h2]; exact h
   ·cases h
  ·cases h
 unfold q56 at h ⊢
 split at h
 ·rename_i a b
  split at h
  ·exact h
  ·exact nil h
 ·exact nil h
theorem qfk {ρ ρ':Operand→TV}:∀ {l:List (Nat×Operand)},(∀ x ∈ l,ρ x.2=ρ' x.2)→q41 ρ l=q41 ρ' l
 | [],_=>rfl
 | (i,x)::r,h=>by
  have h0:=h (i,x) (by simp)
  simp only at h0
  simp only[q41,h0,qfk (l:=r) fun y hy=>h y (by simp[hy])]
theorem qhy {ρ ρ':Operand→TV}:∀ {l:List Operand},(∀ x ∈ l,ρ x=ρ' x)→q4q ρ l=q4q ρ' l
 | [],_=>rfl
 | x::r,h=>by
  have ih:=qhy (l:=r) fun y hy=>h y (by simp[hy])
  unfold q4q
  rw[h x (by simp),ih]
theorem qhb {ρ ρ':Operand→TV}:∀ {l:List Operand},(∀ x ∈ l,ρ x=ρ' x)→q2m ρ l=q2m ρ' l
 | [],_=>rfl
 | x::r,h=>by
  have ih:=qhb (l:=r) fun y hy=>h y (by simp[hy])
  simp only[q2m,h x (by simp),ih]
theorem qcv {ρ ρ':Operand→TV} {σ:Sto} {o:Op} (h:∀ x ∈ o.operands.toList,ρ x=ρ' x):aop P ρ σ o=aop P ρ' σ o:=by
 cases o with
 | build t parts =>
  simp only[aop]
  rw[qfk (ρ':=ρ') fun y hy=>h y.2 (by simp only[Op.operands,List.toList_toArray]; exact List.mem_map.2 ⟨y,hy,rfl⟩)]
 | buildSlice t n parts =>
  simp only[aop]
  rw[qfk (ρ':=ρ') fun y hy=>h y.2 (by simp only[Op.operands,List.toList_toArray]; exact List.mem_map.2 ⟨y,hy,rfl⟩)]
 | makeFunc fn first captured =>
  cases fn with
  | func f =>
   simp only[aop]
   rw[qhy (ρ':=ρ') fun y hy=>h y (by simp[Op.operands]; exact .inr (by simpa using hy))]
  | _=>rfl
 | slice t x lo hi mx =>
  have hx:=h x (by simp[Op.operands])
  have hlo:optT ρ lo=optT ρ' lo:=by cases lo <;> simp[optT]; exact h _ (by simp[Op.operands])
  have hhi:optT ρ hi=optT ρ' hi:=by cases hi <;> simp[optT]; exact h _ (by simp[Op.operands])
  have hmx:optT ρ mx=optT ρ' mx:=by cases mx <;> simp[optT]; exact h _ (by simp[Op.operands])
  simp only[aop,hx,hlo,hhi,hmx]
 | call c =>
  obtain ⟨callee,args,tys⟩:=c
  cases callee with
  | builtin b =>
   have hargs:∀ y ∈ args.toList,ρ y=ρ' y:=fun y hy=>h y (by simp[Op.operands,Call.operands]; simpa using hy)
   cases b with
   | len =>
    simp only[aop]
    split
    ·rename_i x t e1 e2; rw[hargs x (by rw[e1]; simp)]
    ·rfl
   | append =>
    simp only[aop]
    split
    ·rename_i x y t u e1 e2; rw[hargs x (by rw[e1]; simp),hargs y (by rw[e1]; simp)]
    ·rfl
   | max =>
    simp only[aop]
    split
    ·rename_i x y e1; rw[hargs x (by rw[e1]; simp),hargs y (by rw[e1]; simp)]
    ·rfl
   | min =>
    simp only[aop]
    split
    ·rename_i x y e1; rw[hargs x (by rw[e1]; simp),hargs y (by rw[e1]; simp)]
    ·rfl
   | _=>rfl
  | _=>rfl
 | pick c a b=>simp only[aop,h c (by simp[Op.operands]),h a (by simp[Op.operands]),h b (by simp[Op.operands])]
 | move x=>simp only[aop,h x (by simp[Op.operands])]
 | assign x=>simp only[aop,h x (by simp[Op.operands])]
 | box t x=>simp only[aop,h x (by simp[Op.operands])]
 | load t x=>simp only[aop,h x (by simp[Op.operands])]
 | store t a x=>simp only[aop,h a (by simp[Op.operands]),h x (by simp[Op.operands])]
 | nilCheck x=>simp only[aop,h x (by simp[Op.operands])]
 | binOp op t x y t'=>simp only[aop,h x (by simp[Op.operands]),h y (by simp[Op.operands])]
 | unOp op t x=>simp only[aop,h x (by simp[Op.operands])]
 | convert s d x=>simp only[aop,h x (by simp[Op.operands])]
 | makeInterface t x=>simp only[aop,h x (by simp[Op.operands])]
 | fieldAddr s x f=>simp only[aop,h x (by simp[Op.operands])]
 | field s x f=>simp only[aop,h x (by simp[Op.operands])]
 | indexAddr t x i=>simp only[aop,h x (by simp[Op.operands]),h i (by simp[Op.operands])]
 | index t x i=>simp only[aop,h x (by simp[Op.operands]),h i (by simp[Op.operands])]
 | extract x i=>simp only[aop,h x (by simp[Op.operands])]
 | makeSlice t x i=>simp only[aop,h x (by simp[Op.operands]),h i (by simp[Op.operands])]
 | lookup t m k ok=>simp only[aop,h m (by simp[Op.operands]),h k (by simp[Op.operands])]
 | mapUpdate t m k x=>simp only[aop,h m (by simp[Op.operands]),h k (by simp[Op.operands]),h x (by simp[Op.operands])]
 | makeMap t r =>
  cases r with
  | none =>
   simp only[aop]
   cases mapT? P t <;> rfl
  | some y =>
   have h0:=h y (by simp[Op.operands])
   simp only[aop]
   cases mapT? P t with
   | none=>rfl
   | some e=>simp only[h0]
 | _=>rfl
theorem qh6 {ρ:Operand→TV} {σ τ:Sto} {o:Op} {eff:Eff} (hu:eff.isUpd=false) (h:aop P ρ σ o=some eff):aop P ρ (σ++τ) o=some eff:=by
 cases o with
 | buildSlice t n parts =>
  simp only[aop]at h ⊢
  split at h
  ·rename_i e sz by_ l h1 h2
   try simp only[h1,h2]
   split at h
   ·rename_i h0; (try rw[if_pos h0]); exact h
   rename_i h0
   try rw[if_neg h0]
   split at h
   ·rename_i z hz
    try simp only[hz]
    split at h
    ·rename_i hc
     try rw[if_pos hc]
     simp only[Option.bind_eq_some_iff,Option.map_eq_some_iff]at h ⊢
     obtain ⟨cs,g1,ps,g2,g3⟩:=h
     refine ⟨cs,g1,ps,qe2 g2,?_⟩
     split at g3
     ·subst g3; cases hu
     ·rename_i hown; rw[if_neg hown]; exact g3
    ·cases h
   ·cases h
  ·cases h
 | load t x =>
  simp only[aop]at h ⊢
  split at h
  ·rename_i id ver off n ag h1 h2 h3
   try simp only[h1,h2,h3]
   split at h
   ·rename_i ob hl; rw[q30 hl]; exact h
   ·cases h
  ·rename_i cs n ag h1 h2 h3; (try simp only[h1,h2,h3]); exact h
  ·cases h
 | store t a x =>
  simp only[aop]at h
  split at h
  ·split at h
   ·split at h
    ·simp only[Option.map_eq_some_iff]at h; obtain ⟨_,_,rfl⟩:=h; cases hu
    ·cases h
   ·cases h
  ·cases h
 | nilCheck x =>
  simp only[aop]at h ⊢
  split at h
  ·rename_i id ver off h1
   try simp only[h1]
   split at h
   ·rename_i ob hl; rw[q30 hl]; exact h
   ·cases h
  ·rename_i cs h1; (try simp only[h1]); exact h
  ·rename_i f caps h1; (try simp only[h1]); exact h
  ·rename_i f a b h1; (try simp only[h1]); exact h
  ·cases h
 | binOp op t x y t' =>
  simp only[aop]at h ⊢
  split at h
  ·rename_i a b h1 h2
   try simp only[h1,h2]
   split at h
   ·rename_i hu
    have hu':q4i P (σ++τ) op t a b=true:=by
     unfold q4i at hu ⊢
     simp only[Bool.and_eq_true]at hu ⊢
     refine ⟨hu.1,?_⟩
     have k:=hu.2
     split at k
     ·rename_i hn; rw[qf8 hn]
     ·cases k
    rw[if_pos hu']; exact h
   rename_i hu
   simp only[Option.map_eq_some_iff]at h
   obtain ⟨v,g1,g2⟩:=h
   have hu':¬ q4i P (σ++τ) op t a b=true:=by
    intro hk
    unfold q4i at hk
    simp only[Bool.and_eq_true]at hk
    obtain ⟨⟨⟨k1,k2⟩,k3⟩,k4⟩:=hk
    -- then the comparison would not be decided before
    cases a with
    | pv p =>
     cases p with
     | sl full n cs =>
      simp at k3
      subst k3
      unfold q56 at g1
      simp only at g1
      unfold q4k at g1
      split at g1
      ·simp[nilness]at g1
      ·cases g1
     | _=>simp at k3
    | _=>simp at k3
   rw[if_neg hu']
   simp only[Option.map_eq_some_iff]
   exact ⟨v,qoq g1,g2⟩
  ·exact h
 | slice t x lo hi mx =>
  simp only[aop,Option.map_eq_some_iff]at h ⊢
  obtain ⟨r,g1,g2⟩:=h
  refine ⟨r,?_,g2⟩
  unfold q8b at g1 ⊢
  split at g1
  ·exact g1
  ·exact g1
  ·rename_i id ver off len h1
   split at g1
   ·rename_i e sz by_ cells sz' fr h2 h3
    simp only[h2,q30 h3]; exact g1
   ·cases g1
  ·cases g1
 | fieldAddr s x f =>
  simp only[aop]at h ⊢
  split at h
  ·rename_i id ver off fo n ag h1 h2
   try simp only[h1,h2]
   split at h
   ·rename_i ob hl; rw[q30 hl]; exact h
   ·cases h
  ·rename_i cs fo n ag h1 h2; (try simp only[h1,h2]); exact h
  ·cases h
 | indexAddr t x i =>
  simp only[aop,Option.bind_eq_some_iff,Option.map_eq_some_iff]at h ⊢
  obtain ⟨n,g0,r,g1,g2⟩:=h
  refine ⟨n,g0,r,?_,g2⟩
  unfold q6r at g1 ⊢
  split at g1
  ·exact g1
  ·split at g1
   ·rename_i h2 h3; (try simp only[h2,q30 h3]); exact g1
   ·cases g1
  ·split at g1
   ·rename_i h2 h3; (try simp only[h2,q30 h3]); exact g1
   ·cases g1
  ·exact g1
  ·cases g1
 | makeFunc fn first captured=>cases fn <;> exact h
 | convert s d x =>
  simp only[aop]at h ⊢
  split at h
  ·rename_i v hv; (try simp only[hv]); exact h
  ·rename_i hv
   (try simp only[hv])
   simp only[Option.map_eq_some_iff]at h ⊢
   obtain ⟨r,h1,h2⟩:=h
   refine ⟨r,?_,h2⟩
   unfold qa5 at h1 ⊢
   split at h1
   ·split at h1
    ·rename_i he hs; simp only[he,qnh hs]; exact h1
    ·cases h1
   ·cases h1
 | makeMap t r =>
  simp only[aop]at h
  split at h
  ·simp only[Option.map_eq_some_iff]at h; obtain ⟨_,_,rfl⟩:=h; cases hu
  ·split at h
   ·simp at h; subst h; cases hu
   ·cases h
  ·cases h
 | mapUpdate t m k x =>
  simp only[aop]at h
  split at h
  ·split at h
   ·split at h
    ·split at h
     ·simp at h; subst h; cases hu
     ·cases h
    ·split at h
     ·simp at h; subst h; cases hu
     ·cases h
    ·cases h
   ·cases h
  ·cases h
 | lookup t m k ok =>
  simp only[aop]at h ⊢
  split at h
  ·rename_i e id s h1 h2 h3
   (try simp only[h1,h2,h3])
   split at h
   ·rename_i ag es z h4 h5
    have h6:(σ++τ)[id]?=some (some (.mp ag es)):=by
     rw[List.getElem?_append_left]
     ·exact h4
     ·exact (List.getElem?_eq_some_iff.1 h4).1
    simp only[h6,h5]; exact h
   ·cases h
  ·cases h
 | call c =>
  obtain ⟨callee,args,tys⟩:=c
  cases callee with
  | builtin b =>
   cases b with
   | len =>
    simp only[aop]at h ⊢
    split at h
    ·rename_i x t e1 e2
     simp only[Option.map_eq_some_iff]at h ⊢
     obtain ⟨n,g1,g2⟩:=h
     refine ⟨n,?_,g2⟩
     unfold q89 at g1 ⊢
     split at g1
     ·rename_i h1 h2; (try simp only[h1,h2]); exact g1
     ·rename_i h1 h2; (try simp only[h1,h2]); exact g1
     ·rename_i h1 h2; (try simp only[h1,h2]); exact g1
     ·rename_i h1 h2
      try simp only[h1,h2]
      split at g1
      ·rename_i hl; rw[q30 hl]; exact g1
      ·rename_i hl; rw[q30 hl]; exact g1
      ·cases g1
     ·cases g1
    ·cases h
   | append =>
    simp only[aop]at h ⊢
    split at h
    ·rename_i x y t u e1 e2
     split at h
     ·rename_i htu
      try rw[if_pos htu]
      unfold q61 at h ⊢
      split at h
      ·rename_i e sz by_ b s h1 h2 h3
       try simp only[h1,h2,h3]
       split at h
       ·rename_i n xs z h4 h5
        simp only[qnh h4,h5]
        split at h
        ·rename_i hc
         try rw[if_pos hc]
         split at h
         ·exact h
         ·exact h
         ·split at h
          ·rename_i hl
           simp only[q30 hl]
           split at h
           ·rename_i hn; rw[if_pos hn]; exact h
           ·split at h
            ·simp at h; subst h; cases hu
            ·cases h
          ·rename_i hl
           simp only[q30 hl]
           split at h
           ·rename_i hn; rw[if_pos hn]; exact h
           ·split at h
            ·simp at h; subst h; cases hu
            ·cases h
          ·cases h
         ·cases h
        ·cases h
       ·cases h
      ·cases h
     ·cases h
    ·cases h
   | _=>exact h
  | _=>exact h
 | _=>exact h
end Abs
end Go.Proofs.YtpidpioifnnllaaGreatDoor
namespace Go.Proofs.YtpidpioifnnllaaGreatDoor
namespace Abs
open Go.RowKit
variable {E : World → Prop} {E0 : Nat} {P : Program} {G : Nat → Option (List PV)} {X : Cx} {w : World}
def q3n (o:Oper):List Nat:=(o.after.toList.filter fun e=>Region.binds .any e).map (·.on)
def OpE (E:World→Prop) (E0:Nat) (P:Program) (ρ:Operand→TV) (σ:Sto) (o:Op) (eff:Eff):Prop:=OpA E E0 P ρ σ o fun x=>x=eff
theorem qcp {ρ:Operand→TV} {σ:Sto} {o:Op} {K:Eff→Prop} (h:OpA E E0 P ρ σ o K):∃ eff,OpE E E0 P ρ σ o eff∧K eff:=by
 unfold OpE
 unfold OpA at h ⊢
 split at h
 ·split at h
  ·obtain ⟨eff,h1,h2⟩:=h
   exact ⟨eff,⟨eff,h1,rfl⟩,h2⟩
  ·exact h.elim
 ·split at h
  ·exact ⟨_,rfl,h⟩
  ·exact h.elim
theorem qa3 {ρ:Operand→TV} {σ:Sto} {o:Op} {eff:Eff} (h:OpE E E0 P ρ σ o eff) :
  (∃ f args tys g caps l,o=.call { callee:=.value f,args:=args,argTypes:=tys }∧q4o (ρ f)=some (g,caps)∧q2m ρ args.toList=some l∧CallEff E E0 P σ g (l++caps) eff)∨aop P ρ σ o=some eff:=by
 unfold OpE OpA at h
 split at h
 ·rename_i f args tys
  split at h
  ·rename_i g caps l h1 h2
   obtain ⟨e,h3,rfl⟩:=h
   exact .inl ⟨f,args,tys,g,caps,l,rfl,h1,h2,h3⟩
  ·exact h.elim
 ·split at h
  ·rename_i e he; subst h; exact .inr he
  ·exact h.elim
theorem qoe {σ τ:Sto} {g:FuncId} {args:List AV} {r:TV} (h:CallEff E E0 P σ g args (.val r)):∃ args',q17 (σ++τ) args=some args'∧enters P g=true∧Pure E E0 P g args' r∧(r.flat=true∨args.any AV.owns=false):=by
 cases h with
 | val h1 h2 h3 h4=>exact ⟨_,qji h1,h2,h3,h4⟩
theorem qgv {ρ ρ':Operand→TV} {σ τ:Sto} {o:Op} {eff:Eff} (hρ:∀ x ∈ o.operands.toList,ρ x=ρ' x) (hu:eff.isUpd=false) (h:OpE E E0 P ρ σ o eff) :
  (∃ f args tys g caps l args' r,o=.call { callee:=.value f,args:=args,argTypes:=tys }∧q4o (ρ' f)=some (g,caps)∧q2m ρ' args.toList=some l∧eff=.val r∧q17 (σ++τ) (l++caps)=some args'∧enters P g=true∧Pure E E0 P g args' r∧(r.flat=true∨(l++caps).any AV.owns=false))∨aop P ρ' (σ++τ) o=some eff:=by
 rcases qa3 h with ⟨f,args,tys,g,caps,l,rfl,h1,h2,h3⟩ | h
 ·left
  have hf:=hρ f (by simp[Op.operands,Call.operands])
  have hargs:∀ y ∈ args.toList,ρ y=ρ' y:=fun y hy=>hρ y (by simp[Op.operands,Call.operands]; exact .inr (by simpa using hy))
  cases eff with
  | val r =>
   obtain ⟨args',k1,k2,k3,k4⟩:=qoe (τ:=τ) h3
   exact ⟨f,args,tys,g,caps,l,args',r,rfl,by rw[← hf]; exact h1,by rw[← qhb hargs]; exact h2,rfl,k1,k2,k3,k4⟩
  | new ob f=>cases h3
  | upd σ' v=>cases hu
 ·exact .inr (by rw[← qcv hρ]; exact qh6 hu h)
theorem qhx (hi:Inv E E0 X w) {g:FuncId} {args args':List AV} {r:TV} (hf:q17 X.σ args=some args') (hp:Pure E E0 P g args' r) (hc:r.flat=true∨args.any AV.owns=false) {vs:List Value} (hv:All2 (q9 X w) args vs) :
  Calls P g vs.toArray w fun e w'=>∃ v,e=.returned v∧Below w.heap.size w w'∧E w'∧TRep { X with hs:=w'.heap.size } w' r v:=by
 obtain ⟨m1,m2,m3,m4⟩:=qf4 args hi hv
 have hv1:=hv.imp fun _ _=>q9.ext m2
 have ha:=q8u m1 (Y:=Cx.bare w.heap.size w.heap.size ({ X with σ:=q1o X.σ args }:Cx).prot) (fun b o k=>.inl ⟨q35 m1 k,k⟩) (by rw[qay m3]; exact hf) hv1 m4
 refine (hp _ w vs hi.env (Nat.le_trans hi.e0 hi.b0) (fun b o k=>q74 m1 k) ha).mono ?_
 rintro e w' ⟨v,he,hb,hE,hr⟩
 have hr2:TRep { X with σ:=q1o X.σ args,hs:=w'.heap.size } w' r v:=by
  refine qhf (fun b o k=>?_) hr
  rcases k with ⟨_,k⟩ | ⟨k1,k2,_⟩
  ·exact ((q2p m1 hb).prot b o k).1
  ·refine .inr ⟨?_,k2,fun id ob l e' hp' hl hbl=>?_⟩
   ·have:=hi.b0; have k1':w.heap.size≤b:=k1; show X.B0≤b; omega
   ·have:=q2w m1 (X:={ X with σ:=q1o X.σ args }) e' hp' hl
    have k1':w.heap.size≤b:=k1
    omega
 refine ⟨v,he,hb,hE,?_⟩
 rcases hc with hc | hc
 ·exact qj5 hc hr
 ·rw[qf3 hc]at hr2; exact hr2
theorem args_rep' {ρ:Operand→TV} {ev:Operand→Value}:∀ {l:List Operand} {vs:List AV},(∀ x ∈ l,TRep X w (ρ x) (ev x))→q2m ρ l=some vs→All2 (q9 X w) vs (l.map ev)
 | [],vs,_,h=>by simp[q2m]at h; subst h; trivial
 | x::r,vs,hr,h=>by
  simp only[q2m,Option.bind_eq_some_iff,Option.map_eq_some_iff]at h
  obtain ⟨v,h1,l,h2,rfl⟩:=h
  have h0:=hr x (by simp)
  rw[q64 h1]at h0
  exact ⟨h0,args_rep' (fun y hy=>hr y (by simp[hy])) h2⟩
abbrev Tr:=List (List TV×Sto×Option Eff)
def q55 (σ:Sto):Option Eff→TV
 | some eff=>effV σ eff
 | none=>qw
def q7z (σ:Sto):Option Eff→Sto
 | some eff=>effσ σ eff
 | none=>σ
def Did (E:World→Prop) (E0:Nat) (P:Program) (G:Nat→Option (List PV)) (ops:Array Oper) (o:Oper) (T:List TV) (σ:Sto):Option Eff→Prop
 | some eff=>eff.isUpd=false∧qz ops T o=some true∧OpE E E0 P (evT G T) σ o.op eff
 | none=>qz ops T o=some false
def IsTr (E:World→Prop) (E0:Nat) (P:Program) (G:Nat→Option (List PV)) (ops:Array Oper):List Oper→List TV→Sto→Tr→List TV→Sto→Prop
 | [],T,σ,[],T',σ'=>T'=T∧σ'=σ
 | o::r,T,σ,x::tr,T',σ'=>x.1=T∧x.2.1=σ∧Did E E0 P G ops o T σ x.2.2∧IsTr E E0 P G ops r (putT T o.dst (q55 σ x.2.2)) (q7z σ x.2.2) tr T' σ'
 | _,_,_,_,_,_=>False
def asqD (E:World→Prop) (E0:Nat) (P:Program) (G:Nat→Option (List PV)) (ops:Array Oper):List Oper→List TV→Sto→(List TV→Sto→Prop)→Prop
 | [],T,σ,K=>K T σ
 | o::r,T,σ,K =>
  match qz ops T o with
  | some true=>OpA E E0 P (evT G T) σ o.op fun eff=>match eff with
   | .upd _ _=>False
   | eff=>asqD E E0 P G ops r (putT T o.dst (effV σ eff)) (effσ σ eff) K
  | some false=>asqD E E0 P G ops r (putT T o.dst qw) σ K
  | none=>False
theorem qaa {ops:Array Oper} {K:List TV→Sto→Prop}:∀ {l:List Oper} {T:List TV} {σ:Sto},asqD E E0 P G ops l T σ K→∃ tr T' σ',IsTr E E0 P G ops l T σ tr T' σ'∧K T' σ'
 | [],T,σ,h=>⟨[],T,σ,⟨rfl,rfl⟩,h⟩
 | o::r,T,σ,h=>by
  unfold asqD at h
  split at h
  ·rename_i hw
   obtain ⟨eff,h1,h2⟩:=qcp h
   have key:eff.isUpd=false∧asqD E E0 P G ops r (putT T o.dst (effV σ eff)) (effσ σ eff) K:=by
    cases eff with
    | upd _ _=>exact h2.elim
    | val _=>exact ⟨rfl,h2⟩
    | new _ _=>exact ⟨rfl,h2⟩
   obtain ⟨tr,T',σ',k1,k2⟩:=qaa key.2
   exact ⟨(T,σ,some eff)::tr,T',σ',⟨rfl,rfl,⟨key.1,hw,h1⟩,k1⟩,k2⟩
  ·rename_i hw
   obtain ⟨tr,T',σ',k1,k2⟩:=qaa h
   exact ⟨(T,σ,none)::tr,T',σ',⟨rfl,rfl,hw,k1⟩,k2⟩
  ·exact h.elim
theorem q7t (T:List TV) (d:Option Tmp) (v:TV):(putT T d v).length=T.length:=by cases d <;> simp[putT]
theorem q9h {T:List TV} {d:Option Tmp} {v:TV} {t:Nat} (h:d≠some t):(putT T d v)[t]?=T[t]?:=by
 cases d with
 | none=>rfl
 | some d=>simp only[putT]; rw[List.getElem?_set_ne]; intro e; subst e; exact h rfl
theorem qmg {T:List TV} {v:TV} {d:Nat} (h:d < T.length):(putT T (some d) v)[d]?=some v:=by simp only[putT]; rw[List.getElem?_set_self h]
theorem q9o (σ:Sto) {e:Option Eff} (h:∀ eff,e=some eff→eff.isUpd=false):∃ τ,q7z σ e=σ++τ∧((∃ ob f,e=some (.new ob f)∧τ=[some ob])∨((∀ ob f,e≠some (.new ob f))∧τ=[])):=by
 cases e with
 | none=>exact ⟨[],by simp[q7z],.inr ⟨by simp,rfl⟩⟩
 | some eff =>
  cases eff with
  | val v=>exact ⟨[],by simp[q7z,effσ],.inr ⟨by simp,rfl⟩⟩
  | new ob f=>exact ⟨[some ob],rfl,.inl ⟨ob,f,rfl,rfl⟩⟩
  | upd _ _=>have:=h _ rfl; simp[Eff.isUpd]at this
theorem q8l {ops:Array Oper} {o:Oper} {T:List TV} {σ:Sto} {e:Option Eff} (h:Did E E0 P G ops o T σ e):∀ eff,e=some eff→eff.isUpd=false:=by
 rintro eff rfl; exact h.1
structure TrAt (E:World→Prop) (E0:Nat) (P:Program) (G:Nat→Option (List PV)) (ops:Array Oper) (l:List Oper) (T:List TV) (σ:Sto) (T':List TV) (σ':Sto) (i:Nat) (o:Oper) (Ti:List TV) (σi:Sto) (e:Option Eff):Prop where
 did:Did E E0 P G ops o Ti σi e
 up:∃ τ,σ'=σi++τ
 low:σ.length≤σi.length
 later:∀ t,(∀ (j:Nat) (oj:Oper),i≤j→l[j]?=some oj→oj.dst≠some t)→T'[t]?=Ti[t]?
 val:∀ d,o.dst=some d→(∀ (j:Nat) (oj:Oper),i < j→l[j]?=some oj→oj.dst≠some d)→d < T.length→T'[d]?=some (q55 σi e)
 ob:∀ ob f,e=some (.new ob f)→σ'[σi.length]?=some (some ob)
theorem q6k {ops:Array Oper}:∀ {l:List Oper} {T:List TV} {σ:Sto} {tr:Tr} {T':List TV} {σ':Sto},IsTr E E0 P G ops l T σ tr T' σ' →
  T'.length=T.length∧(∃ τ,σ'=σ++τ)∧∀ t,(∀ (j:Nat) (oj:Oper),l[j]?=some oj→oj.dst≠some t)→T'[t]?=T[t]?
 | [],T,σ,[],T',σ',h=>by obtain ⟨rfl,rfl⟩:=h; exact ⟨rfl,⟨[],by simp⟩,fun _ _=>rfl⟩
 | o::r,T,σ,x::tr,T',σ',h=>by
  obtain ⟨_,_,hd,h⟩:=h
  obtain ⟨h1,⟨τ,h2⟩,h3⟩:=q6k h
  obtain ⟨τ0,h4,_⟩:=q9o σ (q8l hd)
  refine ⟨by rw[h1,q7t],⟨τ0++τ,by rw[h2,h4,List.append_assoc]⟩,fun t ht=>?_⟩
  rw[h3 t fun j oj e=>ht (j+1) oj (by simpa using e)]
  exact q9h (ht 0 o rfl)
 | [],_,_,_::_,_,_,h=>h.elim
 | _::_,_,_,[],_,_,h=>h.elim
theorem q9r {ops:Array Oper}:∀ {l:List Oper} {T:List TV} {σ:Sto} {tr:Tr} {T':List TV} {σ':Sto},IsTr E E0 P G ops l T σ tr T' σ'→∀ (i:Nat) (o:Oper),l[i]?=some o →
  ∃ Ti σi e,tr[i]?=some (Ti,σi,e)∧TrAt E E0 P G ops l T σ T' σ' i o Ti σi e
 | [],_,_,_,_,_,_,i,o,hi=>by simp at hi
 | o0::r,T,σ,[],T',σ',h,_,_,_=>h.elim
 | o0::r,T,σ,(T0,σ0,e0)::tr,T',σ',h,i,o,hi=>by
  obtain ⟨hT,hσ,hd,h⟩:=h
  simp only at hT hσ hd h
  subst hT hσ
  obtain ⟨b1,⟨τ,b2⟩,b3⟩:=q6k h
  obtain ⟨τ0,b4,b5⟩:=q9o σ0 (q8l hd)
  cases i with
  | zero =>
   simp at hi; subst hi
   refine ⟨T0,σ0,e0,rfl,hd,⟨τ0++τ,by rw[b2,b4,List.append_assoc]⟩,Nat.le_refl _,fun t ht=>?_,fun d hd2 hl hlt=>?_,fun ob f he=>?_⟩
   ·rw[b3 t fun j oj e=>ht (j+1) oj (Nat.zero_le _) (by simpa using e)]
    exact q9h (ht 0 o0 (Nat.le_refl _) rfl)
   ·rw[b3 d fun j oj e=>hl (j+1) oj (by omega) (by simpa using e),hd2]
    exact qmg hlt
   ·rcases b5 with ⟨ob',f',k1,k2⟩ | ⟨k1,_⟩
    ·rw[he]at k1
     simp at k1
     rw[b2,b4,k2,← k1.1,List.append_assoc]
     simp
    ·exact absurd he (k1 ob f)
  | succ i =>
   obtain ⟨Ti,σi,e,k1,k2⟩:=q9r h i o (by simpa using hi)
   refine ⟨Ti,σi,e,by simpa using k1,k2.did,k2.up,?_,fun t ht=>?_,fun d hd2 hl hlt=>?_,k2.ob⟩
   ·have:=k2.low; rw[b4]at this; simp at this; omega
   ·exact k2.later t fun j oj hj e=>ht (j+1) oj (by omega) (by simpa using e)
   ·exact k2.val d hd2 (fun j oj hj e=>hl (j+1) oj (by omega) (by simpa using e)) (by rw[q7t]; exact hlt)
def Nid (tr:Tr) (i id:Nat):Prop:=∃ Ti σi ob f,tr[i]?=some (Ti,σi,some (.new ob f))∧id=σi.length
theorem qge {ops:Array Oper}:∀ {l:List Oper} {T:List TV} {σ:Sto} {tr:Tr} {T':List TV} {σ':Sto},IsTr E E0 P G ops l T σ tr T' σ'→∀ id,σ.length≤id→id < σ'.length→∃ i,i < l.length∧Nid tr i id
 | [],T,σ,[],T',σ',h,id,h1,h2=>by obtain ⟨rfl,rfl⟩:=h; omega
 | o::r,T,σ,(T0,σ0,e0)::tr,T',σ',h,id,h1,h2=>by
  obtain ⟨hT,hσ,hd,h⟩:=h
  simp only at hT hσ hd h
  subst hT hσ
  obtain ⟨τ0,b4,b5⟩:=q9o σ0 (q8l hd)
  by_cases hlt:(q7z σ0 e0).length≤id
  ·obtain ⟨i,k1,Ti,σi,ob,f,k2,k3⟩:=qge h id hlt h2
   exact ⟨i+1,by simp; omega,Ti,σi,ob,f,by simpa using k2,k3⟩
  ·rcases b5 with ⟨ob,f,k1,k2⟩ | ⟨_,k2⟩
   ·rw[b4,k2]at hlt
    simp at hlt
    exact ⟨0,by simp,T0,σ0,ob,f,by simp[k1],by omega⟩
   ·rw[b4,k2]at hlt; simp at hlt; omega
 | [],_,_,_::_,_,_,h,_,_,_=>h.elim
 | _::_,_,_,[],_,_,h,_,_,_=>h.elim
theorem qca {ops:Array Oper}:∀ {l:List Oper} {T:List TV} {σ:Sto} {tr:Tr} {T':List TV} {σ':Sto},IsTr E E0 P G ops l T σ tr T' σ'→∀ i id,Nid tr i id→σ.length≤id
 | [],T,σ,[],T',σ',_,i,id,h=>by obtain ⟨_,_,_,_,h,_⟩:=h; simp at h
 | o::r,T,σ,(T0,σ0,e0)::tr,T',σ',h,i,id,hn=>by
  obtain ⟨hT,hσ,hd,h⟩:=h
  simp only at hT hσ hd h
  subst hT hσ
  obtain ⟨τ0,b4,_⟩:=q9o σ0 (q8l hd)
  obtain ⟨Ti,σi,ob,f,k1,k2⟩:=hn
  cases i with
  | zero=>simp at k1; obtain ⟨_,rfl,_⟩:=k1; omega
  | succ i =>
   have:=qca h i id ⟨Ti,σi,ob,f,by simpa using k1,k2⟩
   rw[b4]at this; simp at this; omega
 | [],_,_,_::_,_,_,h,_,_,_=>h.elim
 | _::_,_,_,[],_,_,h,_,_,_=>h.elim
theorem qgf {ops:Array Oper}:∀ {l:List Oper} {T:List TV} {σ:Sto} {tr:Tr} {T':List TV} {σ':Sto},IsTr E E0 P G ops l T σ tr T' σ'→∀ i j id,Nid tr i id→Nid tr j id→i=j
 | [],T,σ,[],T',σ',_,i,j,id,h,_=>by obtain ⟨_,_,_,_,h,_⟩:=h; simp at h
 | o::r,T,σ,(T0,σ0,e0)::tr,T',σ',h,i,j,id,hi,hj=>by
  obtain ⟨hT,hσ,hd,h⟩:=h
  simp only at hT hσ hd h
  subst hT hσ
  obtain ⟨τ0,b4,b5⟩:=q9o σ0 (q8l hd)
  have zero:∀ id k,Nid ((T0,σ0,e0)::tr) 0 id→Nid tr k id→False:=by
   rintro id k ⟨Ti,σi,ob,f,k1,k2⟩ hk
   simp at k1
   obtain ⟨_,rfl,rfl⟩:=k1
   have:=qca h k id hk
   simp[q7z,effσ]at this
   omega
  cases i with
  | zero =>
   cases j with
   | zero=>rfl
   | succ j =>
    obtain ⟨Ti,σi,ob,f,k1,k2⟩:=hj
    exact (zero id j hi ⟨Ti,σi,ob,f,by simpa using k1,k2⟩).elim
  | succ i =>
   obtain ⟨Ti,σi,ob,f,k1,k2⟩:=hi
   cases j with
   | zero=>exact (zero id i hj ⟨Ti,σi,ob,f,by simpa using k1,k2⟩).elim
   | succ j =>
    obtain ⟨Tj,σj,ob',f',k3,k4⟩:=hj
    rw[qgf h i j id ⟨Ti,σi,ob,f,by simpa using k1,k2⟩ ⟨Tj,σj,ob',f',by simpa using k3,k4⟩]
 | [],_,_,_::_,_,_,h,_,_,_,_,_=>h.elim
 | _::_,_,_,[],_,_,h,_,_,_,_,_=>h.elim
theorem qm7 (hi:Inv E E0 X w) (hn:∀ id,¬ X.pend id) {σ1 τ:Sto} (he:σ1=X.σ++τ) {Pd:Nat→Prop} (h1:∀ id,X.σ.length≤id→id < σ1.length→Pd id) (h2:∀ id,id < X.σ.length→¬ Pd id) :
  Inv E E0 { X with σ:=σ1,pend:=Pd } w∧Ext X w { X with σ:=σ1,pend:=Pd } w:=by
 have get:∀ {id:Nat} {ob:AObj},σ1[id]?=some (some ob)→¬ Pd id→X.σ[id]?=some (some ob):=by
  intro id ob e hp
  have hlt:id < σ1.length:=by
   rcases Nat.lt_or_ge id σ1.length with k | k
   ·exact k
   ·rw[List.getElem?_eq_none k]at e; cases e
  have:id < X.σ.length:=by
   rcases Nat.lt_or_ge id X.σ.length with k | k
   ·exact k
   ·exact absurd (h1 id k hlt) hp
  rw[he,List.getElem?_append_left this]at e
  exact e
 have hx:Ext X w { X with σ:=σ1,pend:=Pd } w:=by
  refine ⟨rfl,rfl,BelowO.refl _ _ _,by simp[he],fun b o h=>⟨?_,rfl⟩,fun id hl _=>h2 id hl,fun id ob' hl _ e=>⟨ob',get e (h2 id hl),Nat.le_refl _,fun _=>⟨rfl,rfl,rfl⟩⟩,fun _ _ _ _ h=>h,rfl⟩
  rcases h with h | ⟨k1,k2,k3⟩
  ·exact .inl h
  ·exact .inr ⟨k1,k2,fun id ob l e hp hl hb=>k3 id ob l (get e hp) (hn id) hl hb⟩
 refine ⟨⟨hi.hs,hi.b0,hi.e0,hi.env,fun id ob e hp hbr=>?_,fun id id' ob ob' l l' e e' hp hp'=>hi.inj id id' ob ob' l l' (get e hp) (get e' hp') (hn id) (hn id'),hi.glob,fun id ob e hp=>hi.bare id ob (get e hp) (hn id),hi.maps.carry hx (fun _ _ _ _ h=>h) fun id ag es e hp=>⟨get e hp,hn id⟩,hi.low⟩,hx⟩
 obtain ⟨l,hl,hB,cs,T,hg,hz,hr⟩:=hi.ob id ob (get e hp) (hn id) hbr
 exact ⟨l,hl,hB,cs,T,hg,hz,fun i c hc=>(hr i c hc).imp fun u hu=>⟨hu.1,CRep.ext hx hu.2⟩⟩
end Abs
end Go.Proofs.YtpidpioifnnllaaGreatDoor
