/-
  Regions that draw their order, walked in the order of the text.
  Regions that draw their order, walked in the order of the text: the whole.
  Regions that draw their order: an operation that only moves a value may float past a store.
  What simp unfolds when a region is walked.
-/
import Derived.Test.YtpidpioifnnllaaGreatDoorAbsQ
set_option linter.unusedVariables false
set_option linter.unusedSimpArgs false
namespace Go.Proofs.YtpidpioifnnllaaGreatDoor
namespace Abs
open Go.RowKit
variable {E : World → Prop} {E0 : Nat} {P : Program} {G : Nat → Option (List PV)} {X : Cx} {w : World}
def q1b (ops:List Oper) (i:Nat):List Nat:=match ops[i]? with | some o=>q3n o | none=>[]
def q3m (ops:List Oper) (i:Nat):Option Nat:=match ops[i]? with | some o=>o.dst | none=>none
def qbe (ops:List Oper) (i:Nat):List Nat:=match ops[i]? with | some o=>o.looksAt ops.toArray | none=>[]
def reach (ops:List Oper):Nat→Nat→Nat→Bool
 | 0,_,_=>false
 | k+1,i,j=>(q1b ops j).contains i || (q1b ops j).any fun e=>reach ops k i e
def qao (ops:List Oper) (n1:Nat):Bool :=
 ((List.range ops.length).all fun i=>(q1b ops i).all fun e=>decide (e < i)) &&
 ((List.range ops.length).all fun i=>(List.range ops.length).all fun j=>i == j || (q3m ops i).isNone || !(q3m ops i == q3m ops j)) &&
 ((List.range n1).all fun i=>(List.range ops.length).all fun j=>match q3m ops j with | none=>true | some d=>!(qbe ops i).contains d || (q1b ops i).contains j) &&
 ((List.range ops.length).all fun j=>decide (j < n1) || (List.range j).all fun i=>reach ops ops.length i j)
structure DrawOK (ops:List Oper) (n1:Nat):Prop where
 lt:∀ (i:Nat) (o:Oper),ops[i]?=some o→∀ e ∈ q3n o,e < i
 one:∀ (i j:Nat) (oi oj:Oper) (d:Nat),ops[i]?=some oi→ops[j]?=some oj→oi.dst=some d→oj.dst=some d→i=j
 looks:∀ (i:Nat) (oi:Oper),i < n1→ops[i]?=some oi→∀ (j:Nat) (oj:Oper) (d:Nat),ops[j]?=some oj→oj.dst=some d→d ∈ oi.looksAt ops.toArray→j ∈ q3n oi
 tail:∀ j,n1≤j→j < ops.length→∀ i,i < j→reach ops ops.length i j=true
theorem q1c {α:Type} {l:List α} {i:Nat} {a:α} (h:l[i]?=some a):i < l.length:=by
 rcases Nat.lt_or_ge i l.length with k | k
 ·exact k
 ·rw[List.getElem?_eq_none k]at h; cases h
theorem qqk {ops:List Oper} {n1:Nat} (h:qao ops n1=true):DrawOK ops n1:=by
 unfold qao at h
 simp only[Bool.and_eq_true,List.all_eq_true,List.mem_range]at h
 obtain ⟨⟨⟨h1,h2⟩,h3⟩,h4⟩:=h
 refine ⟨fun i o e x hx=>?_,fun i j oi oj d e1 e2 d1 d2=>?_,fun i oi hi e1 j oj d e2 d2 hl=>?_,fun j hj hlt i hi=>?_⟩
 ·have:=h1 i (q1c e) x (by simp only[q1b,e]; exact hx)
  simpa using this
 ·have:=h2 i (q1c e1) j (q1c e2)
  simp only[q3m,e1,e2,d1,d2]at this
  simpa using this
 ·have:=h3 i hi j (q1c e2)
  simp only[q3m,e2,d2,qbe,e1,q1b]at this
  have hc:(oi.looksAt ops.toArray).contains d=true:=List.contains_iff_mem.2 hl
  rw[hc]at this
  simpa using this
 ·have:=h4 j hlt
  rw[Bool.or_eq_true]at this
  rcases this with k | k
  ·have:=of_decide_eq_true k; omega
  ·simp only[List.all_eq_true,List.mem_range]at k
   exact k i hi
theorem q6h {ops:List Oper} {D:Nat→Prop} (hD:∀ i,D i→∀ e ∈ q1b ops i,D e):∀ (k i j:Nat),reach ops k i j=true→(∀ e ∈ q1b ops j,D e)→D i
 | 0,_,_,h,_=>by simp[reach]at h
 | k+1,i,j,h,he=>by
  simp only[reach,Bool.or_eq_true]at h
  rcases h with h | h
  ·exact he i (List.contains_iff_mem.1 h)
  ·rw[List.any_eq_true]at h
   obtain ⟨e,h1,h2⟩:=h
   exact q6h hD k i e h2 (hD e (he e h1))
def left (n:Nat) (listed:Array Bool):Nat:=(List.range n).countP fun i=>!listed.getD i true
theorem qid {α:Type} {p q:α→Bool}:∀ {l:List α},(∀ x ∈ l,q x=true→p x=true)→∀ {a:α},a ∈ l→p a=true→q a=false→l.countP q < l.countP p
 | [],_,a,ha,_,_=>by simp at ha
 | x::l,h,a,ha,h1,h2=>by
  have hle:l.countP q≤l.countP p:=List.countP_mono_left fun y hy=>h y (by simp[hy])
  rcases List.mem_cons.1 ha with rfl | ha
  ·rw[List.countP_cons_of_pos h1,List.countP_cons_of_neg (by simp[h2])]; omega
  ·have ih:=qid (l:=l) (fun y hy=>h y (by simp[hy])) ha h1 h2
   by_cases hq:q x=true
   ·rw[List.countP_cons_of_pos hq,List.countP_cons_of_pos (h x (by simp) hq)]; omega
   ·rw[List.countP_cons_of_neg hq]
    by_cases hp:p x=true
    ·rw[List.countP_cons_of_pos hp]; omega
    ·rw[List.countP_cons_of_neg hp]; exact ih
theorem qb6 {n:Nat} {listed:Array Bool} (hs:listed.size=n) {i:Nat} (hi:listed.getD i true=false):left n (listed.setIfInBounds i true) < left n listed:=by
 have hlt:i < listed.size:=by
  rcases Nat.lt_or_ge i listed.size with k | k
  ·exact k
  ·simp[Array.getD,Nat.not_lt.2 k]at hi
 refine qid (fun x _ hx=>?_) (a:=i) (List.mem_range.2 (by omega)) (by simp[hi]) ?_
 ·by_cases hxi:i=x
  ·subst hxi; simp[hi]
  ·rw[getD_set_ne true hxi]at hx; exact hx
 ·simp[Array.getD,hlt]
theorem qb7 {n:Nat} {listed:Array Bool} (h:left n listed=0):∀ i,i < n→listed.getD i true=true:=by
 intro i hi
 have:=List.countP_eq_zero.1 h i (List.mem_range.2 hi)
 simpa using this
theorem q3b {listed:Array Bool} {n:Nat} (hs:listed.size=n) {i:Nat} (hi:i < n) (a b:Bool):listed.getD i a=listed.getD i b:=by
 simp[Array.getD,show i < listed.size by omega]
theorem qdu (hG:GRep E E0 G) (hi:Inv E E0 X w) {T:List TV} {a:Act} (hl:T.length=a.tmps.size) (x:Operand) (hx:∀ t,x=.tmp t→∀ v u,T[t]?=some v→a.tmps[t]?=some u→TRep X w v u):TRep X w (evT G T x) (a.eval x):=by
 cases x with
 | tmp t =>
  show TRep X w (T.getD t qw) (a.tmps.getD t undef)
  rcases Nat.lt_or_ge t T.length with h | h
  ·have h':t < a.tmps.size:=by rw[← hl]; exact h
   have e1:T[t]?=some T[t]:=List.getElem?_eq_getElem h
   have e2:a.tmps[t]?=some a.tmps[t]:=Array.getElem?_eq_getElem h'
   have:=hx t rfl _ _ e1 e2
   simpa [List.getD,e1,Array.getD,h'] using this
  ·have h':¬ t < a.tmps.size:=by rw[← hl]; exact Nat.not_lt.2 h
   have e1:T[t]?=none:=List.getElem?_eq_none h
   simp only[List.getD,e1,Option.getD_none,Array.getD,dif_neg h']
   rfl
 | const v=>exact q4z v
 | global g =>
  show TRep X w (match G g with | some cs=>.one (.cell (.pv (.pp cs))) | none=>.one (.cell .any)) _
  cases hg:G g with
  | none=>trivial
  | some cs =>
   show PRep X.prot w (.pp cs) _
   unfold PRep
   exact ⟨g,0,rfl,qh.mono (fun b o h=>⟨q74 hi h,rfl⟩) (hG w hi.env g cs hg)⟩
 | func f=>exact q1t rfl
theorem qgp {ops:Array Oper} {T:List TV} {a:Act} (hl:T.length=a.tmps.size) {o:Oper} (hx:∀ j want d,o.guard=some (j,want)→(ops[j]?).bind (·.dst)=some d→∀ v u,T[d]?=some v→a.tmps[d]?=some u→TRep X w v u) {b:Bool} (h:qz ops T o=some b) :
  Region.wanted o (yielded ops a.tmps)=b:=by
 unfold qz at h
 unfold Region.wanted
 split at h
 ·rename_i hg; simp at h; rw[hg]; exact h.symm
 ·rename_i j want hg
  rw[hg]
  simp only
  unfold yielded
  split at h
  ·rename_i hd
   simp at h
   rw[hd]; simp[← h]
  ·rename_i d hd
   rw[hd]
   simp only[Option.bind_some]
   split at h
   ·rename_i c hT
    simp at h
    have hlt:d < a.tmps.size:=by rw[← hl]; exact q1c hT
    have e2:a.tmps[d]?=some a.tmps[d]:=Array.getElem?_eq_getElem hlt
    obtain ⟨hu,_⟩:=q1s (hx j want d hg hd _ _ hT e2)
    rw[e2,hu]
    simp[← h]
   ·rename_i hT
    simp at h
    have hlt:d < a.tmps.size:=by rw[← hl]; exact q1c hT
    have e2:a.tmps[d]?=some a.tmps[d]:=Array.getElem?_eq_getElem hlt
    have hu:a.tmps[d]=undef:=hx j want d hg hd _ _ hT e2
    rw[e2,hu]
    simp[← h,undef]
   ·cases h
theorem qp5 (hb:Base E E0 G) {ops:Array Oper} {Q:Exit→Act→World→Prop} {K:List TV→Sto→Prop} {Kont:Act→World→Prop} {o:Oper} {r:List Oper} {T:List TV} {a:Act} (hn:∀ id,¬ X.pend id) (hi:Inv E E0 X w) (hf:Frm X w T a) (h:asq E E0 P G ops (o::r) T X.σ K)
  (hk:∀ T' X' w' a',Ext X w X' w'→(∀ id,¬ X'.pend id)→Inv E E0 X' w'→Frm X' w' T' a'→asq E E0 P G ops r T' X'.σ K→Kont a' w') (hq:FinQ E E0 K Q X w) :
  if Region.wanted o (yielded ops a.tmps) then o.wp P a w Kont Q∨(o.asks P a w∧LetsOut Q) else Kont (a.put o.dst undef) w:=by
 unfold asq at h
 split at h
 ·rename_i hw
  rw[if_pos (qcg hf hw)]
  left
  rcases h with h | h | h
  rotate_left 2
  ·obtain ⟨eff,hg,h2⟩:=qdb (ev:=a.eval) hi (fun x _=>q39 hb.glob hi hf x) h
   obtain ⟨u,w',X',g1,g2,g3,g4,g5,g6⟩:=q76 hi hb.step hn hg
   unfold Oper.wp
   rcases g1 with g1 | ⟨g1,rfl⟩
   ·rw[g1]; exact hk _ X' w' _ g5 g3 g4 (q5f hf g5 g6 _) (by rw[g2]; exact h2)
   ·rw[g1]; exact hk _ X' w' _ g5 g3 g4 (q5f hf g5 g6 _) (by rw[g2]; exact h2)
  rotate_left
  ·unfold q5x at h
   split at h
   ·rename_i f args tys hop
    split at h
    ·rename_i g caps l hc ha
     obtain ⟨v,hen,hce,hk⟩:=h
     obtain ⟨us,hu,hcr⟩:=q5a hc (q39 hb.glob hi hf f)
     have har:=q8d hb.glob hi hf ha
     have hrun:=q5s (P:=P) (o:=o) hop hu hen w
     unfold Oper.wp
     rw[hrun]
     show Calls P g _ w _
     have harr:args.map a.eval++us=(args.toList.map a.eval++us.toList).toArray:=by
      apply Array.ext'; simp
     rw[harr]
     refine (hce X w _ rfl hn hi (har.append hcr)).mono ?_
     rintro e w' ⟨rfl,X',h2,h3,h4⟩
     exact hq.2 v X' w' a h4 h2 h3 hf.defers hk
    ·exact h.elim
   ·exact h.elim
  obtain ⟨eff,h1,h2⟩:=qcp h
  rcases qa3 h1 with ⟨f,args,tys,g,caps,l,hop,hc,ha,hce⟩ | h1
  ·obtain ⟨us,hu,hcr⟩:=q5a hc (q39 hb.glob hi hf f)
   have har:=q8d hb.glob hi hf ha
   obtain ⟨hen,hcalls⟩:=qdg hi hn hce (har.append hcr)
   have hrun:=q5s (P:=P) (o:=o) hop hu hen w
   unfold Oper.wp
   rw[hrun]
   show Calls P g _ w _
   have harr:args.map a.eval++us=(args.toList.map a.eval++us.toList).toArray:=by
    apply Array.ext'; simp
   rw[harr]
   refine hcalls.mono ?_
   rintro e w' ⟨v,X',rfl,h1,k2,h3,h4,h5⟩
   exact hk _ X' w' _ h4 k2 h3 (q5f hf h4 h5 _) (by rw[h1]; exact h2)
  ·obtain ⟨u,w',X',g1,g2,g3,g4,g5,g6⟩:=q76 hi hb.step hn (q6u (P:=P) (ev:=a.eval) hi hb.step (fun x _=>q39 hb.glob hi hf x) h1)
   unfold Oper.wp
   rcases g1 with g1 | ⟨g1,rfl⟩
   ·rw[g1]; exact hk _ X' w' _ g5 g3 g4 (q5f hf g5 g6 _) (by rw[g2]; exact h2)
   ·rw[g1]; exact hk _ X' w' _ g5 g3 g4 (q5f hf g5 g6 _) (by rw[g2]; exact h2)
 ·rename_i hw
  rw[if_neg (by rw[qcg hf hw]; simp)]
  exact hk _ X w _ (Ext.refl _ _) hn hi (q5f hf (Ext.refl _ _) q6l _) h
 ·exact h.elim
theorem qag {o:Oper} {listed:Array Bool} (h:∀ e ∈ q3n o,listed.getD e false=true):∀ e ∈ o.after,Region.binds .any e=true→listed.getD e.on false=true:=fun e he hb=>h e.on (List.mem_map.2 ⟨e,List.mem_filter.2 ⟨by simpa using he,hb⟩,rfl⟩)
theorem qaq {o:Oper} {listed:Array Bool} (h:∀ e ∈ o.after,Region.binds .any e=true→listed.getD e.on false=true):∀ e ∈ q3n o,listed.getD e false=true:=fun e he=>by
 obtain ⟨x,h1,rfl⟩:=List.mem_map.1 he
 obtain ⟨h2,h3⟩:=List.mem_filter.1 h1
 exact h x (by simpa using h2) h3
theorem qim (hb:Base E E0 G) {ops:List Oper} {n1:Nat} (hok:DrawOK ops n1) {Q:Exit→Act→World→Prop} {K:List TV→Sto→Prop}:∀ (r:List Oper) (i fuel:Nat) (listed:Array Bool) (T:List TV) (X:Cx) (w:World) (a:Act),
  n1≤i→ops.drop i=r→listed.size=ops.length→(∀ k,k < ops.length→(listed.getD k false=true ↔ k < i))→left ops.length listed≤fuel→(∀ id,¬ X.pend id)→Inv E E0 X w→Frm X w T a→asq E E0 P G ops.toArray r T X.σ K →
  FinQ E E0 K Q X w→wpAny P .any ops.toArray Q fuel listed a w
 | [],i,fuel,listed,T,X,w,a,hi1,hd,hs,hl,hf,hn,hi,hfr,h,hq=>by
  have hlen:ops.length≤i:=by have:=congrArg List.length hd; simp at this; omega
  have hr:Region.ready .any ops.toArray listed=[]:=by
   apply List.eq_nil_iff_forall_not_mem.2
   intro j hj
   obtain ⟨h1,o,h2,_⟩:=mem_ready.1 hj
   have hlt:j < ops.length:=q1c (by simpa using h2)
   have:=(hl j hlt).2 (by omega)
   rw[q3b hs hlt true false]at h1
   rw[h1]at this; cases this
  have hQ:Q .normal a w:=hq.1 T X w a (Ext.refl _ _) hn hi hfr h
  cases fuel with
  | zero=>exact ⟨hr,hQ⟩
  | succ fuel=>exact ⟨fun _=>hQ,fun j hj=>by rw[hr]at hj; simp at hj⟩
 | o::r,i,fuel,listed,T,X,w,a,hi1,hd,hs,hl,hf,hn,hi,hfr,h,hq=>by
  have hlt:i < ops.length:=by have:=congrArg List.length hd; simp at this; omega
  have ho:ops[i]?=some o:=by
   have:=congrArg (fun l:List Oper=>l[0]?) hd
   simpa using this
  have hun:listed.getD i true=false:=by
   rw[q3b hs hlt true false]
   cases hc:listed.getD i false with
   | false=>rfl
   | true=>exact absurd ((hl i hlt).1 hc) (Nat.lt_irrefl _)
  have hready:i ∈ Region.ready .any ops.toArray listed:=mem_ready.2 ⟨hun,o,by simpa using ho,qag fun e he=>by
   have:=hok.lt i o ho e he
   exact (hl e (by omega)).2 this⟩
  have honly:∀ j ∈ Region.ready .any ops.toArray listed,j=i:=by
   intro j hj
   obtain ⟨h1,oj,h2,h3⟩:=mem_ready.1 hj
   have h2':ops[j]?=some oj:=by simpa using h2
   have hjl:j < ops.length:=q1c h2'
   have hge:i≤j:=by
    rcases Nat.lt_or_ge j i with k | k
    ·have:=(hl j hjl).2 k
     rw[q3b hs hjl true false,this]at h1; cases h1
    ·exact k
   rcases Nat.eq_or_lt_of_le hge with k | k
   ·exact k.symm
   ·exfalso
    have hr:=hok.tail j (by omega) hjl i k
    have hcl:∀ k,(k < ops.length∧listed.getD k false=true)→∀ e ∈ q1b ops k,e < ops.length∧listed.getD e false=true:=by
     rintro k ⟨k1,k2⟩ e he
     have hok2:ops[k]?=some ops[k]:=List.getElem?_eq_getElem k1
     simp only[q1b,hok2]at he
     have:=hok.lt k _ hok2 e he
     have hki:=(hl k k1).1 k2
     exact ⟨by omega,(hl e (by omega)).2 (by omega)⟩
    have:=q6h (D:=fun k=>k < ops.length∧listed.getD k false=true) hcl _ i j hr (fun e he=>by
     simp only[q1b,h2']at he
     exact ⟨by have:=hok.lt j _ h2' e he; omega,qaq h3 e he⟩)
    have:=(hl i hlt).1 this.2
    omega
  cases fuel with
  | zero =>
   have:=qb7 (Nat.le_zero.1 hf) i hlt
   rw[hun]at this; cases this
  | succ fuel =>
   refine ⟨fun hr=>by rw[hr]at hready; simp at hready,fun j hj=>?_⟩
   obtain rfl:=honly j hj
   unfold wpOp
   have ho':ops.toArray[j]?=some o:=by simpa using ho
   simp only[ho']
   refine qp5 hb hn hi hfr h (fun T' X' w' a' k1 k2 k3 k4 k5=>?_) hq
   refine qim hb hok r (j+1) fuel _ T' X' w' a' (by omega) (by rw[← List.drop_drop,hd]; rfl) (by simpa using hs) (fun k hk=>?_) (by have:=qb6 hs hun; omega) k2 k3 k4 k5 (hq.ext k1)
   by_cases hkj:j=k
   ·subst hkj
    simp[Array.getD,hs,hlt]
   ·rw[getD_set_ne false hkj,hl k hk]
    omega
end Abs
end Go.Proofs.YtpidpioifnnllaaGreatDoor
namespace Go.Proofs.YtpidpioifnnllaaGreatDoor
namespace Abs
open Go.RowKit
variable {E : World → Prop} {E0 : Nat} {P : Program} {G : Nat → Option (List PV)} {X : Cx} {w : World}
structure Half (E:World→Prop) (E0:Nat) (ops:List Oper) (n1:Nat) (tr:Tr) (T1:List TV) (σ1:Sto) (X0:Cx) (w0:World) (listed:Array Bool) (X:Cx) (w:World) (a:Act):Prop where
 size:listed.size=ops.length
 pre:∀ i,listed.getD i false=true→i < n1
 down:∀ i o,listed.getD i false=true→ops[i]?=some o→∀ e ∈ q3n o,listed.getD e false=true
 sig:X.σ=σ1
 pend:∀ id,X.pend id ↔ ∃ i,i < n1∧listed.getD i false=false∧Nid tr i id
 inv:Inv E E0 X w
 ext:Ext X0 w0 X w
 len:T1.length=a.tmps.size
 defers:a.defers=[]
 tmps:∀ t v u,T1[t]?=some v→a.tmps[t]?=some u→(∀ (j:Nat) (oj:Oper),j < n1→ops[j]?=some oj→oj.dst=some t→listed.getD j false=true)→TRep X w v u
theorem qqi (hb:Base E E0 G) {ops:List Oper} {n1:Nat} (hn1:n1≤ops.length) (hok:DrawOK ops n1) {T T1:List TV} {σ σ1:Sto} {tr:Tr} (htr:IsTr E E0 P G ops.toArray (ops.take n1) T σ tr T1 σ1) {Q:Exit→Act→World→Prop} {K:List TV→Sto→Prop}
  (htail:asq E E0 P G ops.toArray (ops.drop n1) T1 σ1 K) {X0:Cx} {w0:World} (hq:FinQ E E0 K Q X0 w0) :
  ∀ (fuel:Nat) (listed:Array Bool) (X:Cx) (w:World) (a:Act),Half E E0 ops n1 tr T1 σ1 X0 w0 listed X w a→left ops.length listed≤fuel→wpAny P .any ops.toArray Q fuel listed a w:=by
 -- all of the first operations are done: the tail
 have full:∀ (fuel:Nat) (listed:Array Bool) (X:Cx) (w:World) (a:Act),Half E E0 ops n1 tr T1 σ1 X0 w0 listed X w a→left ops.length listed≤fuel→(∀ i,i < n1→listed.getD i false=true)→wpAny P .any ops.toArray Q fuel listed a w:=by
  intro fuel listed X w a h hf hall
  have hn:∀ id,¬ X.pend id:=by
   intro id hp
   obtain ⟨i,hi,hl,_⟩:=(h.pend id).1 hp
   rw[hall i hi]at hl; cases hl
  have hfr:Frm X w T1 a:=⟨h.len,fun t v u h1 h2=>h.tmps t v u h1 h2 fun j _ hj _ _=>hall j hj,h.defers⟩
  refine qim hb hok (ops.drop n1) n1 fuel listed T1 X w a (Nat.le_refl _) rfl h.size (fun k _=>⟨h.pre k,hall k⟩) hf hn h.inv hfr (by rw[h.sig]; exact htail) (hq.ext h.ext)
 intro fuel
 induction fuel with
 | zero =>
  intro listed X w a h hf
  refine full 0 listed X w a h hf fun i hi=>?_
  rw[← q3b h.size (by omega) true false]
  exact qb7 (Nat.le_zero.1 hf) i (by omega)
 | succ fuel ih =>
  intro listed X w a h hf
  by_cases hall:∀ i,i < n1→listed.getD i false=true
  ·exact full _ listed X w a h hf hall
  ·refine ⟨fun hr=>?_,fun i hready=>?_⟩
   ·-- the least one that is not done is ready
    exfalso
    have key:∀ k i,i≤k→i < n1→listed.getD i false=false→False:=by
     intro k
     induction k using Nat.strongRecOn with
     | _ k ihk =>
      intro i hik hi hl
      have hio:ops[i]?=some ops[i]:=List.getElem?_eq_getElem (by omega)
      by_cases hm:∃ e ∈ q3n ops[i],listed.getD e false=false
      ·obtain ⟨e,he,hel⟩:=hm
       have:=hok.lt i _ hio e he
       exact ihk e (by omega) e (Nat.le_refl _) (by omega) hel
      ·have:i ∈ Region.ready .any ops.toArray listed:=mem_ready.2 ⟨by rw[q3b h.size (by omega) true false]; exact hl,ops[i],by rw[List.getElem?_toArray]; exact hio,qag fun e he=>by
        cases hc:listed.getD e false with
        | true=>rfl
        | false=>exact absurd ⟨e,he,hc⟩ hm⟩
       rw[hr]at this; simp at this
    apply hall
    intro i hi
    cases hc:listed.getD i false with
    | true=>rfl
    | false=>exact (key i i (Nat.le_refl _) hi hc).elim
   ·obtain ⟨hun,o,ho,hed⟩:=mem_ready.1 hready
    have ho':ops[i]?=some o:=by simpa using ho
    have hil:i < ops.length:=q1c ho'
    have hun':listed.getD i false=false:=by rw[← q3b h.size hil true false]; exact hun
    have hedges:=qaq hed
    by_cases hi:i < n1
    ·-- one of the first operations
     have hti:(ops.take n1)[i]?=some o:=by rw[List.getElem?_take,if_pos hi]; exact ho'
     obtain ⟨Ti,σi,e,htri,hat⟩:=q9r htr i o hti
     obtain ⟨hbl,⟨_,_⟩,_⟩:=q6k htr
     have hdst:∀ (j:Nat) (oj:Oper) (d:Nat),ops[j]?=some oj→oj.dst=some d→d ∈ o.looksAt ops.toArray→listed.getD j false=true∧j < i:=fun j oj d e1 e2 e3=>by
      have:=hok.looks i o hi ho' j oj d e1 e2 e3
      exact ⟨hedges j this,hok.lt i o ho' j this⟩
     have look:∀ t,t ∈ o.looksAt ops.toArray→∀ v u,T1[t]?=some v→a.tmps[t]?=some u→TRep X w v u:=fun t ht v u h1 h2=>h.tmps t v u h1 h2 fun j oj _ e1 e2=>(hdst j oj t e1 e2 ht).1
     have same:∀ t,t ∈ o.looksAt ops.toArray→T1[t]?=Ti[t]?:=fun t ht=>hat.later t fun j oj hij e1 e2=>by
      have e1':ops[j]?=some oj:=by
       rw[List.getElem?_take]at e1
       split at e1
       ·exact e1
       ·cases e1
      have:=(hdst j oj t e1' e2 ht).2
      omega
     have opl:∀ t,Operand.tmp t ∈ o.op.operands.toList→t ∈ o.looksAt ops.toArray:=fun t ht=>List.mem_append_left _ (List.mem_filterMap.2 ⟨.tmp t,ht,rfl⟩)
     have hρ:∀ x ∈ o.op.operands.toList,evT G Ti x=evT G T1 x:=fun x hx=>by
      cases x with
      | tmp t =>
       have:=same t (opl t hx)
       show Ti.getD t qw=T1.getD t qw
       simp[List.getD,this]
      | _=>rfl
     have hrep:∀ x ∈ o.op.operands.toList,TRep X w (evT G T1 x) (a.eval x):=fun x hx=>qdu hb.glob h.inv h.len x fun t ht v u h1 h2=>by subst ht; exact look t (opl t hx) v u h1 h2
     have glook:∀ j want d,o.guard=some (j,want)→(ops.toArray[j]?).bind (·.dst)=some d→d ∈ o.looksAt ops.toArray:=fun j want d hg hd=>by
      refine List.mem_append_right _ ?_
      rw[hg]
      simp only[hd,Option.toList_some,List.mem_singleton]
     have hwant:∀ b,qz ops.toArray Ti o=some b→Region.wanted o (yielded ops.toArray a.tmps)=b:=fun b hwb=>by
      refine qgp (X:=X) (w:=w) h.len (fun j want d hg hd v u h1 h2=>look d (glook j want d hg hd) v u h1 h2) (T:=T1) ?_
      rw[← hwb]
      unfold qz
      cases hg:o.guard with
      | none=>rfl
      | some p =>
       obtain ⟨j,want⟩:=p
       simp only
       cases hd:(ops.toArray[j]?).bind (·.dst) with
       | none=>rfl
       | some d=>simp only[same d (glook j want d hg hd)]
     -- what follows,given the value
     have cont:∀ (X':Cx) (w':World) (u:Value),X'.σ=σ1→(∀ id,X'.pend id ↔ ∃ k,k < n1∧(listed.setIfInBounds i true).getD k false=false∧Nid tr k id)→Inv E E0 X' w'→Ext X w X' w'→TRep X' w' (q55 σi e) u→wpAny P .any ops.toArray Q fuel (listed.setIfInBounds i true) (a.put o.dst u) w':=by
      intro X' w' u e1 e2 e3 e4 e5
      refine ih _ X' w' _ ⟨by simpa using h.size,fun k hk=>?_,fun k ok hk hko x hx=>?_,e1,e2,e3,h.ext.trans e4,?_,?_,fun t v u' h1 h2 hw=>?_⟩ (by have:=qb6 h.size hun; omega)
      ·by_cases hki:i=k
       ·omega
       ·rw[getD_set_ne false hki]at hk; exact h.pre k hk
      ·have hx2:listed.getD x false=true:=by
        by_cases hki:i=k
        ·subst hki
         rw[ho']at hko
         obtain rfl:o=ok:=by simpa using hko
         exact hedges x hx
        ·rw[getD_set_ne false hki]at hk; exact h.down k ok hk hko x hx
       exact getD_set_true hx2
      ·cases hd:o.dst <;> simp[Act.put,h.len]
      ·cases hd:o.dst <;> simp[Act.put,h.defers]
      ·by_cases hdt:o.dst=some t
       ·have hv:T1[t]?=some (q55 σi e):=hat.val t hdt (fun j oj hij e1 e2=>by
         have e1':ops[j]?=some oj:=by
          rw[List.getElem?_take]at e1
          split at e1
          ·exact e1
          ·cases e1
         have:=hok.one i j o oj t ho' e1' hdt e2
         omega) (by rw[← hbl]; exact q1c h1)
        rw[h1]at hv
        obtain rfl:v=q55 σi e:=by simpa using hv
        rw[hdt]at h2
        simp only[Act.put,Array.getElem?_setIfInBounds]at h2
        have hlt:t < a.tmps.size:=by rw[← h.len]; exact q1c h1
        simp[hlt]at h2
        subst h2; exact e5
       ·have h2':a.tmps[t]?=some u':=by
         cases hd:o.dst with
         | none=>rw[hd]at h2; exact h2
         | some d =>
          rw[hd]at h2 hdt
          simp only[Act.put,Array.getElem?_setIfInBounds]at h2
          rw[if_neg (by intro k; subst k; exact hdt rfl)]at h2
          exact h2
        refine TRep.ext e4 (h.tmps t v u' h1 h2' fun j oj hj e1 e2=>?_)
        have:=hw j oj hj e1 e2
        by_cases hij:i=j
        ·subst hij
         rw[ho']at e1
         obtain rfl:o=oj:=by simpa using e1
         exact absurd e2 hdt
        ·rw[getD_set_ne false hij]at this; exact this
     have notnew:(∀ ob f,e≠some (.new ob f))→∀ id,X.pend id ↔ ∃ k,k < n1∧(listed.setIfInBounds i true).getD k false=false∧Nid tr k id:=by
      intro hnn id
      rw[h.pend]
      constructor
      ·rintro ⟨k,k1,k2,k3⟩
       refine ⟨k,k1,?_,k3⟩
       by_cases hik:i=k
       ·subst hik
        obtain ⟨Tk,σk,ob,f,k4,_⟩:=k3
        rw[htri]at k4
        simp at k4
        exact absurd k4.2.2 (hnn ob f)
       ·rw[getD_set_ne false hik]; exact k2
      ·rintro ⟨k,k1,k2,k3⟩
       refine ⟨k,k1,?_,k3⟩
       by_cases hik:i=k
       ·subst hik; exact hun'
       ·rw[getD_set_ne false hik]at k2; exact k2
     unfold wpOp
     simp only[ho]
     have hdid:=hat.did
     cases he:e with
     | none =>
      rw[he]at hdid
      have hw:=hwant false hdid
      rw[hw]
      simp only[Bool.false_eq_true,if_false]
      refine cont X w undef h.sig (notnew (by rw[he]; simp)) h.inv (Ext.refl _ _) ?_
      rw[he]; exact q6l
     | some eff =>
      rw[he]at hdid
      obtain ⟨hnu,hwt,hop⟩:=hdid
      rw[hwant true hwt]
      simp only[if_true]
      left
      obtain ⟨τ,hτ⟩:=hat.up
      rcases qgv (τ:=τ) hρ hnu hop with ⟨f,args,tys,g,caps,l,args',r,hopc,hc,ha,rfl,hfz,hen,hpure,hfl⟩ | hao
      ·rw[← hτ,← h.sig]at hfz
       have hfm:∀ y,y=f∨y ∈ args.toList→TRep X w (evT G T1 y) (a.eval y):=fun y hy=>hrep y (by
        rw[hopc]
        simp only[Op.operands,Call.operands]
        rcases hy with rfl | hy
        ·simp
        ·simp; exact .inr (by simpa using hy))
       obtain ⟨us,hu,hcr⟩:=q5a hc (hfm f (.inl rfl))
       have har:=args_rep' (fun y hy=>hfm y (.inr hy)) ha
       have hcalls:=qhx h.inv hfz hpure hfl (har.append hcr)
       have hrun:=q5s (P:=P) (o:=o) hopc hu hen w
       unfold Oper.wp
       rw[hrun]
       show Calls P g _ w _
       have harr:args.map a.eval++us=(args.toList.map a.eval++us.toList).toArray:=by
        apply Array.ext'; simp
       rw[harr]
       refine hcalls.mono ?_
       rintro e2 w' ⟨v,rfl,hbw,hE',hr⟩
       refine cont { X with hs:=w'.heap.size } w' v h.sig (notnew (by rw[he]; simp)) (q3p h.inv hbw hE') (q2p h.inv hbw) ?_
       rw[he]; exact hr
      ·rw[← hτ,← h.sig]at hao
       have hgot:=q6u (P:=P) (ev:=a.eval) h.inv hb.step hrep hao
       unfold Oper.wp
       cases eff with
       | upd _ _=>simp[Eff.isUpd]at hnu
       | val v =>
        obtain ⟨u,w',g1,g2,g3⟩:=hgot
        have hE':E w':=hb.step _ _ h.inv.env (g2.mono (Nat.le_trans h.inv.e0 h.inv.b0))
        have fin:∀ u',TRep { X with hs:=w'.heap.size } w' v u'→wpAny P .any ops.toArray Q fuel (listed.setIfInBounds i true) (a.put o.dst u') w':=fun u' hu'=>cont { X with hs:=w'.heap.size } w' u' h.sig (notnew (by rw[he]; simp)) (q3p h.inv g2 hE') (q2p h.inv g2) (by rw[he]; exact hu')
        rcases g1 with g1 | ⟨g1,rfl⟩
        ·rw[g1]; exact fin u g3
        ·rw[g1]; exact fin undef g3
       | new ob f =>
        obtain ⟨w1,cs,Ty,u,s1,g1,g2,hbr,g3⟩:=hgot
        obtain ⟨si,se⟩:=q6j h.inv hb.step s1
        have hsz:w1.heap.size=w.heap.size:=by rw[s1.heap]
        have hid:X.σ[σi.length]?=some (some ob):=by rw[h.sig]; exact hat.ob ob f he
        have hnid:Nid tr i σi.length:=⟨Ti,σi,ob,f,by rw[htri,he],rfl⟩
        have hpe:X.pend σi.length:=(h.pend _).2 ⟨i,hi,hun',hnid⟩
        have hr:q2l X w1 ob cs:=fun k c ec=>(g2 k c ec).imp fun u hu=>⟨hu.1,CRep.ext se hu.2⟩
        have bi:=qdd si hb.step hpe hid hbr cs Ty hr
        have be:=qai si hpe cs Ty
        have ht:=g3 X σi.length hid
        rw[hsz]at bi be
        have hpend:∀ id,(X.born σi.length (w.heap.size,cs.size)).pend id ↔ ∃ k,k < n1∧(listed.setIfInBounds i true).getD k false=false∧Nid tr k id:=by
         intro id
         show (X.pend id∧id≠σi.length) ↔ _
         rw[h.pend]
         constructor
         ·rintro ⟨⟨k,k1,k2,k3⟩,k4⟩
          refine ⟨k,k1,?_,k3⟩
          by_cases hik:i=k
          ·subst hik
           obtain ⟨Tk,σk,ob',f',k5,k6⟩:=k3
           rw[htri]at k5
           simp at k5
           exact absurd (k6.trans (by rw[k5.2.1])) k4
          ·rw[getD_set_ne false hik]; exact k2
         ·rintro ⟨k,k1,k2,k3⟩
          have hik:i≠k:=by
           rintro rfl
           have hlt:i < listed.size:=by rw[h.size]; exact hil
           simp[Array.getD,hlt]at k2
          rw[getD_set_ne false hik]at k2
          refine ⟨⟨k,k1,k2,k3⟩,fun k4=>?_⟩
          subst k4
          exact hik (qgf htr i k _ hnid k3)
        have fin:∀ u',TRep (X.born σi.length (w.heap.size,cs.size)) (w1.alloc (.cells cs Ty (0,0))) (f σi.length) u'→wpAny P .any ops.toArray Q fuel (listed.setIfInBounds i true) (a.put o.dst u') (w1.alloc (.cells cs Ty (0,0))):=fun u' hu' =>
         cont (X.born σi.length (w.heap.size,cs.size)) _ u' h.sig hpend bi (se.trans be) (by rw[he]; exact hu')
        rcases g1 with g1 | ⟨g1,rfl⟩
        ·rw[g1]; exact fin u ht
        ·rw[g1]; exact fin undef ht
    ·-- an operation of the tail: then all before it are done
     exfalso
     apply hall
     intro k hk
     have hr:=hok.tail i (by omega) hil k (by omega)
     have hcl:∀ k,(k < ops.length∧listed.getD k false=true)→∀ e ∈ q1b ops k,e < ops.length∧listed.getD e false=true:=by
      rintro k ⟨k1,k2⟩ e he
      have hok2:ops[k]?=some ops[k]:=List.getElem?_eq_getElem k1
      simp only[q1b,hok2]at he
      have:=hok.lt k _ hok2 e he
      exact ⟨by omega,h.down k _ k2 hok2 e he⟩
     exact (q6h (D:=fun k=>k < ops.length∧listed.getD k false=true) hcl _ k i hr (fun e he=>by
      simp only[q1b,ho']at he
      exact ⟨by have:=hok.lt i _ ho' e he; omega,hedges e he⟩)).2
variable {m : Nat} {T : List TV} {σ : Sto} {K : Ex → List TV → Sto → Prop} {r : List Code}
theorem qp7 (hb:Base E E0 G) (hm:P.follows .mixedOrders=true) {id:Nat} {ops:List Oper} (n1:Nat) (hn1:n1≤ops.length) (hok:qao ops n1=true) (h:asqD E E0 P G ops.toArray (ops.take n1) T σ fun T1 σ1=>asq E E0 P G ops.toArray (ops.drop n1) T1 σ1 (KD K)) :
  awp E E0 P m (.region id ops.toArray true) T σ K:=by
 intro X w a h1 h2 h3 h4 h5
 subst h1
 refine wp_region_any hm ?_
 obtain ⟨tr,T1,σ1,htr,htail⟩:=qaa h
 obtain ⟨hbl,⟨τ,hτ⟩,hbt⟩:=q6k htr
 have hdr:Still w { w with drawn:=w.drawn+1 }:=⟨rfl,rfl,rfl,rfl⟩
 obtain ⟨si,se⟩:=q6j h4 hb.step hdr
 have hcov:=qge htr
 obtain ⟨pi,pe⟩:=qm7 si h3 hτ (Pd:=fun id=>∃ i,i < n1∧(Array.replicate ops.length false).getD i false=false∧Nid tr i id)
  (fun id k1 k2=>by
   obtain ⟨i,q1,q2⟩:=hcov id k1 k2
   have q1':i < n1:=by simp at q1; omega
   exact ⟨i,q1',by simp[Array.getD],q2⟩)
  (fun id k1=>by
   rintro ⟨i,_,_,q⟩
   have:=qca htr i id q
   omega)
 have:=qqi hb hn1 (qqk hok) htr (Q:=Post E E0 m X w K) (X0:=X) (w0:=w) (K:=KD K) htail (qci h2 h3) ops.length (Array.replicate ops.length false) { X with σ:=σ1,pend:=fun id=>∃ i,i < n1∧(Array.replicate ops.length false).getD i false=false∧Nid tr i id } { w with drawn:=w.drawn+1 } a
  ⟨by simp,fun i hi=>by simp[Array.getD]at hi,fun i o hi=>by simp[Array.getD]at hi,rfl,fun id=>Iff.rfl,pi,se.trans pe,by rw[hbl]; exact h5.len,h5.defers,fun t v u e1 e2 hw=>?_⟩ (by unfold left; refine Nat.le_trans List.countP_le_length ?_; simp)
 ·simpa using this
 ·have:T1[t]?=T[t]?:=hbt t fun j oj e3 e4=>by
   have hj:j < n1:=by have:=q1c e3; simp at this; omega
   have e3':ops[j]?=some oj:=by
    rw[List.getElem?_take,if_pos hj]at e3; exact e3
   have:=hw j oj hj e3' e4
   simp[Array.getD]at this
  rw[this]at e1
  exact TRep.ext (se.trans pe) (h5.rep t v u e1 e2)
theorem L_draw (hb:Base E E0 G) (hm:P.follows .mixedOrders=true) {id:Nat} {ops:List Oper} (n1:Nat) (hn1:n1≤ops.length) (hok:qao ops n1=true)
  (h:∀ R:List TV→Sto→Prop,(∀ T' σ',(∀ v,T'≠[.dead v])→awpL E E0 P m r T' σ' K→R T' σ')→(∀ v,(∀ T' σ',K (.pan v) T' σ')→R [.dead v] [])→asqD E E0 P G ops.toArray (ops.take n1) T σ fun T1 σ1=>asq E E0 P G ops.toArray (ops.drop n1) T1 σ1 R):awpL E E0 P m (.region id ops.toArray true::r) T σ K :=
 qp7 hb hm n1 hn1 hok (h (KD (fun ex T' σ'=>match ex with | .normal=>awpL E E0 P m r T' σ' K | ex=>K ex T' σ')) (fun T' σ' q k=>q87 (K:=fun ex T' σ'=>match ex with | .normal=>awpL E E0 P m r T' σ' K | ex=>K ex T' σ') k fun v e=>q v e) fun v k=>k)
end Abs
end Go.Proofs.YtpidpioifnnllaaGreatDoor
namespace Go.Proofs.YtpidpioifnnllaaGreatDoor
namespace Abs
open Go.RowKit
variable {E : World → Prop} {E0 : Nat} {P : Program} {G : Nat → Option (List PV)} {X : Cx} {w : World}
def q1u (fl:List Nat) (i:Nat):Bool:=fl.any (Nat.beq i)
def q5b (fl:List Nat) (ops:List Oper) (n1:Nat):Bool :=
 ((List.range ops.length).all fun i=>(q1b ops i).all fun e=>decide (e < i)) &&
 ((List.range ops.length).all fun i=>(List.range ops.length).all fun j=>i == j || (q3m ops i).isNone || !(q3m ops i == q3m ops j)) &&
 ((List.range ops.length).all fun i=>(List.range ops.length).all fun j=>match q3m ops j with | none=>true | some d=>!(qbe ops i).contains d || (q1b ops i).contains j || (decide (n1≤j) && decide (i≤j) && (!(decide (i < n1) && q1u fl i) || reach ops ops.length i j))) &&
 ((List.range ops.length).all fun j=>decide (j < n1) || (List.range j).all fun i=>(decide (i < n1) && q1u fl i) || reach ops ops.length i j)
def FlOK (P:Program) (G:Nat→Option (List PV)) (fl:List Nat) (ops:List Oper) (n1:Nat) (T:List TV):Prop :=
 ∀ (k:Nat) (o:Oper),k < n1→ops[k]?=some o→q1u fl k=true→qz ops.toArray T o=some false∨∃ v,aop P (evT G T) [] o.op=some (.val v)
def qaw (P:Program) (G:Nat→Option (List PV)) (fl:List Nat) (ops:Array Oper) (T:List TV):Bool :=
 fl.all fun k=>match ops[k]? with
  | none=>true
  | some o=>match qz ops T o with
   | some false=>true
   | some true=>match aop P (evT G T) [] o.op with
    | some (.val _)=>true
    | _=>false
   | none=>false
theorem qr5 {P:Program} {G:Nat→Option (List PV)} {fl:List Nat} {ops:List Oper} {n1:Nat} {T:List TV} (h:qaw P G fl ops.toArray T=true):FlOK P G fl ops n1 T:=by
 intro k o hk ho hf
 unfold q1u at hf
 obtain ⟨k',hm,hb⟩:=List.any_eq_true.1 hf
 obtain rfl:k=k':=Nat.eq_of_beq_eq_true hb
 have:=List.all_eq_true.1 h k hm
 rw[show ops.toArray[k]?=some o by simpa using ho]at this
 simp only at this
 split at this
 ·exact .inl (by assumption)
 ·split at this
  ·rename_i v e; exact .inr ⟨_,e⟩
  ·cases this
 ·cases this
structure DrawFOK (fl:List Nat) (ops:List Oper) (n1:Nat):Prop where
 lt:∀ (i:Nat) (o:Oper),ops[i]?=some o→∀ e ∈ q3n o,e < i
 one:∀ (i j:Nat) (oi oj:Oper) (d:Nat),ops[i]?=some oi→ops[j]?=some oj→oi.dst=some d→oj.dst=some d→i=j
 looks:∀ (i:Nat) (oi:Oper),ops[i]?=some oi→∀ (j:Nat) (oj:Oper) (d:Nat),ops[j]?=some oj→oj.dst=some d→d ∈ oi.looksAt ops.toArray→j ∈ q3n oi∨(n1≤j∧i≤j∧(¬ (i < n1∧q1u fl i=true)∨reach ops ops.length i j=true))
 tail:∀ j,n1≤j→j < ops.length→∀ i,i < j→(i < n1∧q1u fl i=true)∨reach ops ops.length i j=true
theorem qqg {fl:List Nat} {ops:List Oper} {n1:Nat} (h:q5b fl ops n1=true):DrawFOK fl ops n1:=by
 unfold q5b at h
 simp only[Bool.and_eq_true,List.all_eq_true,List.mem_range]at h
 obtain ⟨⟨⟨h1,h2⟩,h3⟩,h4⟩:=h
 refine ⟨fun i o e x hx=>?_,fun i j oi oj d e1 e2 d1 d2=>?_,fun i oi e1 j oj d e2 d2 hl=>?_,fun j hj hlt i hi=>?_⟩
 ·have:=h1 i (q1c e) x (by simp only[q1b,e]; exact hx)
  simpa using this
 ·have:=h2 i (q1c e1) j (q1c e2)
  simp only[q3m,e1,e2,d1,d2]at this
  simpa using this
 ·have:=h3 i (q1c e1) j (q1c e2)
  simp only[q3m,e2,d2,qbe,e1,q1b]at this
  have hc:(oi.looksAt ops.toArray).contains d=true:=List.contains_iff_mem.2 hl
  rw[hc,Bool.not_true,Bool.false_or,Bool.or_eq_true,Bool.and_eq_true,Bool.and_eq_true]at this
  rcases this with k | ⟨⟨k1,k2⟩,k3⟩
  ·exact .inl (List.contains_iff_mem.1 k)
  ·refine .inr ⟨of_decide_eq_true k1,of_decide_eq_true k2,?_⟩
   rw[Bool.or_eq_true]at k3
   refine k3.imp (fun k3 ⟨z1,z2⟩=>?_) id
   rw[decide_eq_true z1,z2]at k3; cases k3
 ·have:=h4 j hlt
  rw[Bool.or_eq_true]at this
  rcases this with k | k
  ·have:=of_decide_eq_true k; omega
  ·simp only[List.all_eq_true,List.mem_range]at k
   have:=k i hi
   simpa using this
def SB (β:Sto) (ids:List Nat) (σ:Sto):Prop:=∀ id ∈ ids,σ[id]?=β[id]?
theorem SB.nil {β σ:Sto}:SB β [] σ:=fun _ h=>by cases h
def q6o (P:Program) (G:Nat→Option (List PV)) (fl:List Nat) (ops:List Oper) (n1:Nat) (T:List TV) (β:Sto) (ids:List Nat):Prop :=
 ∀ (k:Nat) (o:Oper),k < n1→ops[k]?=some o→q1u fl k=true→qz ops.toArray T o=some false∨∃ v,∀ σ':Sto,SB β ids σ'→aop P (evT G T) σ' o.op=some (.val v)
theorem FlOK.toS {fl:List Nat} {ops:List Oper} {n1:Nat} {T:List TV} (h:FlOK P G fl ops n1 T) (β:Sto) (ids:List Nat):q6o P G fl ops n1 T β ids:=fun k o hk ho hf =>
 (h k o hk ho hf).imp id fun ⟨v,q⟩=>⟨v,fun σ' _=>by
  have:=qh6 (σ:=[]) (τ:=σ') (eff:=.val v) rfl q
  simpa using this⟩
def asqS (E:World→Prop) (E0:Nat) (P:Program) (G:Nat→Option (List PV)) (β:Sto) (ids:List Nat) (c:Nat) (ops:Array Oper):Nat→List Oper→List TV→Sto→(List TV→Sto→Prop)→Prop
 | _,[],T,σ,K=>K T σ
 | i,o::r,T,σ,K =>
  match qz ops T o with
  | some true=>OpA E E0 P (evT G T) σ o.op (fun eff=>(i < c→SB β ids (effσ σ eff))∧asqS E E0 P G β ids c ops (i+1) r (putT T o.dst (effV σ eff)) (effσ σ eff) K)∨(q5x E E0 P (evT G T) σ o.op fun v=>K [.dead v] [])∨qch P (evT G T) σ o.op fun eff=>(i < c→SB β ids (effσ σ eff))∧asqS E E0 P G β ids c ops (i+1) r (putT T o.dst (effV σ eff)) (effσ σ eff) K
  | some false=>asqS E E0 P G β ids c ops (i+1) r (putT T o.dst qw) σ K
  | none=>False
theorem qcq {ρ:Operand→TV} {σ:Sto} {o:Op} {K K':Eff→Prop} (h:OpA E E0 P ρ σ o K) (hk:∀ e,K e→K' e):OpA E E0 P ρ σ o K':=by
 unfold OpA at h ⊢
 split at h
 ·split at h
  ·obtain ⟨e,h1,h2⟩:=h
   exact ⟨e,h1,hk _ h2⟩
  ·exact h.elim
 ·split at h
  ·exact hk _ h
  ·exact h.elim
theorem q8e {ops:Array Oper} {K1 K2:List TV→Sto→Prop}:∀ {l:List Oper} {T:List TV} {σ:Sto},asqD E E0 P G ops l T σ K1→(∀ T' σ',K1 T' σ'→K2 T' σ')→asqD E E0 P G ops l T σ K2
 | [],T,σ,h,k=>k _ _ h
 | o::r,T,σ,h,k=>by
  unfold asqD at h ⊢
  split at h
  ·refine qcq h fun eff h2=>?_
   cases eff with
   | upd _ _=>exact h2.elim
   | val v=>exact q8e h2 k
   | new ob f=>exact q8e h2 k
  ·exact q8e h k
  ·exact h.elim
theorem q8f {β:Sto} {ids:List Nat} {c:Nat} {ops:Array Oper} {K:List TV→Sto→Prop}:∀ (r:List Oper) (i:Nat) (T:List TV) (σ:Sto),(c≤i∨ids=[])→asq E E0 P G ops r T σ K→asqS E E0 P G β ids c ops i r T σ K
 | [],_,_,_,_,h=>h
 | o::r,i,T,σ,hc,h=>by
  have hc':c≤i+1∨ids=[]:=hc.imp (fun h=>by omega) id
  unfold asq at h
  unfold asqS
  split at h
  ·rename_i hw
   rw[hw]
   have hS:i < c→∀ σ',SB β ids σ':=fun hi σ'=>by
    rcases hc with hc | hc
    ·omega
    ·subst hc; exact SB.nil
   rcases h with h | h | ⟨ps,sz,len,h1,k⟩
   ·exact .inl (qcq h fun eff k=>⟨fun hi=>hS hi _,q8f r (i+1) _ _ hc' k⟩)
   ·exact .inr (.inl h)
   ·exact .inr (.inr ⟨ps,sz,len,h1,fun hi=>hS hi _,q8f r (i+1) _ _ hc' k⟩)
  ·rename_i hw
   rw[hw]
   exact q8f r (i+1) _ _ hc' h
  ·exact h.elim
theorem qj7 {fl:List Nat} {ops:List Oper} {n1 k:Nat} {T1:List TV} {ρ:Operand→TV} {σ:Sto} {o:Oper} {eff:Eff} {β:Sto} {ids:List Nat} (hF:q6o P G fl ops n1 T1 β ids) (hS:SB β ids σ) (hk:k < n1) (ho:ops[k]?=some o) (hf:q1u fl k=true) (hw:qz ops.toArray T1 o=some true)
  (hρ:∀ x ∈ o.op.operands.toList,evT G T1 x=ρ x) (h:OpE E E0 P ρ σ o.op eff):∃ v,eff=.val v∧∀ σ':Sto,SB β ids σ'→aop P (evT G T1) σ' o.op=some (.val v):=by
 rcases hF k o hk ho hf with q | ⟨v,q⟩
 ·rw[q]at hw; cases hw
 ·have up:=q
  rcases qa3 h with ⟨f,args,tys,_,_,_,hop,_⟩ | h
  ·have:=q σ hS; rw[hop]at this; simp[aop]at this
  ·have:=up σ hS
   rw[qcv hρ,h]at this
   exact ⟨v,by simpa using this,up⟩
def qof (P:Program) (G:Nat→Option (List PV)) (β:Sto) (ids:List Nat) (ops:Array Oper) (T:List TV) (o:Oper):Prop :=
 (qz ops T o=some false∧∀ t,o.dst=some t→t < T.length→T[t]?=some qw) ∨
 (qz ops T o=some true∧∃ v,(∀ σ':Sto,SB β ids σ'→aop P (evT G T) σ' o.op=some (.val v))∧∀ t,o.dst=some t→t < T.length→T[t]?=some v)
theorem qqh (hb:Base E E0 G) {fl:List Nat} {ops:List Oper} {n1:Nat} (hok:DrawFOK fl ops n1) {β:Sto} {ids:List Nat} {c:Nat} (hc:∀ j,c≤j→j < ops.length→∀ k,k < n1→q1u fl k=true→reach ops ops.length k j=true) {Q:Exit→Act→World→Prop} {K:List TV→Sto→Prop}:∀ (fuel:Nat) (r:List Oper) (i:Nat) (listed:Array Bool) (T:List TV) (X:Cx) (w:World) (a:Act),
  n1≤i→i≤ops.length→ops.drop i=r→listed.size=ops.length→(∀ k,k < ops.length→(listed.getD k false=true→k < i)∧(k < i→listed.getD k false=true∨(k < n1∧q1u fl k=true))) →
  (∀ k o,listed.getD k false=true→ops[k]?=some o→∀ e ∈ q3n o,listed.getD e false=true)→left ops.length listed≤fuel→(∀ id,¬ X.pend id)→Inv E E0 X w→T.length=a.tmps.size→a.defers=[] →
  (∀ t v u,T[t]?=some v→a.tmps[t]?=some u→(∀ (j:Nat) (oj:Oper),j < i→ops[j]?=some oj→oj.dst=some t→listed.getD j false=true)→TRep X w v u) →
  (∀ k o,k < i→ops[k]?=some o→listed.getD k false=false→qof P G β ids ops.toArray T o)→((∃ k,k < i∧k < ops.length∧listed.getD k false=false)→SB β ids X.σ)→asqS E E0 P G β ids c ops.toArray i r T X.σ K →
  FinQ E E0 K Q X w→wpAny P .any ops.toArray Q fuel listed a w:=by
 -- when all is done
 have fin:∀ (r:List Oper) (i:Nat) (listed:Array Bool) (T:List TV) (X:Cx) (w:World) (a:Act),i≤ops.length→ops.drop i=r→listed.size=ops.length→(∀ k,k < ops.length→listed.getD k false=true)→(∀ k,k < ops.length→listed.getD k false=true→k < i)→(∀ id,¬ X.pend id)→Inv E E0 X w→T.length=a.tmps.size→a.defers=[] →
   (∀ t v u,T[t]?=some v→a.tmps[t]?=some u→(∀ (j:Nat) (oj:Oper),j < i→ops[j]?=some oj→oj.dst=some t→listed.getD j false=true)→TRep X w v u)→asqS E E0 P G β ids c ops.toArray i r T X.σ K →
   FinQ E E0 K Q X w→Q .normal a w:=by
  intro r i listed T X w a hi hd hs hall hlt hn hinv hlen hdef htm h hq
  have hie:i=ops.length:=by
   rcases Nat.lt_or_ge i ops.length with k | k
   ·have:=hlt i k (hall i k); omega
   ·omega
  subst hie
  rw[List.drop_length]at hd
  subst hd
  exact hq.1 T X w a (Ext.refl _ _) hn hinv ⟨hlen,fun t v u h1 h2=>htm t v u h1 h2 fun j oj _ e _=>hall j (q1c e),hdef⟩ h
 intro fuel
 induction fuel with
 | zero =>
  intro r i listed T X w a hi1 hi2 hd hs hl hdown hf hn hinv hlen hdef htm hff hSB h hq
  have hall:∀ k,k < ops.length→listed.getD k false=true:=fun k hk=>by
   rw[← q3b hs hk true false]; exact qb7 (Nat.le_zero.1 hf) k hk
  refine ⟨?_,fin r i listed T X w a hi2 hd hs hall (fun k hk=>(hl k hk).1) hn hinv hlen hdef htm h hq⟩
  apply List.eq_nil_iff_forall_not_mem.2
  intro j hj
  obtain ⟨h1,o,h2,_⟩:=mem_ready.1 hj
  have hjl:j < ops.length:=q1c (by simpa using h2)
  rw[q3b hs hjl true false,hall j hjl]at h1; cases h1
 | succ fuel ih =>
  intro r i listed T X w a hi1 hi2 hd hs hl hdown hf hn hinv hlen hdef htm hff hSB h hq
  refine ⟨fun hr=>?_,fun j hready=>?_⟩
  ·have hall:∀ k,k < ops.length→listed.getD k false=true:=by
    intro k
    induction k using Nat.strongRecOn with
    | _ k ihk =>
     intro hk
     cases hc:listed.getD k false with
     | true=>rfl
     | false =>
      exfalso
      have hko:ops[k]?=some ops[k]:=List.getElem?_eq_getElem hk
      have:k ∈ Region.ready .any ops.toArray listed:=mem_ready.2 ⟨by rw[q3b hs hk true false]; exact hc,ops[k],by rw[List.getElem?_toArray]; exact hko,qag fun e he=>by
       have:=hok.lt k _ hko e he
       exact ihk e this (by omega)⟩
      rw[hr]at this; simp at this
   exact fin r i listed T X w a hi2 hd hs hall (fun k hk=>(hl k hk).1) hn hinv hlen hdef htm h hq
  ·obtain ⟨hun,o,ho,hed⟩:=mem_ready.1 hready
   have ho':ops[j]?=some o:=by simpa using ho
   have hjl:j < ops.length:=q1c ho'
   have hun':listed.getD j false=false:=by rw[← q3b hs hjl true false]; exact hun
   have hedges:=qaq hed
   have hfa:j < i→j < n1∧q1u fl j=true:=fun hji=>by
    rcases (hl j hjl).2 hji with k | k
    ·rw[k]at hun'; cases hun'
    ·exact k
   have hlk:∀ t,t ∈ o.looksAt ops.toArray→∀ (k:Nat) (ok:Oper),k < i→ops[k]?=some ok→ok.dst=some t→listed.getD k false=true:=fun t ht k ok hki e1 e2=>by
    rcases hok.looks j o ho' k ok t e1 e2 ht with q | ⟨q1,q2,q3⟩
    ·exact hedges k q
    ·rcases (hl k (q1c e1)).2 hki with z | z
     ·exact z
     ·omega
   have look:∀ t,t ∈ o.looksAt ops.toArray→∀ v u,T[t]?=some v→a.tmps[t]?=some u→TRep X w v u:=fun t ht v u h1 h2=>htm t v u h1 h2 fun k ok hki e1 e2=>hlk t ht k ok hki e1 e2
   have opl:∀ t,Operand.tmp t ∈ o.op.operands.toList→t ∈ o.looksAt ops.toArray:=fun t ht=>List.mem_append_left _ (List.mem_filterMap.2 ⟨.tmp t,ht,rfl⟩)
   have hrep:∀ x ∈ o.op.operands.toList,TRep X w (evT G T x) (a.eval x):=fun x hx=>qdu hb.glob hinv hlen x fun t ht v u h1 h2=>by subst ht; exact look t (opl t hx) v u h1 h2
   have glook:∀ j want d,o.guard=some (j,want)→(ops.toArray[j]?).bind (·.dst)=some d→d ∈ o.looksAt ops.toArray:=fun j want d hg hd=>by
    refine List.mem_append_right _ ?_
    rw[hg]
    simp only[hd,Option.toList_some,List.mem_singleton]
   have hwant:∀ b,qz ops.toArray T o=some b→Region.wanted o (yielded ops.toArray a.tmps)=b:=fun b hwb=>qgp (X:=X) (w:=w) hlen (fun j want d hg hd v u h1 h2=>look d (glook j want d hg hd) v u h1 h2) hwb
   have hdown':∀ k ok,(listed.setIfInBounds j true).getD k false=true→ops[k]?=some ok→∀ e ∈ q3n ok,(listed.setIfInBounds j true).getD e false=true:=fun k ok hk hko e he=>by
    refine getD_set_true ?_
    by_cases hkj:j=k
    ·subst hkj
     rw[ho']at hko
     obtain rfl:o=ok:=by simpa using hko
     exact hedges e he
    ·rw[getD_set_ne false hkj]at hk; exact hdown k ok hk hko e he
   have hsz:(listed.setIfInBounds j true).size=ops.length:=by simpa using hs
   have hleft:left ops.length (listed.setIfInBounds j true)≤fuel:=by have:=qb6 hs hun; omega
   have hself:(listed.setIfInBounds j true).getD j false=true:=by simp[Array.getD,hs,hjl]
   -- the frame behind the operation
   have htm':∀ {i':Nat} {T':List TV} {X':Cx} {w':World} {v:TV} {u:Value},Ext X w X' w'→(∀ k ok,k < i'→ops[k]?=some ok→k < i∨k=j)→i≤i'→j < i'→T'=putT T o.dst v∨(T'=T∧∀ t,o.dst=some t→t < T.length→T[t]?=some v)→TRep X' w' v u →
     ∀ t v' u',T'[t]?=some v'→(a.put o.dst u).tmps[t]?=some u'→(∀ (k:Nat) (ok:Oper),k < i'→ops[k]?=some ok→ok.dst=some t→(listed.setIfInBounds j true).getD k false=true)→TRep X' w' v' u':=by
    intro i' T' X' w' v u hx hlast hii hji hT hv t v' u' h1 h2 hw
    by_cases hdt:o.dst=some t
    ·have hlt:t < T.length:=by
      rcases hT with rfl | ⟨rfl,_⟩
      ·have:=q1c h1; rwa [q7t]at this
      ·exact q1c h1
     have hv':v'=v:=by
      rcases hT with rfl | ⟨rfl,hT⟩
      ·rw[hdt,qmg hlt]at h1; simpa using h1.symm
      ·rw[hT t hdt hlt]at h1; simpa using h1.symm
     rw[hdt]at h2
     simp only[Act.put,Array.getElem?_setIfInBounds]at h2
     have:t < a.tmps.size:=by rw[← hlen]; exact hlt
     simp[this]at h2
     subst h2 hv'; exact hv
    ·have h1':T[t]?=some v':=by
      rcases hT with rfl | ⟨rfl,_⟩
      ·rwa [q9h hdt]at h1
      ·exact h1
     have h2':a.tmps[t]?=some u':=by
      cases hd:o.dst with
      | none=>rw[hd]at h2; exact h2
      | some d =>
       rw[hd]at h2 hdt
       simp only[Act.put,Array.getElem?_setIfInBounds]at h2
       rw[if_neg (by intro k; subst k; exact hdt rfl)]at h2
       exact h2
     refine TRep.ext hx (htm t v' u' h1' h2' fun k ok hk e1 e2=>?_)
     have:=hw k ok (by omega) e1 e2
     by_cases hjk:j=k
     ·subst hjk
      rw[ho']at e1
      obtain rfl:o=ok:=by simpa using e1
      exact absurd e2 hdt
     ·rwa [getD_set_ne false hjk]at this
   unfold wpOp
   simp only[ho]
   by_cases hji:j < i
   ·-- one that floats
    have hfl:q1u fl j=true:=by
     rcases (hl j hjl).2 hji with k | ⟨_,k⟩
     ·rw[k]at hun'; cases hun'
     ·exact k
    have next:∀ (X':Cx) (w':World) (v:TV) (u:Value),X'.σ=X.σ→(∀ id,¬ X'.pend id)→Inv E E0 X' w'→Ext X w X' w'→TRep X' w' v u→(∀ t,o.dst=some t→t < T.length→T[t]?=some v)→wpAny P .any ops.toArray Q fuel (listed.setIfInBounds j true) (a.put o.dst u) w':=by
     intro X' w' v u e1 e2 e3 e4 e5 e6
     refine ih r i _ T X' w' _ hi1 hi2 hd hsz (fun k hk=>⟨fun q=>?_,fun q=>?_⟩) hdown' hleft e2 e3 ?_ ?_ (htm' e4 (fun k _ hk _=>.inl hk) (Nat.le_refl _) hji (.inr ⟨rfl,e6⟩) e5) (fun k ok hk hko hkl=>?_) (fun ⟨k,z1,z2,z3⟩=>?_) (by rw[e1]; exact h) (hq.ext e4)
     ·by_cases hjk:j=k
      ·omega
      ·rw[getD_set_ne false hjk]at q; exact (hl k hk).1 q
     ·rcases (hl k hk).2 q with z | z
      ·exact .inl (getD_set_true z)
      ·exact .inr z
     ·cases hdd:o.dst <;> simp[Act.put,hlen]
     ·cases hdd:o.dst <;> simp[Act.put,hdef]
     ·by_cases hjk:j=k
      ·subst hjk; rw[hself]at hkl; cases hkl
      ·rw[getD_set_ne false hjk]at hkl; exact hff k ok hk hko hkl
     ·rw[e1]; exact hSB ⟨j,hji,hjl,hun'⟩
    rcases hff j o hji ho' hun' with ⟨hw,hv⟩ | ⟨hw,v,hao,hv⟩
    ·rw[hwant false hw]
     simp only[Bool.false_eq_true,if_false]
     exact next X w qw undef rfl hn hinv (Ext.refl _ _) q6l hv
    ·rw[hwant true hw]
     simp only[if_true]
     left
     obtain ⟨u,w',g1,g2,g3⟩:=q6u (P:=P) (ev:=a.eval) hinv hb.step hrep (hao X.σ (hSB ⟨j,hji,hjl,hun'⟩))
     have hE':E w':=hb.step _ _ hinv.env (g2.mono (Nat.le_trans hinv.e0 hinv.b0))
     unfold Oper.wp
     rcases g1 with g1 | ⟨g1,rfl⟩
     ·rw[g1]; exact next { X with hs:=w'.heap.size } w' v u rfl hn (q3p hinv g2 hE') (q2p hinv g2) g3 hv
     ·rw[g1]; exact next { X with hs:=w'.heap.size } w' v undef rfl hn (q3p hinv g2 hE') (q2p hinv g2) g3 hv
   ·-- the next one of the tail
    have hje:j=i:=by
     rcases Nat.eq_or_lt_of_le (Nat.le_of_not_lt hji) with k | k
     ·exact k.symm
     ·exfalso
      rcases hok.tail j (by omega) hjl i k with ⟨q,_⟩ | hr
      ·omega
      ·have hcl:∀ k,(k < ops.length∧listed.getD k false=true)→∀ e ∈ q1b ops k,e < ops.length∧listed.getD e false=true:=by
        rintro k ⟨k1,k2⟩ e he
        have hok2:ops[k]?=some ops[k]:=List.getElem?_eq_getElem k1
        simp only[q1b,hok2]at he
        have:=hok.lt k _ hok2 e he
        exact ⟨by omega,hdown k _ k2 hok2 e he⟩
       have:=q6h (D:=fun k=>k < ops.length∧listed.getD k false=true) hcl _ i j hr (fun e he=>by
        simp only[q1b,ho']at he
        exact ⟨by have:=hok.lt j _ ho' e he; omega,hedges e he⟩)
       have:=(hl i this.1).1 this.2
       omega
    subst hje
    have hr:r=o::ops.drop (j+1):=by
     rw[← hd]
     exact (List.drop_eq_getElem_cons hjl).trans (by rw[List.getElem?_eq_getElem hjl]at ho'; simp at ho'; rw[ho'])
    subst hr
    have next:∀ (X':Cx) (w':World) (v:TV) (u:Value),(∀ id,¬ X'.pend id)→Inv E E0 X' w'→Ext X w X' w'→TRep X' w' v u→(j < c→(∃ k,k < j∧k < ops.length∧listed.getD k false=false)→SB β ids X'.σ)→asqS E E0 P G β ids c ops.toArray (j+1) (ops.drop (j+1)) (putT T o.dst v) X'.σ K→wpAny P .any ops.toArray Q fuel (listed.setIfInBounds j true) (a.put o.dst u) w':=by
     intro X' w' v u e2 e3 e4 e5 e7 e6
     refine ih (ops.drop (j+1)) (j+1) _ (putT T o.dst v) X' w' _ (by omega) hjl rfl hsz (fun k hk=>⟨fun q=>?_,fun q=>?_⟩) hdown' hleft e2 e3 ?_ ?_ (htm' e4 (fun k _ hk _=>by omega) (Nat.le_succ _) (Nat.lt_succ_self _) (.inl rfl) e5) (fun k ok hk hko hkl=>?_) (fun ⟨k,z1,z2,z3⟩=>?_) e6 (hq.ext e4)
     ·by_cases hjk:j=k
      ·omega
      ·rw[getD_set_ne false hjk]at q; have:=(hl k hk).1 q; omega
     ·by_cases hjk:j=k
      ·subst hjk; exact .inl hself
      ·rcases (hl k hk).2 (by omega) with z | z
       ·exact .inl (getD_set_true z)
       ·exact .inr z
     ·rw[q7t]; cases hdd:o.dst <;> simp[Act.put,hlen]
     ·cases hdd:o.dst <;> simp[Act.put,hdef]
     ·have hjk:j≠k:=by rintro rfl; rw[hself]at hkl; cases hkl
      rw[getD_set_ne false hjk]at hkl
      have hkf:k < n1∧q1u fl k=true:=by
       rcases (hl k (q1c hko)).2 (by omega) with z | z
       ·rw[z]at hkl; cases hkl
       ·exact z
      have hlook:∀ t,t ∈ ok.looksAt ops.toArray→(putT T o.dst v)[t]?=T[t]?:=fun t ht=>q9h fun hdt=>by
       rcases hok.looks k ok hko j o t ho' hdt ht with q | ⟨_,_,q3 | hr⟩
       ·have:=hok.lt k ok hko j q
        omega
       ·exact q3 hkf
       ·have hcl:∀ k,(k < ops.length∧listed.getD k false=true)→∀ e ∈ q1b ops k,e < ops.length∧listed.getD e false=true:=by
         rintro k ⟨k1,k2⟩ e he
         have hok2:ops[k]?=some ops[k]:=List.getElem?_eq_getElem k1
         simp only[q1b,hok2]at he
         have:=hok.lt k _ hok2 e he
         exact ⟨by omega,hdown k _ k2 hok2 e he⟩
        have:=q6h (D:=fun k=>k < ops.length∧listed.getD k false=true) hcl _ k j hr (fun e he=>by
         simp only[q1b,ho']at he
         exact ⟨by have:=hok.lt j _ ho' e he; omega,hedges e he⟩)
        rw[this.2]at hkl; cases hkl
      have hdst:∀ t,ok.dst=some t→(putT T o.dst v)[t]?=T[t]?:=fun t ht=>q9h fun hdt=>hjk (hok.one j k o ok t ho' hko hdt ht)
      have hwt:qz ops.toArray (putT T o.dst v) ok=qz ops.toArray T ok:=by
       unfold qz
       cases hg:ok.guard with
       | none=>rfl
       | some p =>
        obtain ⟨jj,want⟩:=p
        simp only
        cases hdd:(ops.toArray[jj]?).bind (·.dst) with
        | none=>rfl
        | some d =>
         have:d ∈ ok.looksAt ops.toArray:=by
          refine List.mem_append_right _ ?_
          rw[hg]
          simp only[hdd,Option.toList_some,List.mem_singleton]
         simp only[hlook d this]
      have hev:∀ x ∈ ok.op.operands.toList,evT G (putT T o.dst v) x=evT G T x:=fun x hx=>by
       cases x with
       | tmp t =>
        have:=hlook t (List.mem_append_left _ (List.mem_filterMap.2 ⟨.tmp t,hx,rfl⟩))
        show (putT T o.dst v).getD t qw=T.getD t qw
        simp[List.getD,this]
       | _=>rfl
      rcases hff k ok (by omega) hko hkl with ⟨q1,q2⟩ | ⟨q1,v2,q2,q3⟩
      ·exact .inl ⟨hwt.trans q1,fun t ht hlt=>by rw[hdst t ht]; exact q2 t ht (by rwa [q7t]at hlt)⟩
      ·refine .inr ⟨hwt.trans q1,v2,fun σ' hs'=>?_,fun t ht hlt=>by rw[hdst t ht]; exact q3 t ht (by rwa [q7t]at hlt)⟩
       rw[qcv hev]; exact q2 σ' hs'
     ·have hjk:j≠k:=by rintro rfl; rw[hself]at z3; cases z3
      rw[getD_set_ne false hjk]at z3
      have hkj:k < j:=by omega
      rcases Nat.lt_or_ge j c with z4 | z4
      ·exact e7 z4 ⟨k,hkj,z2,z3⟩
      ·exfalso
       have hkf:k < n1∧q1u fl k=true:=by
        rcases (hl k z2).2 hkj with z | z
        ·rw[z]at z3; cases z3
        ·exact z
       have hcl:∀ k,(k < ops.length∧listed.getD k false=true)→∀ e ∈ q1b ops k,e < ops.length∧listed.getD e false=true:=by
        rintro k ⟨k1,k2⟩ e he
        have hok2:ops[k]?=some ops[k]:=List.getElem?_eq_getElem k1
        simp only[q1b,hok2]at he
        have:=hok.lt k _ hok2 e he
        exact ⟨by omega,hdown k _ k2 hok2 e he⟩
       have:=q6h (D:=fun k=>k < ops.length∧listed.getD k false=true) hcl _ k j (hc j z4 hjl k hkf.1 hkf.2) (fun e he=>by
        simp only[q1b,ho']at he
        exact ⟨by have:=hok.lt j _ ho' e he; omega,hedges e he⟩)
       rw[this.2]at z3; cases z3
    unfold asqS at h
    split at h
    ·rename_i hw
     rw[hwant true hw]
     simp only[if_true]
     left
     rcases h with h | h | h
     rotate_left 2
     ·obtain ⟨eff,hg,h2⟩:=qdb (ev:=a.eval) hinv hrep h
      obtain ⟨u,w',X',g1,g2,g3,g4,g5,g6⟩:=q76 hinv hb.step hn hg
      unfold Oper.wp
      rcases g1 with g1 | ⟨g1,rfl⟩
      ·rw[g1]; exact next X' w' _ u g3 g4 g5 g6 (fun z _=>by rw[g2]; exact h2.1 z) (by rw[g2]; exact h2.2)
      ·rw[g1]; exact next X' w' _ undef g3 g4 g5 g6 (fun z _=>by rw[g2]; exact h2.1 z) (by rw[g2]; exact h2.2)
     rotate_left
     ·unfold q5x at h
      split at h
      ·rename_i f args tys hop
       split at h
       ·rename_i g caps l hc ha
        obtain ⟨v,hen,hce,hk⟩:=h
        have hfm:∀ y,y=f∨y ∈ args.toList→TRep X w (evT G T y) (a.eval y):=fun y hy=>hrep y (by
         rw[hop]
         simp only[Op.operands,Call.operands]
         rcases hy with rfl | hy
         ·simp
         ·simp; exact .inr (by simpa using hy))
        obtain ⟨us,hu,hcr⟩:=q5a hc (hfm f (.inl rfl))
        have har:=args_rep' (fun y hy=>hfm y (.inr hy)) ha
        have hrun:=q5s (P:=P) (o:=o) hop hu hen w
        unfold Oper.wp
        rw[hrun]
        show Calls P g _ w _
        have harr:args.map a.eval++us=(args.toList.map a.eval++us.toList).toArray:=by
         apply Array.ext'; simp
        rw[harr]
        refine (hce X w _ rfl hn hinv (har.append hcr)).mono ?_
        rintro e w' ⟨rfl,X',h2,h3,h4⟩
        exact hq.2 v X' w' a h4 h2 h3 hdef hk
       ·exact h.elim
      ·exact h.elim
     obtain ⟨eff,h1,h2⟩:=qcp h
     rcases qa3 h1 with ⟨f,args,tys,g,caps,l,hopc,hc,ha,hce⟩ | h1
     ·have hfm:∀ y,y=f∨y ∈ args.toList→TRep X w (evT G T y) (a.eval y):=fun y hy=>hrep y (by
       rw[hopc]
       simp only[Op.operands,Call.operands]
       rcases hy with rfl | hy
       ·simp
       ·simp; exact .inr (by simpa using hy))
      obtain ⟨us,hu,hcr⟩:=q5a hc (hfm f (.inl rfl))
      have har:=args_rep' (fun y hy=>hfm y (.inr hy)) ha
      obtain ⟨hen,hcalls⟩:=qdg hinv hn hce (har.append hcr)
      have hrun:=q5s (P:=P) (o:=o) hopc hu hen w
      unfold Oper.wp
      rw[hrun]
      show Calls P g _ w _
      have harr:args.map a.eval++us=(args.toList.map a.eval++us.toList).toArray:=by
       apply Array.ext'; simp
      rw[harr]
      refine hcalls.mono ?_
      rintro e w' ⟨v,X',rfl,h1,k2,h3,h4,h5⟩
      exact next X' w' _ v k2 h3 h4 h5 (fun z _=>by rw[h1]; exact h2.1 z) (by rw[h1]; exact h2.2)
     ·obtain ⟨u,w',X',g1,g2,g3,g4,g5,g6⟩:=q76 hinv hb.step hn (q6u (P:=P) (ev:=a.eval) hinv hb.step hrep h1)
      unfold Oper.wp
      rcases g1 with g1 | ⟨g1,rfl⟩
      ·rw[g1]; exact next X' w' _ u g3 g4 g5 g6 (fun z _=>by rw[g2]; exact h2.1 z) (by rw[g2]; exact h2.2)
      ·rw[g1]; exact next X' w' _ undef g3 g4 g5 g6 (fun z _=>by rw[g2]; exact h2.1 z) (by rw[g2]; exact h2.2)
    ·rename_i hw
     rw[hwant false hw]
     simp only[Bool.false_eq_true,if_false]
     exact next X w qw undef hn hinv (Ext.refl _ _) q6l (fun _=>hSB) h
    ·exact h.elim
theorem qqj (hb:Base E E0 G) {fl:List Nat} {ops:List Oper} {n1:Nat} (hn1:n1≤ops.length) (hok:DrawFOK fl ops n1) {T T1:List TV} {σ σ1:Sto} {tr:Tr} {ids:List Nat} {c:Nat} (hc:∀ j,c≤j→j < ops.length→∀ k,k < n1→q1u fl k=true→reach ops ops.length k j=true) (hids:∀ id ∈ ids,id < σ.length) (hF:q6o P G fl ops n1 T1 σ1 ids) (htr:IsTr E E0 P G ops.toArray (ops.take n1) T σ tr T1 σ1) {Q:Exit→Act→World→Prop} {K:List TV→Sto→Prop}
  (htail:asqS E E0 P G σ1 ids c ops.toArray n1 (ops.drop n1) T1 σ1 K) {X0:Cx} {w0:World} (hq:FinQ E E0 K Q X0 w0) :
  ∀ (fuel:Nat) (listed:Array Bool) (X:Cx) (w:World) (a:Act),Half E E0 ops n1 tr T1 σ1 X0 w0 listed X w a→left ops.length listed≤fuel→wpAny P .any ops.toArray Q fuel listed a w:=by
 -- all of the first operations are done,but for some that float: the tail
 have hSi:∀ {k:Nat} {o:Oper} {Ti:List TV} {σi:Sto} {e:Option Eff},TrAt E E0 P G ops.toArray (ops.take n1) T σ T1 σ1 k o Ti σi e→SB σ1 ids σi:=fun hat id hid=>by
  obtain ⟨τ,hτ⟩:=hat.up
  rw[hτ,List.getElem?_append_left (Nat.lt_of_lt_of_le (hids id hid) hat.low)]
 have full:∀ (fuel:Nat) (listed:Array Bool) (X:Cx) (w:World) (a:Act),Half E E0 ops n1 tr T1 σ1 X0 w0 listed X w a→left ops.length listed≤fuel→(∀ i,i < n1→listed.getD i false=true∨q1u fl i=true)→wpAny P .any ops.toArray Q fuel listed a w:=by
  intro fuel listed X w a h hf hall
  have hother:∀ (j:Nat) (oj:Oper),(ops.take n1)[j]?=some oj→ops[j]?=some oj:=fun j oj e1=>by
   rw[List.getElem?_take]at e1
   split at e1
   ·exact e1
   ·cases e1
  have agree:∀ (k:Nat) (o:Oper) (Ti:List TV) (σi:Sto) (e:Option Eff),ops[k]?=some o→TrAt E E0 P G ops.toArray (ops.take n1) T σ T1 σ1 k o Ti σi e→(∀ x ∈ o.op.operands.toList,evT G T1 x=evT G Ti x)∧qz ops.toArray T1 o=qz ops.toArray Ti o:=by
   intro k o Ti σi e hko hat
   have same:∀ t,t ∈ o.looksAt ops.toArray→T1[t]?=Ti[t]?:=fun t ht=>hat.later t fun j oj hij e1 e2=>by
    have hjn:j < n1:=by have:=q1c e1; simp at this; omega
    rcases hok.looks k o hko j oj t (hother j oj e1) e2 ht with q | ⟨q,_⟩
    ·have:=hok.lt k o hko j q
     omega
    ·omega
   refine ⟨fun x hx=>?_,?_⟩
   ·cases x with
    | tmp t =>
     have:=same t (List.mem_append_left _ (List.mem_filterMap.2 ⟨.tmp t,hx,rfl⟩))
     show T1.getD t qw=Ti.getD t qw
     simp[List.getD,this]
    | _=>rfl
   ·unfold qz
    cases hg:o.guard with
    | none=>rfl
    | some p =>
     obtain ⟨j,want⟩:=p
     simp only
     cases hd:(ops.toArray[j]?).bind (·.dst) with
     | none=>rfl
     | some d =>
      have:d ∈ o.looksAt ops.toArray:=by
       refine List.mem_append_right _ ?_
       rw[hg]
       simp only[hd,Option.toList_some,List.mem_singleton]
      simp only[same d this]
  have hnew:∀ i id,Nid tr i id→i < n1→q1u fl i=true→False:=by
   rintro i id ⟨Ti,σi,ob,f,e1,_⟩ hi hfl
   have hil:i < ops.length:=by omega
   have ho':ops[i]?=some ops[i]:=List.getElem?_eq_getElem hil
   have hti:(ops.take n1)[i]?=some ops[i]:=by rw[List.getElem?_take,if_pos hi]; exact ho'
   obtain ⟨Ti',σi',e,htri,hat⟩:=q9r htr i _ hti
   rw[e1]at htri
   simp at htri
   obtain ⟨rfl,rfl,rfl⟩:=htri
   obtain ⟨hρ,hwt⟩:=agree i _ _ _ _ ho' hat
   obtain ⟨_,hw2,hop⟩:=hat.did
   obtain ⟨v,hv,_⟩:=qj7 hF (hSi hat) hi ho' hfl (hwt.trans hw2) hρ hop
   cases hv
  have hn:∀ id,¬ X.pend id:=by
   intro id hp
   obtain ⟨i,hi,hl,hnid⟩:=(h.pend id).1 hp
   rcases hall i hi with k | k
   ·rw[k]at hl; cases hl
   ·exact hnew i id hnid hi k
  have hbl:=(q6k htr).1
  refine qqh hb hok hc fuel (ops.drop n1) n1 listed T1 X w a (Nat.le_refl _) hn1 rfl h.size (fun k _=>⟨h.pre k,fun hk=>(hall k hk).imp id fun q=>⟨hk,q⟩⟩) h.down hf hn h.inv h.len h.defers h.tmps (fun k o hk hko hkl=>?_) (fun _=>by rw[h.sig]; exact fun _ _=>rfl) (by rw[h.sig]; exact htail) (hq.ext h.ext)
  have hfl:q1u fl k=true:=by
   rcases hall k hk with q | q
   ·rw[q]at hkl; cases hkl
   ·exact q
  have hti:(ops.take n1)[k]?=some o:=by rw[List.getElem?_take,if_pos hk]; exact hko
  obtain ⟨Ti,σi,e,htri,hat⟩:=q9r htr k o hti
  obtain ⟨hρ,hwt⟩:=agree k o _ _ _ hko hat
  have hval:∀ t,o.dst=some t→t < T1.length→T1[t]?=some (q55 σi e):=fun t ht hlt=>hat.val t ht (fun j oj hij e1 e2=>by
   have:=hok.one k j o oj t hko (hother j oj e1) ht e2
   omega) (by rw[← hbl]; exact hlt)
  have hdid:=hat.did
  cases e with
  | none=>exact .inl ⟨hwt.trans hdid,hval⟩
  | some eff =>
   obtain ⟨_,hw2,hop⟩:=hdid
   obtain ⟨v,rfl,hv⟩:=qj7 hF (hSi hat) hk hko hfl (hwt.trans hw2) hρ hop
   exact .inr ⟨hwt.trans hw2,v,hv,hval⟩
 intro fuel
 induction fuel with
 | zero =>
  intro listed X w a h hf
  refine full 0 listed X w a h hf fun i hi=>.inl ?_
  rw[← q3b h.size (by omega) true false]
  exact qb7 (Nat.le_zero.1 hf) i (by omega)
 | succ fuel ih =>
  intro listed X w a h hf
  by_cases hall:∀ i,i < n1→listed.getD i false=true∨q1u fl i=true
  ·exact full _ listed X w a h hf hall
  ·refine ⟨fun hr=>?_,fun i hready=>?_⟩
   ·-- the least one that is not done is ready
    exfalso
    have key:∀ k i,i≤k→i < n1→listed.getD i false=false→False:=by
     intro k
     induction k using Nat.strongRecOn with
     | _ k ihk =>
      intro i hik hi hl
      have hio:ops[i]?=some ops[i]:=List.getElem?_eq_getElem (by omega)
      by_cases hm:∃ e ∈ q3n ops[i],listed.getD e false=false
      ·obtain ⟨e,he,hel⟩:=hm
       have:=hok.lt i _ hio e he
       exact ihk e (by omega) e (Nat.le_refl _) (by omega) hel
      ·have:i ∈ Region.ready .any ops.toArray listed:=mem_ready.2 ⟨by rw[q3b h.size (by omega) true false]; exact hl,ops[i],by rw[List.getElem?_toArray]; exact hio,qag fun e he=>by
        cases hc:listed.getD e false with
        | true=>rfl
        | false=>exact absurd ⟨e,he,hc⟩ hm⟩
       rw[hr]at this; simp at this
    apply hall
    intro i hi
    cases hc:listed.getD i false with
    | true=>exact .inl rfl
    | false=>exact (key i i (Nat.le_refl _) hi hc).elim
   ·obtain ⟨hun,o,ho,hed⟩:=mem_ready.1 hready
    have ho':ops[i]?=some o:=by simpa using ho
    have hil:i < ops.length:=q1c ho'
    have hun':listed.getD i false=false:=by rw[← q3b h.size hil true false]; exact hun
    have hedges:=qaq hed
    by_cases hi:i < n1
    ·-- one of the first operations
     have hti:(ops.take n1)[i]?=some o:=by rw[List.getElem?_take,if_pos hi]; exact ho'
     obtain ⟨Ti,σi,e,htri,hat⟩:=q9r htr i o hti
     obtain ⟨hbl,⟨_,_⟩,_⟩:=q6k htr
     have hdst:∀ (j:Nat) (oj:Oper) (d:Nat),j < n1→ops[j]?=some oj→oj.dst=some d→d ∈ o.looksAt ops.toArray→listed.getD j false=true∧j < i:=fun j oj d hj e1 e2 e3=>by
      rcases hok.looks i o ho' j oj d e1 e2 e3 with q | ⟨q,_⟩
      ·exact ⟨hedges j q,hok.lt i o ho' j q⟩
      ·omega
     have look:∀ t,t ∈ o.looksAt ops.toArray→∀ v u,T1[t]?=some v→a.tmps[t]?=some u→TRep X w v u:=fun t ht v u h1 h2=>h.tmps t v u h1 h2 fun j oj hj e1 e2=>(hdst j oj t hj e1 e2 ht).1
     have same:∀ t,t ∈ o.looksAt ops.toArray→T1[t]?=Ti[t]?:=fun t ht=>hat.later t fun j oj hij e1 e2=>by
      have hj:j < n1:=by have:=q1c e1; simp at this; omega
      have e1':ops[j]?=some oj:=by rw[List.getElem?_take,if_pos hj]at e1; exact e1
      have:=(hdst j oj t hj e1' e2 ht).2
      omega
     have opl:∀ t,Operand.tmp t ∈ o.op.operands.toList→t ∈ o.looksAt ops.toArray:=fun t ht=>List.mem_append_left _ (List.mem_filterMap.2 ⟨.tmp t,ht,rfl⟩)
     have hρ:∀ x ∈ o.op.operands.toList,evT G Ti x=evT G T1 x:=fun x hx=>by
      cases x with
      | tmp t =>
       have:=same t (opl t hx)
       show Ti.getD t qw=T1.getD t qw
       simp[List.getD,this]
      | _=>rfl
     have hrep:∀ x ∈ o.op.operands.toList,TRep X w (evT G T1 x) (a.eval x):=fun x hx=>qdu hb.glob h.inv h.len x fun t ht v u h1 h2=>by subst ht; exact look t (opl t hx) v u h1 h2
     have glook:∀ j want d,o.guard=some (j,want)→(ops.toArray[j]?).bind (·.dst)=some d→d ∈ o.looksAt ops.toArray:=fun j want d hg hd=>by
      refine List.mem_append_right _ ?_
      rw[hg]
      simp only[hd,Option.toList_some,List.mem_singleton]
     have hwant:∀ b,qz ops.toArray Ti o=some b→Region.wanted o (yielded ops.toArray a.tmps)=b:=fun b hwb=>by
      refine qgp (X:=X) (w:=w) h.len (fun j want d hg hd v u h1 h2=>look d (glook j want d hg hd) v u h1 h2) (T:=T1) ?_
      rw[← hwb]
      unfold qz
      cases hg:o.guard with
      | none=>rfl
      | some p =>
       obtain ⟨j,want⟩:=p
       simp only
       cases hd:(ops.toArray[j]?).bind (·.dst) with
       | none=>rfl
       | some d=>simp only[same d (glook j want d hg hd)]
     -- what follows,given the value
     have cont:∀ (X':Cx) (w':World) (u:Value),X'.σ=σ1→(∀ id,X'.pend id ↔ ∃ k,k < n1∧(listed.setIfInBounds i true).getD k false=false∧Nid tr k id)→Inv E E0 X' w'→Ext X w X' w'→TRep X' w' (q55 σi e) u→wpAny P .any ops.toArray Q fuel (listed.setIfInBounds i true) (a.put o.dst u) w':=by
      intro X' w' u e1 e2 e3 e4 e5
      refine ih _ X' w' _ ⟨by simpa using h.size,fun k hk=>?_,fun k ok hk hko x hx=>?_,e1,e2,e3,h.ext.trans e4,?_,?_,fun t v u' h1 h2 hw=>?_⟩ (by have:=qb6 h.size hun; omega)
      ·by_cases hki:i=k
       ·omega
       ·rw[getD_set_ne false hki]at hk; exact h.pre k hk
      ·have hx2:listed.getD x false=true:=by
        by_cases hki:i=k
        ·subst hki
         rw[ho']at hko
         obtain rfl:o=ok:=by simpa using hko
         exact hedges x hx
        ·rw[getD_set_ne false hki]at hk; exact h.down k ok hk hko x hx
       exact getD_set_true hx2
      ·cases hd:o.dst <;> simp[Act.put,h.len]
      ·cases hd:o.dst <;> simp[Act.put,h.defers]
      ·by_cases hdt:o.dst=some t
       ·have hv:T1[t]?=some (q55 σi e):=hat.val t hdt (fun j oj hij e1 e2=>by
         have e1':ops[j]?=some oj:=by
          rw[List.getElem?_take]at e1
          split at e1
          ·exact e1
          ·cases e1
         have:=hok.one i j o oj t ho' e1' hdt e2
         omega) (by rw[← hbl]; exact q1c h1)
        rw[h1]at hv
        obtain rfl:v=q55 σi e:=by simpa using hv
        rw[hdt]at h2
        simp only[Act.put,Array.getElem?_setIfInBounds]at h2
        have hlt:t < a.tmps.size:=by rw[← h.len]; exact q1c h1
        simp[hlt]at h2
        subst h2; exact e5
       ·have h2':a.tmps[t]?=some u':=by
         cases hd:o.dst with
         | none=>rw[hd]at h2; exact h2
         | some d =>
          rw[hd]at h2 hdt
          simp only[Act.put,Array.getElem?_setIfInBounds]at h2
          rw[if_neg (by intro k; subst k; exact hdt rfl)]at h2
          exact h2
        refine TRep.ext e4 (h.tmps t v u' h1 h2' fun j oj hj e1 e2=>?_)
        have:=hw j oj hj e1 e2
        by_cases hij:i=j
        ·subst hij
         rw[ho']at e1
         obtain rfl:o=oj:=by simpa using e1
         exact absurd e2 hdt
        ·rw[getD_set_ne false hij]at this; exact this
     have notnew:(∀ ob f,e≠some (.new ob f))→∀ id,X.pend id ↔ ∃ k,k < n1∧(listed.setIfInBounds i true).getD k false=false∧Nid tr k id:=by
      intro hnn id
      rw[h.pend]
      constructor
      ·rintro ⟨k,k1,k2,k3⟩
       refine ⟨k,k1,?_,k3⟩
       by_cases hik:i=k
       ·subst hik
        obtain ⟨Tk,σk,ob,f,k4,_⟩:=k3
        rw[htri]at k4
        simp at k4
        exact absurd k4.2.2 (hnn ob f)
       ·rw[getD_set_ne false hik]; exact k2
      ·rintro ⟨k,k1,k2,k3⟩
       refine ⟨k,k1,?_,k3⟩
       by_cases hik:i=k
       ·subst hik; exact hun'
       ·rw[getD_set_ne false hik]at k2; exact k2
     unfold wpOp
     simp only[ho]
     have hdid:=hat.did
     cases he:e with
     | none =>
      rw[he]at hdid
      have hw:=hwant false hdid
      rw[hw]
      simp only[Bool.false_eq_true,if_false]
      refine cont X w undef h.sig (notnew (by rw[he]; simp)) h.inv (Ext.refl _ _) ?_
      rw[he]; exact q6l
     | some eff =>
      rw[he]at hdid
      obtain ⟨hnu,hwt,hop⟩:=hdid
      rw[hwant true hwt]
      simp only[if_true]
      left
      obtain ⟨τ,hτ⟩:=hat.up
      rcases qgv (τ:=τ) hρ hnu hop with ⟨f,args,tys,g,caps,l,args',r,hopc,hc,ha,rfl,hfz,hen,hpure,hfl⟩ | hao
      ·rw[← hτ,← h.sig]at hfz
       have hfm:∀ y,y=f∨y ∈ args.toList→TRep X w (evT G T1 y) (a.eval y):=fun y hy=>hrep y (by
        rw[hopc]
        simp only[Op.operands,Call.operands]
        rcases hy with rfl | hy
        ·simp
        ·simp; exact .inr (by simpa using hy))
       obtain ⟨us,hu,hcr⟩:=q5a hc (hfm f (.inl rfl))
       have har:=args_rep' (fun y hy=>hfm y (.inr hy)) ha
       have hcalls:=qhx h.inv hfz hpure hfl (har.append hcr)
       have hrun:=q5s (P:=P) (o:=o) hopc hu hen w
       unfold Oper.wp
       rw[hrun]
       show Calls P g _ w _
       have harr:args.map a.eval++us=(args.toList.map a.eval++us.toList).toArray:=by
        apply Array.ext'; simp
       rw[harr]
       refine hcalls.mono ?_
       rintro e2 w' ⟨v,rfl,hbw,hE',hr⟩
       refine cont { X with hs:=w'.heap.size } w' v h.sig (notnew (by rw[he]; simp)) (q3p h.inv hbw hE') (q2p h.inv hbw) ?_
       rw[he]; exact hr
      ·rw[← hτ,← h.sig]at hao
       have hgot:=q6u (P:=P) (ev:=a.eval) h.inv hb.step hrep hao
       unfold Oper.wp
       cases eff with
       | upd _ _=>simp[Eff.isUpd]at hnu
       | val v =>
        obtain ⟨u,w',g1,g2,g3⟩:=hgot
        have hE':E w':=hb.step _ _ h.inv.env (g2.mono (Nat.le_trans h.inv.e0 h.inv.b0))
        have fin:∀ u',TRep { X with hs:=w'.heap.size } w' v u'→wpAny P .any ops.toArray Q fuel (listed.setIfInBounds i true) (a.put o.dst u') w':=fun u' hu'=>cont { X with hs:=w'.heap.size } w' u' h.sig (notnew (by rw[he]; simp)) (q3p h.inv g2 hE') (q2p h.inv g2) (by rw[he]; exact hu')
        rcases g1 with g1 | ⟨g1,rfl⟩
        ·rw[g1]; exact fin u g3
        ·rw[g1]; exact fin undef g3
       | new ob f =>
        obtain ⟨w1,cs,Ty,u,s1,g1,g2,hbr,g3⟩:=hgot
        obtain ⟨si,se⟩:=q6j h.inv hb.step s1
        have hsz:w1.heap.size=w.heap.size:=by rw[s1.heap]
        have hid:X.σ[σi.length]?=some (some ob):=by rw[h.sig]; exact hat.ob ob f he
        have hnid:Nid tr i σi.length:=⟨Ti,σi,ob,f,by rw[htri,he],rfl⟩
        have hpe:X.pend σi.length:=(h.pend _).2 ⟨i,hi,hun',hnid⟩
        have hr:q2l X w1 ob cs:=fun k c ec=>(g2 k c ec).imp fun u hu=>⟨hu.1,CRep.ext se hu.2⟩
        have bi:=qdd si hb.step hpe hid hbr cs Ty hr
        have be:=qai si hpe cs Ty
        have ht:=g3 X σi.length hid
        rw[hsz]at bi be
        have hpend:∀ id,(X.born σi.length (w.heap.size,cs.size)).pend id ↔ ∃ k,k < n1∧(listed.setIfInBounds i true).getD k false=false∧Nid tr k id:=by
         intro id
         show (X.pend id∧id≠σi.length) ↔ _
         rw[h.pend]
         constructor
         ·rintro ⟨⟨k,k1,k2,k3⟩,k4⟩
          refine ⟨k,k1,?_,k3⟩
          by_cases hik:i=k
          ·subst hik
           obtain ⟨Tk,σk,ob',f',k5,k6⟩:=k3
           rw[htri]at k5
           simp at k5
           exact absurd (k6.trans (by rw[k5.2.1])) k4
          ·rw[getD_set_ne false hik]; exact k2
         ·rintro ⟨k,k1,k2,k3⟩
          have hik:i≠k:=by
           rintro rfl
           have hlt:i < listed.size:=by rw[h.size]; exact hil
           simp[Array.getD,hlt]at k2
          rw[getD_set_ne false hik]at k2
          refine ⟨⟨k,k1,k2,k3⟩,fun k4=>?_⟩
          subst k4
          exact hik (qgf htr i k _ hnid k3)
        have fin:∀ u',TRep (X.born σi.length (w.heap.size,cs.size)) (w1.alloc (.cells cs Ty (0,0))) (f σi.length) u'→wpAny P .any ops.toArray Q fuel (listed.setIfInBounds i true) (a.put o.dst u') (w1.alloc (.cells cs Ty (0,0))):=fun u' hu' =>
         cont (X.born σi.length (w.heap.size,cs.size)) _ u' h.sig hpend bi (se.trans be) (by rw[he]; exact hu')
        rcases g1 with g1 | ⟨g1,rfl⟩
        ·rw[g1]; exact fin u ht
        ·rw[g1]; exact fin undef ht
    ·-- an operation of the tail: then all before it are done
     exfalso
     apply hall
     intro k hk
     rcases hok.tail i (by omega) hil k (by omega) with ⟨_,hfl⟩ | hr
     ·exact .inr hfl
     left
     have hcl:∀ k,(k < ops.length∧listed.getD k false=true)→∀ e ∈ q1b ops k,e < ops.length∧listed.getD e false=true:=by
      rintro k ⟨k1,k2⟩ e he
      have hok2:ops[k]?=some ops[k]:=List.getElem?_eq_getElem k1
      simp only[q1b,hok2]at he
      have:=hok.lt k _ hok2 e he
      exact ⟨by omega,h.down k _ k2 hok2 e he⟩
     exact (q6h (D:=fun k=>k < ops.length∧listed.getD k false=true) hcl _ k i hr (fun e he=>by
      simp only[q1b,ho']at he
      exact ⟨by have:=hok.lt i _ ho' e he; omega,hedges e he⟩)).2
variable {m : Nat} {T : List TV} {σ : Sto} {K : Ex → List TV → Sto → Prop} {r : List Code}
theorem qh5 (hb:Base E E0 G) {ops:List Oper} (fl:List Nat) (n1:Nat) (ids:List Nat) (c:Nat) (hn1:n1≤ops.length) (hok:q5b fl ops n1=true) (hc:∀ j,c≤j→j < ops.length→∀ k,k < n1→q1u fl k=true→reach ops ops.length k j=true) (hids:∀ id ∈ ids,id < σ.length) (h:asqD E E0 P G ops.toArray (ops.take n1) T σ fun T1 σ1=>q6o P G fl ops n1 T1 σ1 ids∧asqS E E0 P G σ1 ids c ops.toArray n1 (ops.drop n1) T1 σ1 (KD K)) :
  ∀ (X:Cx) (w:World) (a:Act),X.σ=σ→m≤σ.length→(∀ id,¬ X.pend id)→Inv E E0 X w→Frm X w T a→wpAny P .any ops.toArray (Post E E0 m X w K) ops.length (Array.replicate ops.length false) a { w with drawn:=w.drawn+1 }:=by
 intro X w a h1 h2 h3 h4 h5
 subst h1
 obtain ⟨tr,T1,σ1,htr,hF,htail⟩:=qaa h
 obtain ⟨hbl,⟨τ,hτ⟩,hbt⟩:=q6k htr
 have hdr:Still w { w with drawn:=w.drawn+1 }:=⟨rfl,rfl,rfl,rfl⟩
 obtain ⟨si,se⟩:=q6j h4 hb.step hdr
 have hcov:=qge htr
 obtain ⟨pi,pe⟩:=qm7 si h3 hτ (Pd:=fun id=>∃ i,i < n1∧(Array.replicate ops.length false).getD i false=false∧Nid tr i id)
  (fun id k1 k2=>by
   obtain ⟨i,q1,q2⟩:=hcov id k1 k2
   have q1':i < n1:=by simp at q1; omega
   exact ⟨i,q1',by simp[Array.getD],q2⟩)
  (fun id k1=>by
   rintro ⟨i,_,_,q⟩
   have:=qca htr i id q
   omega)
 have:=qqj hb hn1 (qqg hok) (ids:=ids) (c:=c) hc hids hF htr (Q:=Post E E0 m X w K) (X0:=X) (w0:=w) (K:=KD K) htail (qci h2 h3) ops.length (Array.replicate ops.length false) { X with σ:=σ1,pend:=fun id=>∃ i,i < n1∧(Array.replicate ops.length false).getD i false=false∧Nid tr i id } { w with drawn:=w.drawn+1 } a
  ⟨by simp,fun i hi=>by simp[Array.getD]at hi,fun i o hi=>by simp[Array.getD]at hi,rfl,fun id=>Iff.rfl,pi,se.trans pe,by rw[hbl]; exact h5.len,h5.defers,fun t v u e1 e2 hw=>?_⟩ (by unfold left; refine Nat.le_trans List.countP_le_length ?_; simp)
 ·simpa using this
 ·have:T1[t]?=T[t]?:=hbt t fun j oj e3 e4=>by
   have hj:j < n1:=by have:=q1c e3; simp at this; omega
   have e3':ops[j]?=some oj:=by
    rw[List.getElem?_take,if_pos hj]at e3; exact e3
   have:=hw j oj hj e3' e4
   simp[Array.getD]at this
  rw[this]at e1
  exact TRep.ext (se.trans pe) (h5.rep t v u e1 e2)
theorem qp0 (hb:Base E E0 G) {ops:List Oper} (fl:List Nat) (n1:Nat) (hn1:n1≤ops.length) (hok:q5b fl ops n1=true) (h:asqD E E0 P G ops.toArray (ops.take n1) T σ fun T1 σ1=>FlOK P G fl ops n1 T1∧asq E E0 P G ops.toArray (ops.drop n1) T1 σ1 (KD K)) :
  ∀ (X:Cx) (w:World) (a:Act),X.σ=σ→m≤σ.length→(∀ id,¬ X.pend id)→Inv E E0 X w→Frm X w T a→wpAny P .any ops.toArray (Post E E0 m X w K) ops.length (Array.replicate ops.length false) a { w with drawn:=w.drawn+1 } :=
 qh5 hb fl n1 [] ops.length hn1 hok (fun j h1 h2=>by omega) (fun _ h=>by cases h) (q8e h fun T1 σ1 q=>⟨q.1.toS _ _,q8f _ _ _ _ (.inr rfl) q.2⟩)
theorem qp8 (hb:Base E E0 G) (hm:P.follows .mixedOrders=true) {id:Nat} {ops:List Oper} (fl:List Nat) (n1:Nat) (hn1:n1≤ops.length) (hok:q5b fl ops n1=true) (h:asqD E E0 P G ops.toArray (ops.take n1) T σ fun T1 σ1=>FlOK P G fl ops n1 T1∧asq E E0 P G ops.toArray (ops.drop n1) T1 σ1 (KD K)) :
  awp E E0 P m (.region id ops.toArray true) T σ K:=fun X w a h1 h2 h3 h4 h5=>wp_region_any hm (by simpa using qp0 hb fl n1 hn1 hok h X w a h1 h2 h3 h4 h5)
theorem qom (hb:Base E E0 G) (hm:P.follows .mixedOrders=true) {id:Nat} {ops:List Oper} (fl:List Nat) (n1:Nat) (hn1:n1≤ops.length) (hok:q5b fl ops n1=true)
  (h:∀ R:List TV→Sto→Prop,(∀ T' σ',(∀ v,T'≠[.dead v])→awpL E E0 P m r T' σ' K→R T' σ')→(∀ v,(∀ T' σ',K (.pan v) T' σ')→R [.dead v] [])→asqD E E0 P G ops.toArray (ops.take n1) T σ fun T1 σ1=>FlOK P G fl ops n1 T1∧asq E E0 P G ops.toArray (ops.drop n1) T1 σ1 R):awpL E E0 P m (.region id ops.toArray true::r) T σ K :=
 qp8 hb hm fl n1 hn1 hok (h (KD (fun ex T' σ'=>match ex with | .normal=>awpL E E0 P m r T' σ' K | ex=>K ex T' σ')) (fun T' σ' q k=>q87 (K:=fun ex T' σ'=>match ex with | .normal=>awpL E E0 P m r T' σ' K | ex=>K ex T' σ') k fun v e=>q v e) fun v k=>k)
end Abs
end Go.Proofs.YtpidpioifnnllaaGreatDoor
namespace Go.Proofs.YtpidpioifnnllaaGreatDoor
namespace Abs
variable {E : World → Prop} {E0 : Nat} {P : Program} {G : Nat → Option (List PV)}
def asqO (E:World→Prop) (E0:Nat) (P:Program) (G:Nat→Option (List PV)) (ops:Array Oper):List Oper→List TV→Sto→(List TV→Sto→Prop)→Prop
 | [],T,σ,K=>K T σ
 | o::r,T,σ,K =>
  match qz ops T o with
  | some true=>OpA E E0 P (evT G T) σ o.op (fun eff=>asqO E E0 P G ops r (putT T o.dst (effV σ eff)) (effσ σ eff) K)
  | some false=>asqO E E0 P G ops r (putT T o.dst qw) σ K
  | none=>False
theorem qd1 {ops:Array Oper} {K:List TV→Sto→Prop}:∀ {l:List Oper} {T:List TV} {σ:Sto},asqO E E0 P G ops l T σ K→asq E E0 P G ops l T σ K
 | [],_,_,h=>h
 | o::r,T,σ,h=>by
  unfold asqO at h
  unfold asq
  split at h
  ·rename_i hw; rw[hw]; exact .inl (qcq h fun _ k=>qd1 k)
  ·rename_i hw; rw[hw]; exact qd1 h
  ·exact h.elim
theorem qcn {m:Nat} {T:List TV} {σ:Sto} {K:Ex→List TV→Sto→Prop} {r:List Code} (hb:Base E E0 G) {id:Nat} {ops:List Oper} (h:∀ R:List TV→Sto→Prop,(∀ T' σ',(∀ v,T'≠[.dead v])→awpL E E0 P m r T' σ' K→R T' σ')→asqO E E0 P G ops.toArray ops T σ R):awpL E E0 P m (.region id ops.toArray false::r) T σ K :=
 qop hb fun R hR _=>qd1 (h R hR)
attribute [simp] asqO
attribute [simp] asq asqD qz OpA aop AV.cells AC.ok putT effV effσ qw q41 q67 evT avOf q11 scalar intOf? q21 optT q4y q9a Value.oneCell' splice live AObj.ver AObj.cells pokes rd Abs.sc
attribute [simp] qa7 q8c q6t q4k q56 q4i qct qcr q8b q36 q61 q89 q6r qa6 nilness q4a frzC frzL frzV q17 frzT q40 q2u q98 q1o AC.owns AV.owns AC.flat AV.flat TV.flat replic q4q q2m q4p q4o
attribute [simp] q6s pvs
attribute [simp] q4e q6i qbv q5i killσ AC.under AV.under TV.under AObj.under q4x
end Abs
end Go.Proofs.YtpidpioifnnllaaGreatDoor
