/-
  Each operation of the evaluator is what the model does: the others.
  Each operation of the evaluator is what the model does: slices, fields, indexes.
  Each operation of the evaluator is what the model does: fields, indexes, parts, lengths.
  Each operation of the evaluator is what the model does: structs and arrays built, stores, appends.
-/
import Derived.Test.YtpidpioifnnllaaGreatDoorAbsD
set_option linter.unusedVariables false
set_option linter.unusedSimpArgs false
namespace Go.Proofs.YtpidpioifnnllaaGreatDoor
namespace Abs
open Go.RowKit
variable {E : World → Prop} {E0 : Nat} {P : Program} {X : Cx} {w : World} {ρ : Operand → TV} {ev : Operand → Value}
theorem qlw {o:Oper} {x:Operand} (ho:o.op=.move x∨o.op=.assign x) (hi:Inv E E0 X w) (hx:TRep X w (ρ x) (ev x)):Got E E0 P X w (execOp ev o) (.val (ρ x)) :=
 qn hi (u:=ev x) (by rcases ho with ho | ho <;> simp[execOp,ho]) hx
theorem qu8 {o:Oper} {c a b:Operand} (ho:o.op=.pick c a b) (hi:Inv E E0 X w) (hc:TRep X w (ρ c) (ev c)) (ha:TRep X w (ρ a) (ev a)) (hb:TRep X w (ρ b) (ev b)) {eff:Eff}
  (h:aop P ρ X.σ (.pick c a b)=some eff):Got E E0 P X w (execOp ev o) eff:=by
 simp only[aop]at h
 split at h
 ·rename_i t h1
  simp at h
  subst h
  rw[q7v h1]at hc
  obtain ⟨hu,_⟩:=q1s hc
  refine qn hi (u:=if t then ev a else ev b) ?_ (by cases t <;> assumption)
  cases t <;> simp[execOp,ho,hu,asBool]
 ·cases h
theorem qjm {s:Sem Next} {vs:List AC} {us:Array Value} {T:TypeId} (hr:s.run P w=.ok (.value (.pointer (some ⟨w.heap.size,0,none⟩))) (w.alloc (.cells us T (0,0)))) (hc:All2 (CRep X w) vs us.toList) :
  Got E E0 P X w s (.new (.box vs) fun id=>.one (.cell (.ptr id 0 0))):=by
 refine ⟨w,us,T,_,Still.refl w,.inl hr,fun i c e=>?_,rfl,fun Y id hid=>?_⟩
 ·obtain ⟨u,h1,h2⟩:=hc.get i c e
  exact ⟨u,by simpa using h1,h2⟩
 ·refine ⟨rfl,fun k=>k.2 rfl,?_,fun ob e=>?_⟩
  ·show id < Y.σ.length
   rcases Nat.lt_or_ge id Y.σ.length with h | h
   ·exact h
   ·rw[List.getElem?_eq_none h]at hid; cases hid
  ·have e':Y.σ[id]?=some (some ob):=e
   rw[hid]at e'
   obtain rfl:AObj.box vs=ob:=by simpa using e'
   exact ⟨Nat.zero_le _,fun _=>⟨(w.heap.size,us.size),by simp[Cx.born],rfl⟩⟩
theorem qtn {o:Oper} {t:TypeId} (ho:o.op=.alloc t) {eff:Eff} (h:aop P ρ X.σ (.alloc t)=some eff):Got E E0 P X w (execOp ev o) eff:=by
 simp only[aop,Option.bind_eq_some_iff]at h
 obtain ⟨z,hz,h⟩:=h
 split at h
 ·rename_i hok
  simp at h; subst h
  obtain ⟨i,v,hi1,hv,rfl⟩:=q6n hz
  obtain ⟨hc,_⟩:=(q4z (X:=X) (w:=w) v).cells hok
  refine qjm (us:=v.cells) (T:=t) ?_ hc
  simp[execOp,ho,Instr.alloc,q7u hi1 hv,newVar,newRow]
 ·cases h
theorem op_box {o:Oper} {t:TypeId} {x:Operand} (ho:o.op=.box t x) (hx:TRep X w (ρ x) (ev x)) {eff:Eff} (h:aop P ρ X.σ (.box t x)=some eff):Got E E0 P X w (execOp ev o) eff:=by
 simp only[aop,Option.bind_eq_some_iff]at h
 obtain ⟨v,hv,h⟩:=h
 rw[q64 hv]at hx
 split at h
 ·rename_i hok
  simp at h; subst h
  obtain ⟨hc,_⟩:=q9.cells (v:=v) hx hok
  refine qjm (us:=(ev x).cells) (T:=t) ?_ hc
  simp[execOp,ho,Instr.box,newVar,newRow]
 ·cases h
theorem qu7 {o:Oper} {x:Operand} (ho:o.op=.nilCheck x) (hi:Inv E E0 X w) (hx:TRep X w (ρ x) (ev x)) {eff:Eff} (h:aop P ρ X.σ (.nilCheck x)=some eff):
  Got E E0 P X w (execOp ev o) eff:=by
 simp only[aop]at h
 split at h
 ·rename_i id ver off h1
  split at h
  ·rename_i ob hl
   simp at h; subst h
   rw[q1a h1]at hx
   obtain ⟨_,_,l,_,hu⟩:=q5r (X:=X) hx hl
   exact qn hi (u:=ev x) (by simp[execOp,ho,hu]) hx
  ·cases h
 ·rename_i cs h1
  simp at h; subst h
  rw[q1a h1]at hx
  have hx':PRep X.prot w (.pp cs) (ev x):=hx
  unfold PRep at hx'
  obtain ⟨b,o',hu,_⟩:=hx'
  exact qn hi (u:=ev x) (by simp[execOp,ho,hu]) hx
 ·rename_i f caps h1
  simp at h; subst h
  rw[q1a h1]at hx
  have hx':CRep X w (.fn f caps) (ev x):=hx
  obtain ⟨us,hu,_⟩:=hx'
  exact qn hi (u:=ev x) (by simp[execOp,ho,hu]) hx
 ·rename_i f a b h1
  simp at h; subst h
  rw[q1a h1]at hx
  obtain ⟨hu,hone⟩:=q1s hx
  exact qn hi (u:=ev x) (by simp[execOp,ho,hu]) (by rw[hu]; exact q1t hone)
 ·cases h
theorem qny (a b:ByteArray):(a.toList == b.toList)=decide (a=b):=by
 rw[Bool.eq_iff_iff]
 simp
 constructor
 ·intro h
  rw[Lib.toList_data,Lib.toList_data]at h
  cases a; cases b; simp at h; simp[h]
 ·rintro rfl; rfl
theorem qos {op:BinOp} {k k':IntKind} {a b:Int} {v:Value} (t:TypeId) (hk:op=.shl∨op=.shr∨k=k') (h:qa7 op k a b=some v):(binOp op t (.int k a) (.int k' b)).run P w=.ok v w∧v.oneCell'=true:=by
 cases op <;> simp only[qa7]at h
 case shl =>
  split at h
  ·cases h
  ·simp at h; subst h
   refine ⟨?_,rfl⟩
   simp[binOp,Op.shift, *]
 case shr =>
  split at h
  ·cases h
  ·simp at h; subst h
   refine ⟨?_,rfl⟩
   simp[binOp,Op.shift, *]
 all_goals
  obtain rfl:k=k':=by simpa using hk
 case quo =>
  split at h
  ·cases h
  ·simp at h; subst h
   exact ⟨by simp[binOp,Op.intDiv, *],rfl⟩
 case rem =>
  split at h
  ·cases h
  ·simp at h; subst h
   exact ⟨by simp[binOp,Op.intDiv, *],rfl⟩
 all_goals
  simp at h; subst h
  exact ⟨by simp[binOp,Op.intArith,Op.intCmp,Op.intBits] <;> rfl,rfl⟩
theorem qou {op:BinOp} {a b:ByteArray} {v:Value} (t:TypeId) (h:q8c op a b=some v):(binOp op t (.string a) (.string b)).run P w=.ok v w∧v.oneCell'=true:=by
 cases op <;> simp only[q8c]at h
 case add =>
  split at h
  ·rename_i hle
   simp at h; subst h
   refine ⟨?_,rfl⟩
   have hm:IntKind.i64.max=9223372036854775807:=by decide
   have:¬ (9223372036854775807:Int) < (a.size:Int)+(b.size:Int):=by omega
   simp[binOp,Op.stringOp,hm,this]
  ·cases h
 all_goals first
  | (simp at h; done)
  | (simp only[Option.some.injEq]at h; subst h; exact ⟨by simp[binOp,Op.stringOp,qny],rfl⟩)
theorem qiu (op : BinOp) (t : TypeId) (x y : Operand) {a b : Value} (h1 : ¬ (a = .nilIface ∧ b = .nilIface)) (h2 : ∀ p q, ¬ (a = .agg p ∧ b = .agg q)) : (eqGuard op t x y a b).run P w = .ok () w := by
  unfold eqGuard
  cases op <;> first
    | rfl
    | (simp only [Bool.not_true, Bool.false_eq_true, if_false]
       split
       · exact absurd ⟨rfl, rfl⟩ h1
       · exact absurd ⟨rfl, rfl⟩ (h2 _ _)
       · rfl)
theorem qiv {t:TypeId} (hu:P.underlying t=some .bool) (d:Nat) (a b:Bool):(Op.equalIn (d+1) t (.bool a) (.bool b)).run P w=.ok (a == b) w:=by
 simp[Op.equalIn,run_underlying hu]
theorem qiw {t e:TypeId} (hu:P.underlying t=some (.slice e)) (d:Nat) (p:Option Addr) (q r:Nat):(Op.equalIn (d+1) t (.slice none 0 0) (.slice p q r)).run P w=.ok p.isNone w:=by
 simp[Op.equalIn,run_underlying hu]
theorem equalIn_nil' {t e:TypeId} (hu:P.underlying t=some (.slice e)) (d:Nat) (a:Addr) (q r:Nat):(Op.equalIn (d+1) t (.slice (some a) q r) (.slice none 0 0)).run P w=.ok false w:=by
 simp[Op.equalIn,run_underlying hu]
theorem qqs {t e:TypeId} (hu:P.underlying t=some (.slice e)) (d:Nat) (p:Option Addr) (q r:Nat):(Op.equalIn (d+1) t (.slice p q r) (.slice none 0 0)).run P w=.ok p.isNone w:=by
 cases p <;> simp[Op.equalIn,run_underlying hu]
theorem qov {op:BinOp} {t:TypeId} {x y v:Value} (h:q6t P op t x y=some v):(binOp op t x y).run P w=.ok v w∧v.oneCell'=true∧¬ (x=.nilIface∧y=.nilIface)∧∀ p q,¬ (x=.agg p∧y=.agg q):=by
 unfold q6t at h
 split at h
 ·split at h
  ·rename_i hk
   obtain ⟨h1,h2⟩:=qos (P:=P) (w:=w) t hk h
   exact ⟨h1,h2,by simp,by simp⟩
  ·cases h
 ·obtain ⟨h1,h2⟩:=qou (P:=P) (w:=w) t h
  exact ⟨h1,h2,by simp,by simp⟩
 ·split at h
  ·rename_i hu
   have he:∀ a b:Bool,(Op.equal t (.bool a) (.bool b)).run P w=.ok (a == b) w:=by
    intro a b
    exact qiv hu 9999 a b
   split at h
   ·simp at h; subst h
    exact ⟨by simp[binOp,he],rfl,by simp,by simp⟩
   ·simp at h; subst h
    exact ⟨by simp[binOp,he],rfl,by simp,by simp⟩
   ·cases h
  ·cases h
 ·cases h
theorem qf7 {σ:Sto} (hσ:σ=X.σ) {c:AC} {u:Value} {b:Bool} (h:nilness σ c=some b) (hc:CRep X w c u):(b=true∧u=.slice none 0 0)∨(b=false∧∃ a n cap,u=.slice (some a) n cap):=by
 subst hσ
 unfold nilness at h
 split at h
 ·rename_i v
  unfold CRep PRep at hc
  split at h
  ·rename_i hn
   simp at h
   unfold q4a at hn
   split at hn
   ·exact .inl ⟨h,hc.1⟩
   ·cases hn
  ·cases h
 ·rename_i n cs
  unfold CRep PRep at hc
  split at h
  ·rename_i hn
   simp at h
   rcases hc with ⟨_,h0,_⟩ | ⟨b',off,cap,hu,_⟩ | ⟨h0,_⟩
   ·omega
   ·exact .inr ⟨h,_,_,_,hu⟩
   ·omega
  ·cases h
 ·rename_i id ver off len
  obtain ⟨_,_,_,k⟩:=hc
  split at h
  ·rename_i hlv
   simp at h
   obtain ⟨h1,h2⟩:=q6d hlv
   obtain ⟨_,k2⟩:=k _ h1
   obtain ⟨l,_,_,a,cap,hu,_⟩:=k2 h2.symm
   exact .inr ⟨h,a,_,cap,hu⟩
  ·rename_i hlv
   simp at h
   obtain ⟨h1,h2⟩:=q6d hlv
   obtain ⟨_,k2⟩:=k _ h1
   exact .inl ⟨h,(k2 h2.symm).1⟩
  ·cases h
 ·cases h
theorem qgw {op:BinOp} {t:TypeId} {a b:AC} {x y v:Value} (h:q4k P X.σ op t a b=some v) (ha:CRep X w a x) (hb:CRep X w b y) :
  (binOp op t x y).run P w=.ok v w∧v.oneCell'=true∧¬ (x=.nilIface∧y=.nilIface)∧∀ p q,¬ (x=.agg p∧y=.agg q):=by
 unfold q4k at h
 split at h
 ·rename_i e hu
  split at h
  ·rename_i m n h1 h2
   have e1:=qf7 rfl h1 ha
   have e2:=qf7 rfl h2 hb
   split at h
   ·rename_i hmn
    have he:(Op.equal t x y).run P w=.ok (m && n) w:=by
     rcases e1 with ⟨rfl,rfl⟩ | ⟨rfl,p,q,r,rfl⟩
     ·rcases e2 with ⟨rfl,rfl⟩ | ⟨rfl,p',q',r',rfl⟩
      ·exact qiw hu 9999 _ _ _
      ·exact qiw hu 9999 _ _ _
     ·rcases e2 with ⟨rfl,rfl⟩ | ⟨rfl,p',q',r',rfl⟩
      ·exact equalIn_nil' hu 9999 _ _ _
      ·simp at hmn
    have hsl:(∃ p q r,x=.slice p q r)∧∃ p q r,y=.slice p q r:=by
     constructor
     ·rcases e1 with ⟨_,rfl⟩ | ⟨_,p,q,r,rfl⟩ <;> exact ⟨_,_,_,rfl⟩
     ·rcases e2 with ⟨_,rfl⟩ | ⟨_,p,q,r,rfl⟩ <;> exact ⟨_,_,_,rfl⟩
    obtain ⟨⟨p,q,r,rfl⟩,p',q',r',rfl⟩:=hsl
    split at h
    ·simp at h; subst h
     exact ⟨by simp[binOp,he],rfl,by simp,by simp⟩
    ·simp at h; subst h
     exact ⟨by simp[binOp,he],rfl,by simp,by simp⟩
    ·cases h
   ·cases h
  ·cases h
 ·cases h
theorem qqr {t:TypeId} {a b:AC} {q:Bool} (h:qdt P t a b=some q) {u v:Value} (ha:CRep X w a u) (hb:CRep X w b v) (d:Nat):(Op.equalIn (d+1) t u v).run P w=.ok q w:=by
 unfold qdt at h
 split at h
 ·have ea:u=_:=ha.1
  have eb:v=_:=hb.1
  subst ea; subst eb
  split at h
  ·rename_i hu
   split at h
   ·rename_i hk
    subst hk
    simp at h; subst h
    exact (run_equalIn_int w d t _ _ _ _ hu).trans (by congr 1)
   ·cases h
  ·cases h
 ·have ea:u=_:=ha.1
  have eb:v=_:=hb.1
  subst ea; subst eb
  split at h
  ·rename_i hu
   simp at h; subst h
   rw[run_equalIn_string w d t _ _ hu]
   congr 1
   exact qny _ _
  ·cases h
 ·have ea:u=_:=ha.1
  have eb:v=_:=hb.1
  subst ea; subst eb
  split at h
  ·rename_i hu
   simp at h; subst h
   exact qiv hu d _ _
  ·cases h
 ·cases h
theorem qit {cs ds:List AC} {us vs:Array Value} (h1:All2 (CRep X w) cs us.toList) (h2:All2 (CRep X w) ds vs.toList) (d:Nat):∀ (fs:List Field) (q:Bool),eqFs P cs ds fs=some q→(Op.eqFields (d+1) us vs fs).run P w=.ok q w
 | [],q,h=>by
  simp only[eqFs,Option.some.injEq]at h
  subst h; rfl
 | f::r,q,h=>by
  unfold eqFs at h
  split at h
  ·rename_i hn
   split at h
   ·rename_i a b hag ea eb
    simp only[Option.bind_eq_some_iff,Option.map_eq_some_iff]at h
    obtain ⟨q1,e1,p,e2,rfl⟩:=h
    obtain ⟨u,hu,ru⟩:=All2.get h1 _ _ ea
    obtain ⟨v,hv,rv⟩:=All2.get h2 _ _ eb
    have pu:(part f.type us f.offset).run P w=.ok u w:=by
     have hu':us[f.offset]?=some u:=by simpa using hu
     simp[part,run_isAgg' hag,hu']
    have pv:(part f.type vs f.offset).run P w=.ok v w:=by
     have hv':vs[f.offset]?=some v:=by simpa using hv
     simp[part,run_isAgg' hag,hv']
    have ih:=qit h1 h2 d r p e2
    unfold Op.eqFields
    rw[if_pos hn]
    simp only[Sem.run_bind,pu,pv,Result.andThen_ok,qqr e1 ru rv d]
    cases q1 with
    | false=>rfl
    | true=>exact ih
   ·cases h
  ·cases h
theorem qor {op:BinOp} {t:TypeId} {x y:TV} {v:Value} (h:qcs P op t x y=some v) {u u':Value} (hx:TRep X w x u) (hy:TRep X w y u') :
  (binOp op t u u').run P w=.ok v w∧v.oneCell'=true∧∀ a b,(eqGuard op t a b u u').run P w=.ok () w:=by
 unfold qcs at h
 split at h
 ·rename_i cs ds
  obtain ⟨us,rfl,h1⟩:=hx
  obtain ⟨vs,rfl,h2⟩:=hy
  split at h
  ·rename_i fs hu
   split at h
   ·rename_i hc
    have hf:P.fieldsOf t=fs:=by unfold Program.fieldsOf; rw[hu]
    have hst:P.underlying t=some (.struct (P.fieldsOf t)):=by rw[hf]; exact hu
    have key:∀ q,eqFs P cs ds fs.toList=some q→(Op.equalIn 10000 t (.agg us) (.agg vs)).run P w=.ok q w:=fun q e=>by
     rw[run_equalIn_struct w 9999 t us vs hst hc.1,hf]
     exact qit h1 h2 9998 _ _ e
    have hg:∀ a b,(eqGuard op t a b (.agg us) (.agg vs)).run P w=.ok () w:=fun a b=>run_eqGuard_agg w op t a b us vs hc.2
    split at h
    ·simp only[Option.map_eq_some_iff]at h
     obtain ⟨q,e,rfl⟩:=h
     exact ⟨by rw[run_eql_struct,key q e]; rfl,rfl,hg⟩
    ·simp only[Option.map_eq_some_iff]at h
     obtain ⟨q,e,rfl⟩:=h
     exact ⟨by rw[run_neq_struct,key q e]; rfl,rfl,hg⟩
    ·cases h
   ·cases h
  ·cases h
 ·cases h
theorem qtp {o:Oper} {op:BinOp} {t t':TypeId} {x y:Operand} (ho:o.op=.binOp op t x y t') (hi:Inv E E0 X w) (hx:TRep X w (ρ x) (ev x)) (hy:TRep X w (ρ y) (ev y)) {eff:Eff}
  (h:aop P ρ X.σ (.binOp op t x y t')=some eff):Got E E0 P X w (execOp ev o) eff:=by
 simp only[aop]at h
 split at h
 ·rename_i a b h1 h2
  rw[q1a h1]at hx
  rw[q1a h2]at hy
  split at h
  ·rename_i hunk
   simp at h; subst h
   unfold q4i at hunk
   simp only[Bool.and_eq_true]at hunk
   obtain ⟨⟨⟨k1,k2⟩,k3⟩,k4⟩:=hunk
   have ht:∃ e,P.underlying t=some (.slice e):=by
    split at k1
    ·rename_i e he; exact ⟨e,he⟩
    ·cases k1
   obtain ⟨e,ht⟩:=ht
   have hxs:∃ p q r,ev x=.slice p q r:=by
    split at k3
    ·rename_i full n cs
     have hx':PRep X.prot w (.sl full n cs) (ev x):=hx
     unfold PRep at hx'
     rcases hx' with ⟨h,_⟩ | ⟨b,off,cap,h,_⟩ | ⟨_,_,a,cap,h,_⟩ <;> exact ⟨_,_,_,h⟩
    ·cases k3
   have hyn:ev y=.slice none 0 0:=by
    split at k4
    ·rename_i hn
     rcases qf7 rfl hn hy with ⟨_,h⟩ | ⟨h,_⟩
     ·exact h
     ·cases h
    ·cases k4
   obtain ⟨p,q,r,hxv⟩:=hxs
   have heq:∃ bb,(Op.equal t (ev x) (ev y)).run P w=.ok bb w:=by
    rw[hxv,hyn]
    exact ⟨_,qqs ht 9999 p q r⟩
   obtain ⟨bb,heq⟩:=heq
   have hg:=qiu (P:=P) (w:=w) op t x y (a:=ev x) (b:=ev y) (by rw[hxv]; simp) (by rw[hxv]; simp)
   split at k2
   ·refine qn hi (u:=.bool bb) ?_ ⟨bb,rfl⟩
    rw[hxv,hyn]at heq hg
    simp[execOp,ho,hxv,hyn,hg,binOp,heq]
   ·refine qn hi (u:=.bool !bb) ?_ ⟨!bb,rfl⟩
    rw[hxv,hyn]at heq hg
    simp[execOp,ho,hxv,hyn,hg,binOp,heq]
   ·cases k2
  simp at h
  obtain ⟨v,hv,rfl⟩:=h
  have key:(binOp op t (ev x) (ev y)).run P w=.ok v w∧v.oneCell'=true∧¬ (ev x=.nilIface∧ev y=.nilIface)∧∀ p q,¬ (ev x=.agg p∧ev y=.agg q):=by
   unfold q56 at hv
   split at hv
   ·rename_i p q
    split at hv
    ·rename_i r hr
     simp at hv; subst hv
     obtain ⟨e1,_⟩:=q1s hx
     obtain ⟨e2,_⟩:=q1s hy
     rw[e1,e2]
     exact qov hr
    ·exact qgw hv hx hy
   ·exact qgw hv hx hy
  obtain ⟨k1,k2,k3,k4⟩:=key
  exact qn hi (u:=v) (by simp[execOp,ho,qiu op t x y k3 k4,k1]) (q1t k2)
 ·simp only[Option.map_eq_some_iff]at h
  obtain ⟨v,hv,rfl⟩:=h
  obtain ⟨k1,k2,k3⟩:=qor hv hx hy
  exact qn hi (u:=v) (by simp[execOp,ho,k3,k1]) (q1t k2)
theorem qub {o:Oper} {op:UnOp} {t:TypeId} {x:Operand} (ho:o.op=.unOp op t x) (hi:Inv E E0 X w) (hx:TRep X w (ρ x) (ev x)) {eff:Eff} (h:aop P ρ X.σ (.unOp op t x)=some eff):Got E E0 P X w (execOp ev o) eff:=by
 simp only[aop,Option.bind_eq_some_iff,Option.map_eq_some_iff]at h
 obtain ⟨v,h1,r,h2,rfl⟩:=h
 rw[q7v h1]at hx
 obtain ⟨hu,_⟩:=q1s hx
 unfold qct at h2
 split at h2
 ·simp at h2; subst h2
  exact qn hi (u:=_) (by simp[execOp,ho,hu,Op.unary,Op.intArith]) (q1t rfl)
 ·simp at h2; subst h2
  exact qn hi (u:=_) (by simp[execOp,ho,hu,Op.unary]) (q1t rfl)
 ·cases h2
theorem qtt {o:Oper} {src dst:TypeId} {x:Operand} (ho:o.op=.convert src dst x) (hi:Inv E E0 X w) (hx:TRep X w (ρ x) (ev x)) {eff:Eff} {v:Value} (h1:scalar (ρ x)=some v) (h:aop P ρ X.σ (.convert src dst x)=some eff):Got E E0 P X w (execOp ev o) eff:=by
 simp only[aop,h1,Option.map_eq_some_iff]at h
 obtain ⟨r,h2,rfl⟩:=h
 rw[q7v h1]at hx
 obtain ⟨hu,_⟩:=q1s hx
 unfold qcr at h2
 split at h2
 ·rename_i d hs _
  split at h2
  ·rename_i k hd
   simp at h2; subst h2
   refine qn hi (u:=_) ?_ (q1t rfl)
   simp[execOp,ho,hu,convert,run_underlying hs,run_underlying hd,Conv.intToInt]
  ·cases h2
 ·rename_i s d hs _
  split at h2
  ·rename_i hd
   simp at h2; subst h2
   refine qn hi (u:=_) ?_ (q1t rfl)
   simp[execOp,ho,hu,convert,run_underlying hs,run_underlying hd]
  ·cases h2
 ·cases h2
theorem qu3 {o:Oper} {t:TypeId} {x:Operand} (ho:o.op=.makeInterface t x) (hi:Inv E E0 X w) (hx:TRep X w (ρ x) (ev x)) {eff:Eff} (h:aop P ρ X.σ (.makeInterface t x)=some eff):Got E E0 P X w (execOp ev o) eff:=by
 simp only[aop]at h
 split at h
 ·rename_i v h1 h2
  simp at h; subst h
  rw[q7v h1]at hx
  obtain ⟨hu,_⟩:=q1s hx
  refine qn hi (u:=.iface t v) ?_ (q1t rfl)
  unfold qjy at h2
  split at h2
  ·cases h2
  ·rename_i d hne hd
   cases d <;> first
    | exact (hne _ rfl).elim
    | simp[execOp,ho,hu,Instr.makeInterface,run_underlying hd]
  ·cases h2
 ·cases h
theorem qhz:∀ {l:List Operand} {cs:List (Nat×Nat×Nat)},(∀ x ∈ l,TRep X w (ρ x) (ev x))→q4q ρ l=some cs→All2 (fun (c:Nat×Nat×Nat) u=>q2e X c.1 c.2.1 c.2.2 u) cs (l.map ev)
 | [],cs,_,h=>by simp[q4q]at h; subst h; trivial
 | x::r,cs,hr,h=>by
  unfold q4q at h
  split at h
  ·rename_i id ver off hx
   simp at h
   obtain ⟨l,hl,rfl⟩:=h
   have h0:=hr x (by simp)
   rw[hx]at h0
   exact ⟨h0,qhz (fun y hy=>hr y (by simp[hy])) hl⟩
  ·cases h
theorem qu2 {o:Oper} {f:FuncId} {first captured:Array Operand} (ho:o.op=.makeFunc (.func f) first captured) (hi:Inv E E0 X w) (hx:∀ x ∈ captured.toList,TRep X w (ρ x) (ev x)) {eff:Eff} (h:aop P ρ X.σ (.makeFunc (.func f) first captured)=some eff):Got E E0 P X w (execOp ev o) eff:=by
 simp only[aop]at h
 split at h
 ·rename_i hf
  have hfirst:first=#[]:=by simpa using hf
  subst hfirst
  split at h
  ·rename_i hc
   have hcap:captured=#[]:=by simpa using hc
   subst hcap
   simp at h; subst h
   exact qn hi (u:=_) (by simp[execOp,ho,Instr.makeFunc]) (q1t rfl)
  ·simp at h
   obtain ⟨l,hl,rfl⟩:=h
   refine qn hi (u:=.func (.func f) #[] (captured.map ev)) (by simp[execOp,ho,Instr.makeFunc]) ?_
   exact ⟨captured.map ev,rfl,by simpa using qhz hx hl⟩
 ·cases h
end Abs
end Go.Proofs.YtpidpioifnnllaaGreatDoor
namespace Go.Proofs.YtpidpioifnnllaaGreatDoor
namespace Abs
open Go.RowKit
variable {E : World → Prop} {E0 : Nat} {P : Program} {X : Cx} {w : World} {ρ : Operand → TV} {ev : Operand → Value}
theorem q70 {v:TV} {u:Value} {d l:Nat} (h:q21 (some v) d=some l) (hv:TRep X w v u):∃ k i,u=.int k i∧0≤i∧l=i.toNat:=by
 unfold q21 at h
 simp only at h
 split at h
 ·rename_i i hi
  split at h
  ·rename_i h0
   simp at h
   obtain ⟨k,hk⟩:=q77 hi
   rw[hk]at hv
   exact ⟨k,i,(q1s hv).1,h0,h.symm⟩
  ·cases h
 ·cases h
def q60 (X:Cx) (w:World) (ρ:Operand→TV) (ev:Operand→Value) (x:Option Operand):Prop:=∀ y,x=some y→TRep X w (ρ y) (ev y)
theorem q54 {k:IntKind} {i:Int} {y:Nat} {code:BoundsCode} (h0:0≤i) (h1:i.toNat≤y):(Instr.sliceBound (.int k i) y code).run P w=.ok i.toNat w:=by
 have:i≤y:=by omega
 simp[Instr.sliceBound,asIntOf,h0,this]
theorem qg1 {b:Bool} {len cap l h:Nat} {lo hi:Option Operand} (hlo:q60 X w ρ ev lo) (hhi:q60 X w ρ ev hi) (h1:q21 (optT ρ lo) 0=some l) (h2:q21 (optT ρ hi) len=some h) (hlh:l≤h) (hc:h≤cap) :
  (Instr.sliceBounds b len cap (lo.map ev) (hi.map ev) none).run P w=.ok (l,h,cap) w:=by
 cases lo with
 | none =>
  simp[optT,q21]at h1; subst h1
  cases hi with
  | none=>simp[optT,q21]at h2; subst h2; simp[Instr.sliceBounds]
  | some y =>
   obtain ⟨k,i,e,h0,rfl⟩:=q70 h2 (hhi y rfl)
   simp[Instr.sliceBounds,e,q54 h0 hc]
 | some x =>
  obtain ⟨k,i,e,h0,rfl⟩:=q70 h1 (hlo x rfl)
  cases hi with
  | none=>simp[optT,q21]at h2; subst h2; simp[Instr.sliceBounds,e,q54 h0 hlh]
  | some y =>
   obtain ⟨k',j,e',h0',rfl⟩:=q70 h2 (hhi y rfl)
   simp[Instr.sliceBounds,e,e',q54 h0' hc,q54 h0 hlh]
theorem qw0 {b:Bool} {len cap l h m:Nat} {lo hi:Option Operand} {z:Operand} (hlo:q60 X w ρ ev lo) (hhi:q60 X w ρ ev hi) (hz:TRep X w (ρ z) (ev z)) (h1:q21 (optT ρ lo) 0=some l) (h2:q21 (optT ρ hi) len=some h) (h3:q21 (some (ρ z)) 0=some m)
  (hs:hi.isSome=true) (hlh:l≤h) (hm:h≤m) (hc:m≤cap):(Instr.sliceBounds b len cap (lo.map ev) (hi.map ev) (some (ev z))).run P w=.ok (l,h,m) w:=by
 obtain ⟨k3,i3,e3,h03,rfl⟩:=q70 h3 hz
 cases hi with
 | none=>cases hs
 | some y =>
  obtain ⟨k',j,e',h0',rfl⟩:=q70 h2 (hhi y rfl)
  cases lo with
  | none =>
   simp[optT,q21]at h1; subst h1
   simp[Instr.sliceBounds,e3,e',q54 h03 hc,q54 h0' hm]
  | some x =>
   obtain ⟨k,i,e,h0,rfl⟩:=q70 h1 (hlo x rfl)
   simp[Instr.sliceBounds,e,e3,e',q54 h03 hc,q54 h0' hm,q54 h0 hlh]
theorem qjz {t:TypeId} (h:q4b P t=true):P.underlying t=some .string:=by
 unfold q4b at h; split at h <;> simp_all
theorem addr_add' {a:Addr} (h:a.spot=none) (n:Nat):(a.add n).block=a.block∧(a.add n).off=a.off+n∧(a.add n).spot=none:=by
 unfold Addr.add
 split
 ·rename_i e; subst e; exact ⟨rfl,rfl,h⟩
 ·exact ⟨rfl,rfl,rfl⟩
theorem qg0 {full:Bool} {n:Nat} {cs:List PV} {u:Value} (h:PRep X.prot w (.sl full n cs) u) {l hh m sz:Nat} (full':Bool) (hlh:l≤hh) :
  ∃ a cap,u=.slice a n cap∧n≤cap∧(full=true→cap=n)∧(hh≤n→hh≤m→m≤cap→(n=0→a=none→cap=0)∧((full'=true→m=hh)→PRep X.prot w (.sl full' (hh - l) ((cs.drop (l*sz)).take ((hh - l)*sz))) (.slice (if m=l then a else a.map (·.add (l*sz))) (hh - l) (m - l)))):=by
 unfold PRep at h
 rcases h with ⟨rfl,rfl,rfl⟩ | ⟨b,off,cap,rfl,h1,h2,h3⟩ | ⟨rfl,rfl,a,cap,rfl,h2⟩
 ·refine ⟨none,0,rfl,Nat.le_refl _,fun _=>rfl,fun _ _ hm=>⟨fun _ _=>rfl,fun _=>?_⟩⟩
  have:m=0:=by omega
  have:l=0:=by omega
  have:hh=0:=by omega
  subst_vars
  unfold PRep
  exact .inl ⟨by simp,rfl,by simp⟩
 ·refine ⟨some ⟨b,off,none⟩,cap,rfl,h1,h2,fun _ hm hc=>⟨fun _ hk=>by simp at hk,fun hf=>?_⟩⟩
  unfold PRep
  right; left
  by_cases hml:m=l
  ·have e:hh - l=0:=by omega
   refine ⟨b,off,m - l,by rw[if_pos hml],by omega,fun hk=>by have:=hf hk; omega,?_⟩
   rw[e]; simp[qh]
  ·refine ⟨b,off+l*sz,m - l,?_,by omega,fun hk=>by have:=hf hk; omega,(h3.drop _).take _⟩
   rw[if_neg hml]; simp[q45]
 ·refine ⟨some a,cap,rfl,Nat.zero_le _,fun hf=>h2 hf,fun hz hm hc=>⟨fun _ hk=>by simp at hk,fun hf=>?_⟩⟩
  have:hh=0:=by omega
  have:l=0:=by omega
  subst_vars
  unfold PRep
  refine .inr (.inr ⟨rfl,by simp,a,m,?_,fun hk=>hf hk⟩)
  by_cases h0:m=0
  ·rw[if_pos h0,h0]
  ·rw[if_neg h0]; simp[Addr.add]
theorem qu9 {o:Oper} {t:TypeId} {x:Operand} {lo hi mx:Option Operand} (ho:o.op=.slice t x lo hi mx) (hin:Inv E E0 X w) (hx:TRep X w (ρ x) (ev x)) (hlo:q60 X w ρ ev lo) (hhi:q60 X w ρ ev hi) (hmx:q60 X w ρ ev mx) {eff:Eff}
  (h:aop P ρ X.σ (.slice t x lo hi mx)=some eff):Got E E0 P X w (execOp ev o) eff:=by
 simp only[aop,Option.map_eq_some_iff]at h
 obtain ⟨r,h,rfl⟩:=h
 unfold q8b at h
 split at h
 ·rename_i s h1
  rw[q1a h1]at hx
  obtain ⟨hu,_⟩:=q1s hx
  split at h
  ·rename_i hs
   split at h
   ·rename_i l hh hl hh' hm
    cases mx with
    | some _=>simp[optT]at hm
    | none =>
     split at h
     ·rename_i hle
      simp at h; subst h
      have hb:=qg1 (P:=P) (b:=false) (len:=s.size) (cap:=s.size) hlo hhi hl hh' hle.1 hle.2
      refine qn hin (u:=.string (s.extract l hh)) ?_ (q1t rfl)
      simp[execOp,ho,hu,Instr.sliceAt,Instr.slice,run_underlying (qjz hs),hb]
     ·cases h
   ·cases h
  ·cases h
 ·rename_i full n cs h1
  rw[q1a h1]at hx
  split at h
  ·rename_i e sz by_ he
   obtain ⟨i,hu,hi1,hi2,_⟩:=q4r he
   have hsz:size? P e=some sz:=by simp[size?,hi1,hi2]
   split at h
   ·rename_i l hh hl hh' hm
    cases mx with
    | some _=>simp[optT]at hm
    | none =>
     split at h
     ·rename_i hle
      simp at h; subst h
      obtain ⟨a,cap,hv,hn,hf,hp⟩:=qg0 (X:=X) (w:=w) hx (m:=0) (sz:=sz) false hle.1
      obtain ⟨a',cap',hv',_,hf',hp'⟩:=qg0 (X:=X) (w:=w) hx (m:=cap) (sz:=sz) (full && hh == n) hle.1
      rw[hv]at hv'
      obtain ⟨rfl,rfl⟩:a=a'∧cap=cap':=by simpa using hv'
      have hb:=qg1 (P:=P) (b:=true) (len:=n) (cap:=cap) hlo hhi hl hh' hle.1 (by omega)
      obtain ⟨_,hr⟩:=hp' (by omega) (by omega) (Nat.le_refl _)
      refine qn hin (u:=.slice (if cap=l then a else a.map (·.add (l*sz))) (hh - l) (cap - l)) ?_ (hr (fun hk=>by simp at hk; have:=hf hk.1; omega))
      simp[execOp,ho,hv,Instr.sliceAt,Instr.slice,run_underlying hu,hb,run_sizeOf' hsz]
     ·cases h
   ·rename_i l hh m hl hh' hm
    cases mx with
    | none=>simp[optT]at hm
    | some z =>
     simp[optT]at hm
     subst hm
     split at h
     ·rename_i m' hm'
      split at h
      ·rename_i hle
       simp at h; subst h
       obtain ⟨hsome,hle1,hle2,hle3⟩:=hle
       obtain ⟨a,cap,hv,hn,hf,hp⟩:=qg0 (X:=X) (w:=w) hx (m:=m') (sz:=sz) (hh == m') hle1
       have hs:hi.isSome=true:=by cases hi <;> simp_all [optT]
       have hb:=qw0 (P:=P) (b:=true) (len:=n) (cap:=cap) hlo hhi (hmx z rfl) hl hh' hm' hs hle1 hle2 (by omega)
       obtain ⟨_,hr⟩:=hp (by omega) (by omega) (by omega)
       refine qn hin (u:=.slice (if m'=l then a else a.map (·.add (l*sz))) (hh - l) (m' - l)) ?_ (hr (fun hk=>by simp at hk; omega))
       simp[execOp,ho,hv,Instr.sliceAt,Instr.slice,run_underlying hu,hb,run_sizeOf' hsz]
      ·cases h
     ·cases h
   ·cases h
  ·cases h
 ·rename_i id ver off len h1
  rw[q1a h1]at hx
  split at h
  ·rename_i e sz by_ cells sz' fr he hlv
   obtain ⟨i,hu,hi1,hi2,_⟩:=q4r he
   have hsz:size? P e=some sz:=by simp[size?,hi1,hi2]
   split at h
   ·rename_i l hh hl hh' hm
    cases mx with
    | some _=>simp[optT]at hm
    | none =>
     split at h
     ·rename_i hle
      simp at h; subst h
      obtain ⟨rfl,hle1,hle2⟩:=hle
      obtain ⟨hp,hob,loc,hloc,hbd,a,cap,hv,hn,hsp,hcap⟩:=q7o (X:=X) hx hlv
      have hb:=qg1 (P:=P) (b:=true) (len:=len) (cap:=cap) hlo hhi hl hh' hle1 (by omega)
      refine qn hin (u:=.slice (if cap=l then some a else (some a).map (·.add (l*sz'))) (hh - l) (cap - l)) ?_ ?_
      ·simp[execOp,ho,hv,Instr.sliceAt,Instr.slice,run_underlying hu,hb,run_sizeOf' hsz]
      ·refine ⟨rfl,hp,hx.2.2.1,fun ob e=>?_⟩
       rw[hob]at e
       obtain rfl:AObj.arr cells sz' fr=ob:=by simpa using e
       refine ⟨(hx.2.2.2 _ hob).1,fun _=>⟨loc,hloc,?_,?_⟩⟩
       ·have:(off+l*sz')+(hh - l)*sz'=off+hh*sz':=by
         rw[Nat.add_assoc,← Nat.add_mul]; congr 2; omega
        have h2:hh*sz'≤len*sz':=Nat.mul_le_mul_right _ hle2
        omega
       ·by_cases hcl:cap=l
        ·exact ⟨a,cap - l,by simp[hcl],by omega,hsp,fun hk=>by omega⟩
        ·obtain ⟨a1,a2,a3⟩:=addr_add' hsp (l*sz')
         obtain ⟨b1,b2,b3⟩:=hcap (by omega)
         refine ⟨a.add (l*sz'),cap - l,by simp[hcl],by omega,a3,fun hk=>⟨a1.trans b1,by rw[a2,b2],?_⟩⟩
         have:off+l*sz'+(cap - l)*sz'=off+cap*sz':=by
          rw[Nat.add_assoc,← Nat.add_mul]; congr 2; omega
         omega
     ·cases h
   ·cases h
  ·cases h
 ·cases h
end Abs
end Go.Proofs.YtpidpioifnnllaaGreatDoor
namespace Go.Proofs.YtpidpioifnnllaaGreatDoor
namespace Abs
open Go.RowKit
variable {E : World → Prop} {E0 : Nat} {P : Program} {X : Cx} {w : World} {ρ : Operand → TV} {ev : Operand → Value}
theorem qme {id ver off:Nat} {u:Value} (h:q2e X id ver off u) {ob:AObj} (hl:live X.σ id ver=some ob) (off':Nat):∃ l,X.loc id=some l∧u=.pointer (some ⟨l.1,off,none⟩)∧q2e X id ver off' (.pointer (some ⟨l.1,off',none⟩)):=by
 obtain ⟨hp,hob,l,hloc,hu⟩:=q5r h hl
 refine ⟨l,hloc,hu,rfl,hp,h.2.2.1,fun ob' e=>⟨(h.2.2.2 ob' e).1,fun _=>⟨l,hloc,rfl⟩⟩⟩
theorem qtx {o:Oper} {s:TypeId} {x:Operand} {f:Nat} (ho:o.op=.fieldAddr s x f) (hi:Inv E E0 X w) (hx:TRep X w (ρ x) (ev x)) {eff:Eff} (h:aop P ρ X.σ (.fieldAddr s x f)=some eff):Got E E0 P X w (execOp ev o) eff:=by
 simp only[aop]at h
 have run:∀ {fo n:Nat} {ag:Bool} {b off:Nat},field? P s f=some (fo,n,ag)→0 < n→ev x=.pointer (some ⟨b,off,none⟩)→(execOp ev o).run P w=.ok (.value (.pointer (some ⟨b,off+fo,none⟩))) w:=by
  intro fo n ag b off hf hn hu
  obtain ⟨fields,g,hus,hg,hs,_,rfl⟩:=qiz hf
  have h0:n≠0:=by omega
  simp[execOp,ho,hu,Instr.fieldAt,Instr.sureAddr,run_underlying hus,hg,fieldPlace,run_sizeOf' hs,h0,q45]
 split at h
 ·rename_i id ver off fo n ag h1 hf
  rw[q1a h1]at hx
  split at h
  ·rename_i ob hl
   split at h
   ·rename_i hn
    simp at h; subst h
    obtain ⟨l,_,hu,hr⟩:=qme (X:=X) hx hl (off+fo)
    exact qn hi (run hf hn hu) hr
   ·cases h
  ·cases h
 ·rename_i cs fo n ag h1 hf
  rw[q1a h1]at hx
  split at h
  ·rename_i hn
   simp at h; subst h
   have hx':PRep X.prot w (.pp cs) (ev x):=hx
   unfold PRep at hx'
   obtain ⟨b,o',hu,hcs⟩:=hx'
   refine qn hi (run hf hn hu) ?_
   show PRep X.prot w (.pp (cs.drop fo)) _
   unfold PRep
   exact ⟨b,o'+fo,rfl,hcs.drop fo⟩
  ·cases h
 ·cases h
theorem qm4 {cs:List AC} {us:Array Value} (hc:All2 (CRep X w) cs us.toList) {t:TypeId} {n off:Nat} {ag:Bool} (hs:size? P t=some n) (ha:isAgg? P t=some ag) {v:AV} (hr:rd cs off n ag=some v) :
  ∃ u,(part t us off).run P w=.ok u w∧q9 X w v u:=by
 unfold rd at hr
 cases ag with
 | true =>
  simp at hr
  obtain ⟨hle,rfl⟩:=hr
  refine ⟨.agg (us.extract off (off+n)),by simp[part,run_isAgg' ha,run_sizeOf' hs],_,rfl,?_⟩
  have:=(hc.drop off).take n
  simpa [Array.toList_extract,List.extract_eq_take_drop] using this
 | false =>
  simp at hr
  obtain ⟨c,hcc,rfl⟩:=hr
  obtain ⟨u,hu,hrep⟩:=hc.get off c hcc
  refine ⟨u,?_,hrep⟩
  have hu':us[off]?=some u:=by simpa using hu
  simp[part,run_isAgg' ha,hu']
theorem qtw {o:Oper} {s:TypeId} {x:Operand} {f:Nat} (ho:o.op=.field s x f) (hi:Inv E E0 X w) (hx:TRep X w (ρ x) (ev x)) {eff:Eff} (h:aop P ρ X.σ (.field s x f)=some eff):Got E E0 P X w (execOp ev o) eff:=by
 simp only[aop]at h
 split at h
 ·rename_i cs fo n ag h1 hf
  rw[h1]at hx
  simp at h
  obtain ⟨v,hv,rfl⟩:=h
  obtain ⟨us,hu,hc⟩:=hx
  obtain ⟨fields,g,hus,hg,hs,ha,rfl⟩:=qiz hf
  obtain ⟨u,hr,hrep⟩:=qm4 (P:=P) hc hs ha hv
  refine qn hi (u:=u) ?_ hrep
  simp[execOp,ho,hu,Instr.field,run_underlying hus,hg,asAgg,hr]
 ·cases h
theorem qtz {o:Oper} {t:TypeId} {x i:Operand} (ho:o.op=.indexAddr t x i) (hi:Inv E E0 X w) (hx:TRep X w (ρ x) (ev x)) (hix:TRep X w (ρ i) (ev i)) {eff:Eff} (h:aop P ρ X.σ (.indexAddr t x i)=some eff):Got E E0 P X w (execOp ev o) eff:=by
 simp only[aop,Option.bind_eq_some_iff,Option.map_eq_some_iff]at h
 obtain ⟨n,h1,r,h,rfl⟩:=h
 obtain ⟨k,hk⟩:=q77 h1
 rw[hk]at hix
 obtain ⟨hiv,_⟩:=q1s hix
 unfold q6r at h
 split at h
 ·rename_i full m cs h2
  rw[q1a h2]at hx
  split at h
  ·rename_i e sz by_ he
   split at h
   ·rename_i hb
    simp at h; subst h
    obtain ⟨inf,hu,hi1,hi2,_⟩:=q4r he
    have hsz:size? P e=some sz:=by simp[size?,hi1,hi2]
    have hx':PRep X.prot w (.sl full m cs) (ev x):=hx
    unfold PRep at hx'
    rcases hx' with ⟨_,h0,_⟩ | ⟨b,off,cap,hv,_,_,hcs⟩ | ⟨h0,_⟩
    ·omega
    rotate_left
    ·omega
    ·refine qn hi (u:=.pointer (some ⟨b,off+n.toNat*sz,none⟩)) ?_ ?_
     ·simp[execOp,ho,hv,hiv,Instr.indexAt,asIntOf,run_underlying hu,hb.1,hb.2,run_sizeOf' hsz,q45]
     ·show PRep X.prot w (.pp (cs.drop (n.toNat*sz))) _
      unfold PRep
      exact ⟨b,_,rfl,hcs.drop _⟩
   ·cases h
  ·cases h
 ·rename_i id ver off len h2
  rw[q1a h2]at hx
  split at h
  ·rename_i e sz by_ cells sz' fr he hl
   split at h
   ·rename_i hb
    obtain ⟨rfl,h0,hb⟩:=hb
    simp at h; subst h
    obtain ⟨inf,hu,hi1,hi2,_⟩:=q4r he
    have hsz:size? P e=some sz':=by simp[size?,hi1,hi2]
    obtain ⟨hp,hob,loc,hloc,hbd,a,cap,hv,hn,hsp,hcap⟩:=q7o (X:=X) hx hl
    obtain ⟨b1,b2,_⟩:=hcap (by omega)
    refine qn hi (u:=.pointer (some ⟨loc.1,off+n.toNat*sz',none⟩)) ?_ ?_
    ·have ha:a=⟨loc.1,off,none⟩:=by cases a; simp_all
     simp[execOp,ho,hv,hiv,Instr.indexAt,asIntOf,run_underlying hu,hb.1,hb.2,run_sizeOf' hsz,ha,q45]
    ·exact ⟨rfl,hp,hx.2.2.1,fun ob e=>⟨(hx.2.2.2 ob e).1,fun _=>⟨loc,hloc,rfl⟩⟩⟩
   ·cases h
  ·cases h
 ·rename_i id ver off h2
  rw[q1a h2]at hx
  split at h
  ·rename_i m sz ag ob he hl
   split at h
   ·rename_i hb
    simp at h; subst h
    obtain ⟨e,hu,hsz,_⟩:=qcz he
    obtain ⟨l,_,hv,hr⟩:=qme (X:=X) hx hl (off+n.toNat*sz)
    refine qn hi (u:=.pointer (some ⟨l.1,off+n.toNat*sz,none⟩)) ?_ hr
    simp[execOp,ho,hv,hiv,Instr.indexAt,asIntOf,Instr.sureAddr,run_underlying hu,hb.1,hb.2,run_sizeOf' hsz,q45]
   ·cases h
  ·cases h
 ·rename_i cs h2
  rw[q1a h2]at hx
  split at h
  ·rename_i m sz ag he
   split at h
   ·rename_i hb
    simp at h; subst h
    obtain ⟨e,hu,hsz,_⟩:=qcz he
    have hx':PRep X.prot w (.pp cs) (ev x):=hx
    unfold PRep at hx'
    obtain ⟨b,off,hv,hcs⟩:=hx'
    refine qn hi (u:=.pointer (some ⟨b,off+n.toNat*sz,none⟩)) ?_ ?_
    ·simp[execOp,ho,hv,hiv,Instr.indexAt,asIntOf,Instr.sureAddr,run_underlying hu,hb.1,hb.2,run_sizeOf' hsz,q45]
    ·show PRep X.prot w (.pp (cs.drop (n.toNat*sz))) _
     unfold PRep
     exact ⟨b,_,rfl,hcs.drop _⟩
   ·cases h
  ·cases h
 ·cases h
theorem qty {o:Oper} {t:TypeId} {x i:Operand} (ho:o.op=.index t x i) (hi:Inv E E0 X w) (hx:TRep X w (ρ x) (ev x)) (hix:TRep X w (ρ i) (ev i)) {eff:Eff} (h:aop P ρ X.σ (.index t x i)=some eff):Got E E0 P X w (execOp ev o) eff:=by
 simp only[aop,Option.bind_eq_some_iff,Option.map_eq_some_iff]at h
 obtain ⟨n,h1,r,h,rfl⟩:=h
 obtain ⟨k,hk⟩:=q77 h1
 rw[hk]at hix
 obtain ⟨hiv,_⟩:=q1s hix
 unfold qa6 at h
 split at h
 ·rename_i s h2
  rw[h2]at hx
  obtain ⟨hu,_⟩:=q1s hx
  split at h
  ·rename_i hs
   split at h
   ·rename_i hb
    simp at h; subst h
    refine qn hi (u:=.int .u8 ((s[n.toNat]'(by omega)).toNat)) ?_ (q1t rfl)
    have hlt:n.toNat < s.size:=by omega
    have hg:s[n.toNat]?=some s[n.toNat]:=by simp[hlt]
    simp[execOp,ho,hu,hiv,Instr.index,asIntOf,run_underlying (qjz hs),hb.1,hg]
   ·cases h
  ·cases h
 ·rename_i cs h2
  rw[h2]at hx
  split at h
  ·rename_i m sz ag he
   split at h
   ·rename_i hb
    simp at h
    obtain ⟨v,hv,rfl⟩:=h
    obtain ⟨us,hu,hc⟩:=hx
    obtain ⟨e,hue,hsz,ha⟩:=qcz he
    obtain ⟨u,hr,hrep⟩:=qm4 (P:=P) hc hsz ha hv
    refine qn hi (u:=u) ?_ hrep
    simp[execOp,ho,hu,hiv,Instr.index,asIntOf,run_underlying hue,hb.1,hb.2,run_sizeOf' hsz,hr]
   ·cases h
  ·cases h
 ·cases h
theorem qtv {o:Oper} {x:Operand} {i:Nat} (ho:o.op=.extract x i) (hi:Inv E E0 X w) (hx:TRep X w (ρ x) (ev x)) {eff:Eff} (h:aop P ρ X.σ (.extract x i)=some eff):Got E E0 P X w (execOp ev o) eff:=by
 simp only[aop]at h
 split at h
 ·rename_i vs h1
  rw[h1]at hx
  simp at h
  obtain ⟨v,hv,rfl⟩:=h
  obtain ⟨us,hu,hc⟩:=hx
  obtain ⟨u,hg,hr⟩:=hc.get i v hv
  have hg':us[i]?=some u:=by simpa using hg
  exact qn hi (u:=u) (by simp[execOp,ho,hu,Instr.extract,hg']) hr
 ·cases h
theorem qb4 {v:Value} (h:q4a v=true):v=.slice none 0 0:=by
 unfold q4a at h; split at h <;> first | rfl | cases h
theorem op_len {o:Oper} {args:Array Operand} {tys:Array TypeId} (ho:o.op=.call { callee:=.builtin .len,args:=args,argTypes:=tys }) (hi:Inv E E0 X w) (hx:∀ x ∈ args.toList,TRep X w (ρ x) (ev x)) {eff:Eff}
  (h:aop P ρ X.σ (.call { callee:=.builtin .len,args:=args,argTypes:=tys })=some eff):Got E E0 P X w (execOp ev o) eff:=by
 simp only[aop]at h
 split at h
 ·rename_i x t ha ht
  obtain rfl:args=#[x]:=by cases args; simp at ha; simp[ha]
  obtain rfl:tys=#[t]:=by cases tys; simp at ht; simp[ht]
  simp at h
  obtain ⟨n,hn,rfl⟩:=h
  have hx:=hx x (by simp)
  have run:∀ (d:TypeDesc),P.underlying t=some d→(Builtin.len_ #[t] o.type #[ev x]).run P w=.ok (goInt n) w→(execOp ev o).run P w=.ok (.value (goInt n)) w:=by
   intro d _ hr
   simp[execOp,ho,resolve,invoke,builtin,hr]
  unfold q89 at hn
  split at hn
  ·rename_i s hu h1
   simp at hn; subst hn
   rw[q1a h1]at hx
   obtain ⟨hv,_⟩:=q1s hx
   exact qn hi (run _ hu (by simp[Builtin.len_,run_underlying hu,hv])) (q1t rfl)
  ·rename_i e v hu h1
   rw[q1a h1]at hx
   obtain ⟨hv,_⟩:=q1s hx
   split at hn
   ·rename_i hnil
    simp at hn; subst hn
    rw[qb4 hnil]at hv
    exact qn hi (run _ hu (by simp[Builtin.len_,run_underlying hu,hv])) (q1t rfl)
   ·cases hn
  ·rename_i e full m cs hu h1
   simp at hn; subst hn
   rw[q1a h1]at hx
   have hx':PRep X.prot w (.sl full m cs) (ev x):=hx
   unfold PRep at hx'
   rcases hx' with ⟨hv,rfl,_⟩ | ⟨b,off,cap,hv,_⟩ | ⟨rfl,_,a,cap,hv,_⟩
   ·exact qn hi (run _ hu (by simp[Builtin.len_,run_underlying hu,hv])) (q1t rfl)
   ·exact qn hi (run _ hu (by simp[Builtin.len_,run_underlying hu,hv])) (q1t rfl)
   ·exact qn hi (run _ hu (by simp[Builtin.len_,run_underlying hu,hv])) (q1t rfl)
  ·rename_i e id ver off len hu h1
   rw[q1a h1]at hx
   split at hn
   ·rename_i cells sz fr hl
    simp at hn; subst hn
    obtain ⟨_,_,_,_,_,a,cap,hv,_⟩:=q7o (X:=X) hx hl
    exact qn hi (run _ hu (by simp[Builtin.len_,run_underlying hu,hv])) (q1t rfl)
   ·rename_i sz hl
    obtain ⟨_,_,hv,rfl⟩:=qbn (X:=X) hx hl
    simp at hn; subst hn
    exact qn hi (run _ hu (by simp[Builtin.len_,run_underlying hu,hv])) (q1t rfl)
   ·cases hn
  ·cases hn
 ·cases h
end Abs
end Go.Proofs.YtpidpioifnnllaaGreatDoor
namespace Go.Proofs.YtpidpioifnnllaaGreatDoor
namespace Abs
open Go.RowKit
variable {E : World → Prop} {E0 : Nat} {P : Program} {X : Cx} {w : World} {ρ : Operand → TV} {ev : Operand → Value}
theorem qjb:∀ (l:List Value) (k off:Nat) (us:Array Value),((l.zipIdx k).foldl (fun cs (x:Value×Nat)=>cs.setIfInBounds (off+x.2) x.1) us).toList =
  if off+k+l.length≤us.size then us.toList.take (off+k)++l++us.toList.drop (off+k+l.length) else ((l.zipIdx k).foldl (fun cs (x:Value×Nat)=>cs.setIfInBounds (off+x.2) x.1) us).toList
 | [],k,off,us=>by
  simp only[List.zipIdx_nil,List.foldl_nil,List.length_nil,Nat.add_zero,List.append_nil,List.take_append_drop,ite_self]
 | v::r,k,off,us=>by
  split
  ·rename_i h
   rw[List.zipIdx_cons,List.foldl_cons]
   have ih:=qjb r (k+1) off (us.setIfInBounds (off+k) v)
   simp only at ih ⊢
   rw[ih,if_pos (by simp at h ⊢; omega)]
   simp only[Array.toList_setIfInBounds,List.length_cons]
   have hlt:off+k < us.toList.length:=by simp at h ⊢; omega
   rw[show off+(k+1)=off+k+1 by omega]
   rw[List.take_succ_eq_append_getElem (by simpa using hlt)]
   rw[List.getElem_set_self]
   rw[List.take_set_of_le (Nat.le_refl _)]
   rw[List.drop_set_of_lt (by omega)]
   simp[Nat.add_assoc,Nat.add_comm 1]
  ·rfl
theorem qw4 {cs vs cs':List AC} {off:Nat} (h:splice cs off vs=some cs') {us xs:List Value} (hc:All2 (CRep X w) cs us) (hv:All2 (CRep X w) vs xs):off+xs.length≤us.length∧All2 (CRep X w) cs' (us.take off++xs++us.drop (off+xs.length)):=by
 unfold splice at h
 split at h
 ·rename_i hle
  simp only[Option.some.injEq]at h; subst h
  rw[hc.length,hv.length]at hle
  refine ⟨hle,?_⟩
  rw[hv.length]
  exact ((hc.take _).append hv).append (hc.drop _)
 ·cases h
theorem q8s {pl pl':Nat→Option (Nat×Nat)} (hpl:pl=pl'):∀ {l:List (Nat×AV)} {m:List (Nat×Value)} {cs cs':List AC} {us:Array Value},q67 pl cs l=some cs'→All2 (CRep X w) cs us.toList→All2 (fun (x:Nat×AV) (y:Nat×Value)=>x.1=y.1∧q9 X w x.2 y.2) l m →
  ∃ us',Instr.fill pl' us m=some us'∧All2 (CRep X w) cs' us'.toList
 | [],[],cs,cs',us,h,hc,_=>by
  simp[q67]at h; subst h
  exact ⟨us,rfl,hc⟩
 | (i,v)::l,(j,u)::m,cs,cs',us,h,hc,hl=>by
  obtain ⟨⟨hij,hv⟩,hl⟩:=hl
  simp only at hij hv
  subst hij
  subst hpl
  unfold q67 at h
  split at h
  ·rename_i off sz hp
   split at h
   ·rename_i hsz
    simp only[Option.bind_eq_some_iff]at h
    obtain ⟨cs1,h1,h2⟩:=h
    obtain ⟨hvc,_⟩:=hv.cells hsz.2
    obtain ⟨hle,hs⟩:=qw4 h1 hc hvc
    have hf:=qjb u.cells.toList 0 off us
    rw[if_pos (by simpa using hle)]at hf
    simp only[Nat.add_zero]at hf
    rw[← hf]at hs
    obtain ⟨us',g1,g2⟩:=q8s rfl h2 hs hl
    refine ⟨us',?_,g2⟩
    have e1:u.cells.size=sz:=by have:=hvc.length; simp at this; omega
    unfold Instr.fill
    rw[hp]
    simp only
    rw[if_neg (by simp at hle ⊢; omega)]
    rw[← g1]
    congr 1
    rw[← Array.foldl_toList]
    simp[Array.toList_zipIdx]
   ·cases h
  ·cases h
 | [],_::_,_,_,_,_,_,h=>h.elim
 | _::_,[],_,_,_,_,_,h=>h.elim
theorem qbp:∀ {l:List (Nat×Operand)} {m:List (Nat×AV)},(∀ x ∈ l,TRep X w (ρ x.2) (ev x.2))→q41 ρ l=some m→All2 (fun (x:Nat×AV) (y:Nat×Value)=>x.1=y.1∧q9 X w x.2 y.2) m (l.map fun x=>(x.1,ev x.2))
 | [],m,_,h=>by simp[q41]at h; subst h; trivial
 | (i,x)::r,m,hr,h=>by
  simp only[q41,Option.bind_eq_some_iff,Option.map_eq_some_iff]at h
  obtain ⟨v,h1,l,h2,rfl⟩:=h
  have h0:=hr (i,x) (by simp)
  simp only at h0
  rw[q64 h1]at h0
  exact ⟨⟨rfl,h0⟩,qbp (fun y hy=>hr y (by simp[hy])) h2⟩
theorem qm6 (w:World):∀ {fs:List Field} {l:List (Nat×Nat)},q9c P fs=some l→(fs.mapM fun f=>Prod.mk f.offset <$> sizeOf f.type:Sem (List (Nat×Nat))).run P w=.ok l w
 | [],l,h=>by simp[q9c]at h; subst h; simp
 | f::r,l,h=>by
  unfold q9c at h
  split at h
  ·rename_i n l' h1 h2
   simp at h; subst h
   have ih:=qm6 w h2
   simp only[List.mapM_cons,Sem.run_bind,Sem.run_map,run_sizeOf' h1,Result.andThen_ok,Sem.run_pure,ih]
  ·cases h
theorem qtq {o:Oper} {t:TypeId} {parts:Array (Nat×Operand)} (ho:o.op=.build t parts) (hi:Inv E E0 X w) (hx:∀ x ∈ parts.toList,TRep X w (ρ x.2) (ev x.2)) {eff:Eff} (h:aop P ρ X.σ (.build t parts)=some eff):Got E E0 P X w (execOp ev o) eff:=by
 simp only[aop]at h
 split at h
 ·rename_i z l pl hz hl hp
  simp only[Option.map_eq_some_iff]at h
  obtain ⟨cs,hf,rfl⟩:=h
  obtain ⟨inf,v,hi1,hv,hzv⟩:=q6n hz
  have hzr:=q4z (X:=X) (w:=w) v
  rw[← hzv]at hzr
  obtain ⟨us,rfl,hc⟩:=hzr
  have hpr:=qbp hx hl
  unfold place? at hp
  split at hp
  ·rename_i fs hu
   simp at hp
   obtain ⟨pls,hpl,rfl⟩:=hp
   obtain ⟨us',h1,h2⟩:=q8s (pl':=fun i=>pls[i]?) rfl hf hc hpr
   refine qn hi (u:=.agg us') ?_ ⟨us',rfl,h2⟩
   simp[execOp,ho,Instr.build,q7u hi1 hv,run_underlying hu,Value.cells,Array.mapM_eq_mapM_toList,qm6 w hpl]
   rw[h1]
   simp
  ·rename_i n e hu
   simp at hp
   obtain ⟨s,hs,rfl⟩:=hp
   obtain ⟨us',h1,h2⟩:=q8s (pl':=fun i=>some (i*s,s)) rfl hf hc hpr
   refine qn hi (u:=.agg us') ?_ ⟨us',rfl,h2⟩
   simp[execOp,ho,Instr.build,q7u hi1 hv,run_underlying hu,Value.cells,run_sizeOf' hs]
   rw[h1]
   simp
  ·cases hp
 ·cases h
def Marked (σ:Sto) (id:Nat):Prop:=∀ cells sz fr,σ[id]?=some (some (.arr cells sz fr))→cells.length≤fr
theorem qe1 (hi:Inv E E0 X w) {c:AC} {u:Value} {p:PV} (h:frzC X.σ c=some p) (hc:CRep X w c u) (hm:∀ id ver off len,c=.own id ver off len→Marked X.σ id):PRep X.prot w p u:=by
 unfold frzC at h
 split at h
 ·rename_i v
  simp at h
  have hc':PRep X.prot w (.sc v) u:=hc
  unfold PRep at hc'
  split at h
  ·rename_i hn
   subst h
   unfold PRep
   exact .inl ⟨by rw[hc'.1,qb4 hn],rfl,rfl⟩
  ·subst h; exact hc
 ·rename_i full n cs
  simp at h; subst h
  have hc':PRep X.prot w (.sl full n cs) u:=hc
  unfold PRep at hc' ⊢
  rcases hc' with h | ⟨b,off,cap,h1,h2,h3,h4⟩ | ⟨h1,h2,a,cap,h3,_⟩
  ·exact .inl h
  ·exact .inr (.inl ⟨b,off,cap,h1,h2,by simp,h4⟩)
  ·exact .inr (.inr ⟨h1,h2,a,cap,h3,by simp⟩)
 ·simp at h; subst h; exact hc
 ·rename_i id ver off len
  split at h
  ·rename_i cells sz fr e
   split at h
   ·rename_i hv
    simp at h; subst h
    have hl:live X.σ id ver=some (.arr cells sz fr):=by simp[live,e,AObj.ver,hv]
    obtain ⟨hp,hob,l,hloc,hbd,a,cap,hu,hn,hsp,hcap⟩:=q7o (X:=X) hc hl
    have hfr:=hm _ _ _ _ rfl cells sz fr e
    unfold PRep
    right; left
    by_cases h0:cap=0
    ·have:len=0:=by omega
     subst this
     refine ⟨a.block,a.off,cap,by rw[hu]; cases a; simp_all,hn,by simp,by simp[qh]⟩
    ·obtain ⟨b1,b2,_⟩:=hcap h0
     refine ⟨l.1,off,cap,by rw[hu]; cases a; simp_all,hn,by simp,qh.of_get fun i c hic=>?_⟩
     rw[List.getElem?_take]at hic
     split at hic
     ·rename_i hlt
      rw[List.getElem?_drop]at hic
      obtain ⟨u',h1,h2⟩:=q7m hi hob hp hloc (off+i) (.pv c) (by simp[AObj.cells,hic])
      have hlen:off+i < cells.length:=by
       rcases Nat.lt_or_ge (off+i) cells.length with h | h
       ·exact h
       ·rw[List.getElem?_eq_none h]at hic; cases hic
      obtain ⟨l',hl',hB,cs0,T0,hg0,_,_⟩:=hi.ob id _ hob hp rfl
      rw[hloc]at hl'
      obtain rfl:l=l':=by simpa using hl'
      refine ⟨u',by simpa using h1,.inr ⟨hB.resolve_right fun q=>by simp[AObj.two]at q,?_,fun id' ob' l2 e' hp' hl2 hb2=>?_⟩,h2⟩
      ·rw[hi.hs]
       rcases Nat.lt_or_ge l.1 w.heap.size with h | h
       ·exact h
       ·simp[Array.getElem?_eq_none h]at hg0
      ·have hid:=hi.inj id' id ob' _ l2 l e' hob hp' hp hl2 hloc hb2
       subst hid
       rw[hob]at e'
       obtain rfl:AObj.arr cells sz fr=ob':=by simpa using e'
       show off+i < fr
       omega
     ·cases hic
   ·cases h
  ·rename_i sz e
   split at h
   ·rename_i hv
    simp at h; subst h
    obtain ⟨rfl,rfl⟩:=hv
    obtain ⟨_,_,hu,_⟩:=qbn (X:=X) hc (sz:=sz) (by simp[live,e,AObj.ver])
    unfold PRep
    exact .inl ⟨hu,rfl,rfl⟩
   ·cases h
  ·cases h
 ·cases h
theorem q73 (hi:Inv E E0 X w):∀ {cs:List AC} {us:List Value} {ps:List PV},frzL X.σ cs=some ps→All2 (CRep X w) cs us→(∀ c ∈ cs,∀ id ver off len,c=.own id ver off len→Marked X.σ id)→All2 (PRep X.prot w) ps us
 | [],[],ps,h,_,_=>by simp[frzL]at h; subst h; trivial
 | c::cs,u::us,ps,h,hc,hm=>by
  simp only[frzL,Option.bind_eq_some_iff,Option.map_eq_some_iff]at h
  obtain ⟨p,h1,l,h2,rfl⟩:=h
  exact ⟨qe1 hi h1 hc.1 (hm c (by simp)),q73 hi h2 hc.2 fun d hd=>hm d (by simp[hd])⟩
 | [],_::_,_,_,h,_=>h.elim
 | _::_,[],_,_,h,_=>h.elim
structure Frozen (σ σ':Sto):Prop where
 len:σ'.length=σ.length
 frz:∀ c,frzC σ' c=frzC σ c
 marked:∀ id,Marked σ id→Marked σ' id
theorem Frozen.refl (σ:Sto):Frozen σ σ:=⟨rfl,fun _=>rfl,fun _ h=>h⟩
theorem Frozen.trans {σ σ' σ'':Sto} (h:Frozen σ σ') (k:Frozen σ' σ''):Frozen σ σ'':=⟨k.len.trans h.len,fun c=>(k.frz c).trans (h.frz c),fun id m=>k.marked id (h.marked id m)⟩
theorem q8t {σ σ':Sto} (h:Frozen σ σ'):∀ cs,frzL σ' cs=frzL σ cs
 | []=>rfl
 | c::r=>by simp only[frzL,h.frz,q8t h r]
theorem qt6 (hi:Inv E E0 X w) (c:AC) {u:Value} (hc:CRep X w c u) :
  Inv E E0 { X with σ:=q40 X.σ c } w∧Ext X w { X with σ:=q40 X.σ c } w∧Frozen X.σ (q40 X.σ c)∧∀ id ver off len,c=.own id ver off len→Marked (q40 X.σ c) id:=by
 cases c with
 | own id ver off len =>
  unfold q40
  simp only
  split
  ·rename_i cells sz fr e
   have hp:=hc.2.1
   obtain ⟨l,hl,hB,cs,T,hg,hz,hr⟩:=hi.ob id _ e hp rfl
   have hx:=q85 (w':=w) hi (id:=id) (ob:=.arr cells sz fr) (ob':=.arr cells sz (max fr cells.length)) e hp hl (Nat.le_refl _) rfl (fun _=>rfl) (Nat.le_max_left _ _) (BelowO.refl _ _ _) (fun _ _ _=>rfl)
   refine ⟨q86 hi e hp hl rfl hx hi.env rfl (fun _ _=>rfl) cs T hg hz (fun i c hic=>?_),hx,⟨by simp,fun c=>?_,fun id' hm cells' sz' fr' e'=>?_⟩,fun id' ver' off' len' hid cells' sz' fr' e'=>?_⟩
   ·obtain ⟨u',h1,h2⟩:=hr i c hic
    exact ⟨u',h1,CRep.ext hx h2⟩
   ·cases c with
    | own id' ver' off' len' =>
     by_cases hid:id=id'
     ·subst hid
      have hlt:id < X.σ.length:=hc.2.2.1
      have e2:(X.σ.set id (some (.arr cells sz (max fr cells.length))))[id]?=some (some (.arr cells sz (max fr cells.length))):=by rw[List.getElem?_set_self hlt]
      unfold frzC
      simp only
      rw[e2,e]
     ·have e2:(X.σ.set id (some (.arr cells sz (max fr cells.length))))[id']?=X.σ[id']?:=List.getElem?_set_ne hid
      unfold frzC
      simp only
      rw[e2]
    | pv x=>cases x <;> rfl
    | _=>rfl
   ·rcases q1p e' with ⟨rfl,h1⟩ | ⟨_,h1⟩
    ·simp at h1
     obtain ⟨rfl,rfl,rfl⟩:=h1
     exact Nat.le_max_right _ _
    ·exact hm _ _ _ h1
   ·simp at hid
    obtain ⟨rfl,_,_,_⟩:=hid
    rcases q1p e' with ⟨_,h1⟩ | ⟨h1,_⟩
    ·simp at h1
     obtain ⟨rfl,rfl,rfl⟩:=h1
     exact Nat.le_max_right _ _
    ·exact absurd rfl h1
  ·rename_i hne
   refine ⟨hi,Ext.refl _ _,Frozen.refl _,fun id' _ _ _ hid cells' sz' fr' e'=>?_⟩
   simp at hid
   obtain ⟨rfl,_⟩:=hid
   exact absurd e' (hne _ _ _)
 | _=>exact ⟨hi,Ext.refl _ _,Frozen.refl _,fun _ _ _ _ h=>by cases h⟩
theorem q97:∀ (cs:List AC) {us:List Value} {X:Cx},Inv E E0 X w→All2 (CRep X w) cs us →
  Inv E E0 { X with σ:=q2u X.σ cs } w∧Ext X w { X with σ:=q2u X.σ cs } w∧Frozen X.σ (q2u X.σ cs)∧∀ c ∈ cs,∀ id ver off len,c=.own id ver off len→Marked (q2u X.σ cs) id
 | [],us,X,hi,_=>⟨hi,Ext.refl _ _,Frozen.refl _,fun _ h=>by simp at h⟩
 | c::r,[],X,_,h=>h.elim
 | c::r,u::us,X,hi,h=>by
  obtain ⟨h1,h2,h3,h4⟩:=qt6 hi c h.1
  obtain ⟨k1,k2,k3,k4⟩:=q97 r h1 (h.2.imp fun _ _=>CRep.ext h2)
  refine ⟨k1,h2.trans k2,h3.trans k3,fun d hd id ver off len e=>?_⟩
  rcases List.mem_cons.1 hd with rfl | hd
  ·exact k3.marked _ (h4 id ver off len e)
  ·exact k4 d hd id ver off len e
theorem qbk {σ:Sto}:∀ {cs:List AC},cs.any AC.owns=false→q2u σ cs=σ
 | [],_=>rfl
 | c::r,h=>by
  simp only[List.any_cons,Bool.or_eq_false_iff]at h
  have:q40 σ c=σ:=by cases c <;> first | rfl | simp[AC.owns]at h
  rw[q2u,this]
  exact qbk h.2
end Abs
end Go.Proofs.YtpidpioifnnllaaGreatDoor
