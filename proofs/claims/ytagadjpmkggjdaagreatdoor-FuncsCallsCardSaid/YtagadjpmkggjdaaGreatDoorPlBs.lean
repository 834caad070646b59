import Derived.Test.YtagadjpmkggjdaaGreatDoorAbsY
import Derived.Test.YtagadjpmkggjdaaGreatDoorFnZ
noncomputable section
namespace Go.Proofs.YtagadjpmkggjdaaGreatDoor
namespace Abs
open Go.RowKit
theorem q9 {α:Type} (l:List α) (i:Nat):idx l (i:Int)=l[i]?:=by simp[idx]
theorem qg {i n:Nat} (h:i<n) (hn:n<=9223372036854775807):IntKind.i64.wrap ((i:Int)+1)=((i+1:Nat):Int):=qgg (by omega)
theorem q5f {α:Type} {by_:Nat} {xs ys:List α} (hb:0<by_) (h:(xs.length+ys.length)*by_<=140737488355328):app by_ xs ys=some (xs++ys):=by
 have h2:xs.length+ys.length<=9223372036854775807:=by
  have:=Nat.le_mul_of_pos_right (xs.length+ys.length) hb
  omega
 unfold app
 rw[if_pos ⟨h,h2⟩]
theorem qtu {α A O St:Type} (l:List α) (F:Nat->A->St) {body:St->Option (St⊕O)} (spec:A->List α->O) (Q:A->List α->Prop)
  (hnil:∀a,Q a []->body (F l.length a)=some (.inr (spec a [])))
  (hcons:∀i x r a,i<l.length->l[i]?=some x->l.drop i=x::r->Q a (x::r)->(∃a',Q a' r/\body (F i a)=some (.inl (F (i+1) a'))/\spec a (x::r)=spec a' r)\/body (F i a)=some (.inr (spec a (x::r)))) :
  ∀i a,i<=l.length->Q a (l.drop i)->q7 body (F i a)=some (spec a (l.drop i)):=by
 have key:∀n i a,l.length-i=n->i<=l.length->Q a (l.drop i)->q7 body (F i a)=some (spec a (l.drop i)):=by
  intro n
  induction n with
  | zero =>
   intro i a hn hi hq
   obtain rfl:i=l.length:=by omega
   rw[List.drop_length]at hq ⊢
   exact q2c (hnil a hq)
  | succ n ih =>
   intro i a hn hi hq
   have hlt:i<l.length:=by omega
   have hd:=List.drop_eq_getElem_cons hlt
   rw[hd]at hq ⊢
   rcases hcons i _ _ a hlt (gE_ hlt) hd hq with ⟨a',h1,h2,h3⟩|h
   .rw[q4u h2,h3]
    exact ih (i+1) a' (by omega) (by omega) h1
   .exact q2c h
 exact fun i a hi hq=>key _ i a rfl hi hq
theorem qt {α A O St:Type} (l:List α) (F:Nat->A->St) {body:St->Option (St⊕O)} (spec:A->List α->O) (Q:A->List α->Prop) {s0:St} {a:A} (h0:s0=F 0 a) (hq:Q a l)
  (hnil:∀a,Q a []->body (F l.length a)=some (.inr (spec a [])))
  (hcons:∀i x r a,i<l.length->l[i]?=some x->l.drop i=x::r->Q a (x::r)->(∃a',Q a' r/\body (F i a)=some (.inl (F (i+1) a'))/\spec a (x::r)=spec a' r)\/body (F i a)=some (.inr (spec a (x::r)))) :
  q7 body s0=some (spec a l):=by
 rw[h0]
 have:=qtu l F spec Q hnil hcons 0 a (Nat.zero_le _) hq
 rwa [List.drop_zero]at this
theorem q1w {St O:Type} {body:St->Option (St⊕O)} (I:St->Prop) (μ:St->Nat) (R:O->Prop)
  (step:∀s,I s->(∃s',body s=some (.inl s')/\I s'/\μ s'<μ s)\/∃q,body s=some (.inr q)/\R q):∀s,I s->∃q,q7 body s=some q/\R q:=by
 have key:∀n s,μ s<n->I s->∃q,q7 body s=some q/\R q:=by
  intro n
  induction n with
  | zero=>intro s h;omega
  | succ n ih =>
   intro s h hi
   rcases step s hi with ⟨s',h1,h2,h3⟩|⟨q,h1,h2⟩
   .rw[q4u h1];exact ih s' (by omega) h2
   .exact ⟨q,q2c h1,h2⟩
 exact fun s hi=>key _ s (Nat.lt_succ_self _) hi
open Go.RowKit
def hasB (l:List ByteArray) (v:ByteArray):Bool:=l.any fun x=>decide (v=x)
theorem q52 {l:List ByteArray} {v:ByteArray}:hasB l v=true↔v∈l:=by
 unfold hasB
 rw[List.any_eq_true]
 constructor
 .rintro ⟨x,h1,h2⟩;rw[of_decide_eq_true h2];exact h1
 .intro h;exact ⟨v,h,by simp⟩
theorem index_spec (l:List ByteArray) (v:ByteArray) (hl:l.length<=9223372036854775807):∃n:Int,gQ90 l v=some n/\decide (n >= 0)=hasB l v:=by
 have h:=q1w (body:=gQ91 l v) (fun s=>∃i:Nat,s=(i:Int)/\i<=l.length/\hasB (l.drop i) v=hasB l v) (fun s=>l.length-s.toNat) (fun n=>decide (n >= 0)=hasB l v) (by
  rintro s ⟨i,rfl,hi,hh⟩
  rcases Nat.eq_or_lt_of_le hi with h0|h0
  .subst h0
   rw[List.drop_length]at hh
   exact .inr ⟨-1,by simp[gQ91],by rw[←hh];rfl⟩
  .have hI:idx l (i:Int)=some l[i]:=by rw[q9];exact gE_ h0
   rw[List.drop_eq_getElem_cons h0]at hh
   have hc:hasB (l[i]::l.drop (i+1)) v=(decide (v=l[i]) || hasB (l.drop (i+1)) v):=rfl
   rw[hc]at hh
   by_cases he:v=l[i]
   .refine .inr ⟨(i:Int),by simp[gQ91,hI,h0,he],?_⟩
    rw[←hh,dT_ he,Bool.true_or];simp
   .refine .inl ⟨((i+1:Nat):Int),by simp[gQ91,hI,h0,he,qg h0 hl],⟨i+1,rfl,h0,?_⟩,by omega⟩
    rw[←hh,dF_ he,Bool.false_or]) 0 ⟨0,rfl,Nat.zero_le _,by simp⟩
 exact h
theorem qdi (l:List ByteArray) (v:ByteArray) (hl:l.length<=9223372036854775807):gQ8v l v=some (hasB l v):=by
 obtain ⟨n,h1,h2⟩:=index_spec l v hl
 unfold gQ8v
 rw[h1,oB_,h2]
theorem qio (a b:List ByteArray) (ha:a.length<=9223372036854775807):gQ8x a b=some (decide (a=b)):=by
 unfold gQ8x
 by_cases hl:a.length=b.length
 .have h:=q1w (body:=gQ8y a b) (fun s=>∃i:Nat,s=(i:Int)/\i<=a.length/\a.take i=b.take i) (fun s=>a.length-s.toNat) (fun q=>q=decide (a=b)) (by
   rintro s ⟨i,rfl,hi,hh⟩
   rcases Nat.eq_or_lt_of_le hi with h0|h0
   .subst h0
    refine .inr ⟨true,by simp[gQ8y],?_⟩
    rw[List.take_length,hl,List.take_length]at hh
    simp[hh]
   .have h1:i<b.length:=by omega
    have hI:idx a (i:Int)=some a[i]:=by rw[q9];exact gE_ h0
    have hJ:idx b (i:Int)=some b[i]:=by rw[q9];exact gE_ h1
    by_cases he:a[i]=b[i]
    .refine .inl ⟨((i+1:Nat):Int),by simp[gQ8y,hI,hJ,h0,he,qg h0 ha],⟨i+1,rfl,h0,?_⟩,by omega⟩
     rw[List.take_succ_eq_append_getElem h0,List.take_succ_eq_append_getElem h1,hh,he]
    .refine .inr ⟨false,by simp[gQ8y,hI,hJ,h0,he],?_⟩
     have:a≠b:=fun k=>he (by subst k;rfl)
     simp[this]) 0 ⟨0,rfl,Nat.zero_le _,by simp⟩
  obtain ⟨q,h1,rfl⟩:=h
  simp[hl,h1]
 .have h1:a≠b:=fun k=>hl (by rw[k])
  have h2:¬(a.length:Int)=b.length:=by omega
  simp[h1,h2]
theorem qtj (x y:ByteArray):gQ00 x y=some (Op.bytesLess x.toList y.toList):=by simp[gQ00,gQ02]
theorem mid_eq {i j:Nat} (h:i+j<=9223372036854775807):IntKind.i64.wrap (Int.fdiv (IntKind.u64.wrap (IntKind.i64.wrap ((i:Int)+j))) (2 ^ (min (1:Int).toNat IntKind.u64.bits)))=(((i+j) / 2:Nat):Int):=by
 have h1:IntKind.i64.wrap ((i:Int)+j)=(i:Int)+j:=qy (by omega) (by omega)
 have h2:IntKind.u64.wrap ((i:Int)+j)=(i:Int)+j:=by
  unfold IntKind.wrap
  simp only[IntKind.bits,IntKind.signed]
  simp
  omega
 have h3:(2:Int) ^ (min (1:Int).toNat IntKind.u64.bits)=2:=by decide
 rw[h1,h2,h3]
 rw[show Int.fdiv ((i:Int)+j) 2=(((i+j) / 2:Nat):Int) by rw[Int.fdiv_eq_ediv_of_nonneg _ (by omega)];omega]
 exact qy (by omega) (by omega)
def Rising (l:List ByteArray):Prop:=∀i j:Nat,i<j->∀a b:ByteArray,l[i]?=some a->l[j]?=some b->Op.bytesLess a.toList b.toList=true
theorem q4k:∀l:List UInt8,Op.bytesLess l l=false
 | []=>rfl
 | x::r=>by simp[Op.bytesLess,q4k r]
theorem q5s:∀{a b c:List UInt8},Op.bytesLess a b=true->Op.bytesLess b c=true->Op.bytesLess a c=true
 | [],[],_,h,_=>by simp[Op.bytesLess]at h
 | _::_,[],_,h,_=>by simp[Op.bytesLess]at h
 | _,_::_,[],_,h=>by simp[Op.bytesLess]at h
 | [],_::_,_::_,_,_=>by simp[Op.bytesLess]
 | x::a,y::b,z::c,h,k=>by
  simp only[Op.bytesLess,Bool.or_eq_true,Bool.and_eq_true,decide_eq_true_eq,beq_iff_eq]at h k ⊢
  rcases h with h|⟨rfl,h⟩
  .rcases k with k|⟨rfl,k⟩
   .exact .inl (UInt8.lt_trans h k)
   .exact .inl h
  .rcases k with k|⟨rfl,k⟩
   .exact .inl k
   .exact .inr ⟨rfl,q5s h k⟩
theorem qmw (l:List ByteArray) (v:ByteArray) (hl:l.length*2<=9223372036854775807) (hr:Rising l) :
  ∃q:Int×Bool,gQ8s l v=some q/\0<=q.1/\q.1<=l.length/\(q.2=true->l[q.1.toNat]?=some v)/\(q.2=false->v ∉ l):=by
 refine q1w (body:=gQ8t l v) (fun s=>∃i j:Nat,s=((i:Int),(j:Int))/\i<=j/\j<=l.length/\(∀k a,k<i->l[k]?=some a->Op.bytesLess a.toList v.toList=true)/\(∀k a,j<=k->l[k]?=some a->Op.bytesLess a.toList v.toList=false)) (fun s=>(s.2-s.1).toNat)
  (fun q=>0<=q.1/\q.1<=l.length/\(q.2=true->l[q.1.toNat]?=some v)/\(q.2=false->v ∉ l)) ?_ (0,(l.length:Int)) ⟨0,l.length,rfl,Nat.zero_le _,Nat.le_refl _,fun k a hk=>by omega,fun k a hk e=>by rw[List.getElem?_eq_none hk]at e;cases e⟩
 rintro s ⟨i,j,rfl,hij,hj,h1,h2⟩
 by_cases hlt:i<j
 .left
  have hm:(i+j) / 2<l.length:=by omega
  have hI:idx l (((i+j) / 2:Nat):Int)=some l[(i+j) / 2]:=by rw[q9];exact gE_ hm
  have hmid:=mid_eq (i:=i) (j:=j) (by omega)
  have hdec:decide (((i:Int),(j:Int)).1<((i:Int),(j:Int)).2)=true:=by simp[hlt]
  unfold gQ8t
  rw[hdec]
  simp only[cT_,hmid,hI,oB_,qtj]
  cases hc:Op.bytesLess l[(i+j) / 2].toList v.toList with
  | true =>
   refine ⟨((((i+j) / 2+1:Nat):Int),(j:Int)),by simp only[cT_,qg (i:=(i+j) / 2) (n:=l.length) hm (by omega)],⟨_,j,rfl,by omega,hj,fun k a hk e=>?_,h2⟩,by simp;omega⟩
   rcases Nat.eq_or_lt_of_le (show k<=(i+j) / 2 by omega) with rfl|hk'
   .rw[gE_ hm]at e;simp at e;subst e;exact hc
   .exact q5s (hr k _ hk' a _ e (gE_ hm)) hc
  | false =>
   refine ⟨((i:Int),(((i+j) / 2:Nat):Int)),by simp only[cF_],⟨i,_,rfl,by omega,by omega,h1,fun k a hk e=>?_⟩,by simp;omega⟩
   rcases Nat.eq_or_lt_of_le hk with rfl|hk'
   .rw[gE_ hm]at e;simp at e;subst e;exact hc
   .cases hb:Op.bytesLess a.toList v.toList with
    | false=>rfl
    | true=>rw[q5s (hr _ k hk' _ a (gE_ hm) e) hb]at hc;cases hc
 .right
  obtain rfl:i=j:=by omega
  have hnot:∀k a,l[k]?=some a->k≠i->a≠v:=by
   intro k a e hne he
   subst he
   rcases Nat.lt_or_ge k i with hk|hk
   .have:=h1 k a hk e;rw[q4k]at this;cases this
   .have hik:i<k:=by omega
    have hkl:k<l.length:=by
     rcases Nat.lt_or_ge k l.length with q|q
     .exact q
     .rw[List.getElem?_eq_none q]at e;cases e
    have hil:i<l.length:=by omega
    have a1:=hr i k hik _ a (gE_ hil) e
    have a2:=h2 i _ (Nat.le_refl _) (gE_ hil)
    rw[a1]at a2;cases a2
  have hdec:decide (((i:Int),(i:Int)).1<((i:Int),(i:Int)).2)=false:=by simp
  unfold gQ8t
  rw[hdec]
  simp only[cF_]
  by_cases hil:i<l.length
  .have hI:idx l (i:Int)=some l[i]:=by rw[q9];exact gE_ hil
   have hd2:decide ((i:Int)<(l.length:Int))=true:=by simp[hil]
   rw[hd2]
   simp only[cT_,hI,oB_,gQ93]
   by_cases he:l[i]=v
   .refine ⟨((i:Int),true),by simp[he],by simp,by simp;omega,(fun _=>by simp[←he]),(fun h=>by cases h)⟩
   .refine ⟨((i:Int),false),by simp[he],by simp,by simp;omega,(fun h=>by cases h),fun _ hm=>?_⟩
    obtain ⟨k,hk⟩:=List.getElem?_of_mem hm
    by_cases hki:k=i
    .subst hki;rw[gE_ hil]at hk;simp at hk;exact he hk
    .exact hnot k v hk hki rfl
  .have hd2:decide ((i:Int)<(l.length:Int))=false:=by simp;omega
   rw[hd2]
   refine ⟨((i:Int),false),by simp,by simp,by simp;omega,(fun h=>by cases h),fun _ hm=>?_⟩
   obtain ⟨k,hk⟩:=List.getElem?_of_mem hm
   have hkl:k<l.length:=by
    rcases Nat.lt_or_ge k l.length with q|q
    .exact q
    .rw[List.getElem?_eq_none q]at hk;cases hk
   exact hnot k v hk (by omega) rfl
open Go.RowKit
inductive Good:Nat->Val->Prop
 | mk {d:Nat} {x:Val}:qz x=0->(∀y∈x.items,Good d y)->Good (d+1) x
theorem Good.node {d:Nat} {x:Val} (h:Good d x):qz x=0:=by cases h;assumption
theorem Good.item {d:Nat} {x:Val} (h:Good d x):∃e,d=e+1/\∀y∈x.items,Good e y:=by cases h;exact ⟨_,rfl,by assumption⟩
theorem qhr:∀(l:List Val) (lv n:Int),(q13 l lv n).1=0->∀x∈l,∃k,(q10 x lv k).1=0
 | [],_,_,_,x,hx=>absurd hx mN_
 | y::r,lv,n,h,x,hx=>by
  simp only[q13]at h
  by_cases hc:(q10 y lv n).1=0
  .rw[if_neg (by simp[hc])]at h
   rcases List.mem_cons.1 hx with rfl|hx
   .exact ⟨n,hc⟩
   .exact qhr r lv _ h x hx
  .rw[if_pos hc]at h;exact absurd h hc
theorem qsj (x:Val):∀(lv n:Int) (d:Nat),(q10 x lv n).1=0->33<=lv+d->Good d x:=by
 induction x using Val.ind with
 | h k m s items keys ih =>
  intro lv n d h hd
  rw[q7s]at h
  split at h
  .simp at h
  .rename_i h32
   split at h
   .simp at h
   .split at h
    .rename_i h2;exact absurd h h2
    .rename_i h3
     obtain ⟨e,rfl⟩:∃e,d=e+1:=⟨d - 1,by omega⟩
     refine .mk (by simpa using h3) fun y hy=>?_
     obtain ⟨q,hq⟩:=qhr _ _ _ h y hy
     exact ih y hy (lv+1) q e hq (by omega)
theorem qsi {x:Val} (h:qx x=0):Good 32 x:=qsj x 1 0 32 h (by omega)
theorem qbv {x:Val} (h:qz x=0):q28 x=true/\(x.kind=2->NumPlain.validB x.num=true)/\vtext x.str=0/\q2a none x.keys=0:=by
 unfold qz at h
 split at h
 .simp at h
 .rename_i h1
  split at h
  .simp at h
  .rename_i h2
   split at h
   .rename_i h3;exact absurd h h3
   .rename_i h3
    refine ⟨by simpa using h1,fun hk=>?_,by simpa using h3,h⟩
    cases hv:NumPlain.validB x.num
    .exact absurd ⟨hk,hv⟩ h2
    .rfl
theorem qjx:∀(l:List ByteArray) (p:Option ByteArray),q2a p l=0->(∀q,p=some q->∀a∈l,Op.bytesLess q.toList a.toList=true)/\l.Pairwise fun a b=>Op.bytesLess a.toList b.toList=true
 | [],p,_=>⟨fun _ _ a ha=>absurd ha mN_,List.Pairwise.nil⟩
 | s::r,p,h=>by
  unfold q2a at h
  by_cases hv:vtext s=0
  .rw[if_neg (by simp[hv])]at h
   have hr:q2a (some s) r=0/\∀q,p=some q->Op.bytesLess q.toList s.toList=true:=by
    cases p with
    | none=>exact ⟨by simpa using h,fun q hq=>by cases hq⟩
    | some q =>
     cases hb:ltB q s with
     | true=>exact ⟨by simpa [hb] using h,fun q' hq=>by cases hq;exact hb⟩
     | false=>simp[hb]at h
   have ⟨i1,i2⟩:=qjx r (some s) hr.1
   refine ⟨fun q hq a ha=>?_,List.pairwise_cons.2 ⟨i1 s rfl,i2⟩⟩
   rcases List.mem_cons.1 ha with rfl|ha
   .exact hr.2 q hq
   .exact q5s (hr.2 q hq) (i1 s rfl a ha)
  .rw[if_pos hv]at h;exact absurd h hv
theorem qx5 {l:List ByteArray} (h:l.Pairwise fun a b=>Op.bytesLess a.toList b.toList=true):Rising l:=by
 intro i j hij a b ha hb
 obtain ⟨h1,e1⟩:=List.getElem?_eq_some_iff.1 ha
 obtain ⟨h2,e2⟩:=List.getElem?_eq_some_iff.1 hb
 subst e1 e2
 exact List.pairwise_iff_getElem.1 h i j h1 h2 hij
theorem qx4 {l:List ByteArray} (h:Rising l) {i j:Nat} {a:ByteArray} (hi:l[i]?=some a) (hj:l[j]?=some a):i=j:=by
 rcases Nat.lt_trichotomy i j with k|k|k
 .have:=h i j k a a hi hj;rw[q4k]at this;cases this
 .exact k
 .have:=h j i k a a hj hi;rw[q4k]at this;cases this
theorem Good.rising {d:Nat} {x:Val} (h:Good d x):Rising x.keys:=qx5 (qjx _ _ (qbv h.node).2.2.2).2
theorem qfn {x:Val} (h:q28 x=true):0<=x.kind/\x.kind<=6/\(x.kind≠1->x.kind≠2->x.num=0)/\(x.kind=1->x.num=0\/x.num=1)/\(x.kind≠3->x.str=eS)/\(x.kind≠4->x.kind≠5->x.items=[])/\(x.kind=5->x.keys.length=x.items.length)/\(x.kind≠5->x.keys=[]):=by
 simp only[q28,qe,Bool.and_eq_true,decide_eq_true_eq,qm,qr,qp,qn,Bool.or_eq_true,beq_iff_eq,bne_iff_ne,ne_eq]at h
 obtain ⟨⟨⟨⟨⟨h0,h1⟩,h2⟩,h3⟩,h4⟩,h5⟩:=h
 refine ⟨h0,h1,?_,?_,?_,?_,?_,?_⟩
 .intro a b;rcases h2 with (q|q)|q
  .exact absurd q b
  .exact absurd q.1 a
  .exact q
 .intro a;rcases h2 with (q|q)|q
  .omega
  .exact q.2
  .exact .inl q
 .intro a;rcases h3 with q|q
  .exact absurd q a
  .have:x.str.toList=[]:=by simpa using q
   rw[ByteArray.toList_eq]at this
   exact ByteArray.ext (Array.toList_inj.1 this)
 .intro a b;rcases h4 with (q|q)|q
  .exact absurd q a
  .exact absurd q b
  .exact List.length_eq_zero_iff.1 (by omega)
 .intro a;rcases h5 with q|q
  .omega
  .exact absurd a q.1
 .intro a;rcases h5 with q|q
  .exact absurd q.1 a
  .exact List.length_eq_zero_iff.1 (by omega)
open Go.RowKit
theorem qtv {α β O:Type} (l:List α) (f:α->β) {body:Int×List β->Option ((Int×List β)⊕O)} (R:List β->O)
  (step:∀(i:Nat) (acc:List β) (x:α),i<l.length->l[i]?=some x->acc.length=i->body ((i:Int),acc)=some (.inl (((i+1:Nat):Int),acc++[f x])))
  (stop:∀acc:List β,acc.length=l.length->body ((l.length:Int),acc)=some (.inr (R acc))):q7 body (0,[])=some (R (l.map f)):=by
 have h:=q1w (body:=body) (fun s=>∃i:Nat,s=((i:Int),(l.take i).map f)/\i<=l.length) (fun s=>l.length-s.1.toNat) (fun q=>q=R (l.map f)) (by
  rintro s ⟨i,rfl,hi⟩
  have hlen:((l.take i).map f).length=i:=by simp[hi]
  rcases Nat.eq_or_lt_of_le hi with h0|h0
  .subst h0
   exact .inr ⟨_,stop _ hlen,by rw[List.take_length]⟩
  .have hx:=gE_ h0
   refine .inl ⟨_,step i _ _ h0 hx hlen,⟨i+1,?_,h0⟩,?_⟩
   .rw[List.take_succ_eq_append_getElem h0,List.map_append];rfl
   .simp only[Int.toNat_natCast];omega) (0,[]) ⟨0,by simp,Nat.zero_le _⟩
 obtain ⟨q,h1,rfl⟩:=h
 exact h1
def ql {α:Type} (f:α->Val×Int):List α->List Val×Int
 | []=>([],0)
 | x::r=>if (f x).2≠0 then ([],(f x).2) else if (ql f r).2≠0 then ([],(ql f r).2) else ((f x).1::(ql f r).1,0)
theorem qel {α O:Type} (l:List α) (f:α->Val×Int) {body:Int×List Val->Option ((Int×List Val)⊕O)} (R:List Val->O) (E:Int->O)
  (step:∀(i:Nat) (acc:List Val) (x:α),i<l.length->l[i]?=some x->acc.length=i->body ((i:Int),acc)=some (if (f x).2=0 then .inl (((i+1:Nat):Int),acc++[(f x).1]) else .inr (E (f x).2)))
  (stop:∀acc:List Val,acc.length=l.length->body ((l.length:Int),acc)=some (.inr (R acc))) :
  q7 body (0,[])=some (if (ql f l).2=0 then R (ql f l).1 else E (ql f l).2):=by
 have key:∀n (i:Nat) (acc:List Val),l.length-i=n->i<=l.length->acc.length=i ->
   q7 body ((i:Int),acc)=some (if (ql f (l.drop i)).2=0 then R (acc++(ql f (l.drop i)).1) else E (ql f (l.drop i)).2):=by
  intro n
  induction n with
  | zero =>
   intro i acc hn hi ha
   obtain rfl:i=l.length:=by omega
   rw[q2c (stop acc ha),List.drop_length]
   simp[ql]
  | succ n ih =>
   intro i acc hn hi ha
   have hlt:i<l.length:=by omega
   have hs:=step i acc _ hlt (gE_ hlt) ha
   rw[List.drop_eq_getElem_cons hlt]
   by_cases he:(f l[i]).2=0
   .rw[if_pos he]at hs
    rw[q4u hs,ih (i+1) _ (by omega) (by omega) (by simp[ha])]
    have e2:ql f (l[i]::l.drop (i+1))=if (ql f (l.drop (i+1))).2≠0 then ([],(ql f (l.drop (i+1))).2) else ((f l[i]).1::(ql f (l.drop (i+1))).1,0):=by
     rw[ql,if_neg (by simp[he])]
    rw[e2]
    by_cases hr:(ql f (l.drop (i+1))).2=0
    .simp[hr]
    .simp[hr]
   .rw[if_neg he]at hs
    rw[q2c hs,ql,if_pos he]
    simp[he]
 have:=key _ 0 [] rfl (Nat.zero_le _) rfl
 simpa using this
theorem qtr {body:Int->Option (Int⊕Bool)} (n:Nat) (p:Nat->Prop)
  (step:∀i:Nat,i<n->(p i/\body (i:Int)=some (.inl ((i+1:Nat):Int)))\/(¬p i/\body (i:Int)=some (.inr false)))
  (stop:body (n:Int)=some (.inr true)):∃q,q7 body 0=some q/\(q=true↔∀i,i<n->p i):=by
 refine q1w (body:=body) (fun s=>∃i:Nat,s=(i:Int)/\i<=n/\∀j,j<i->p j) (fun s=>n-s.toNat) (fun q=>q=true↔∀i,i<n->p i) ?_ 0 ⟨0,rfl,Nat.zero_le _,fun j h=>by omega⟩
 rintro s ⟨i,rfl,hi,hp⟩
 rcases Nat.eq_or_lt_of_le hi with h0|h0
 .subst h0
  exact .inr ⟨true,stop,by simpa using hp⟩
 .rcases step i h0 with ⟨h1,h2⟩|⟨h1,h2⟩
  .refine .inl ⟨_,h2,⟨i+1,rfl,h0,fun j hj=>?_⟩,?_⟩
   .rcases Nat.eq_or_lt_of_le (Nat.le_of_lt_succ hj) with rfl|h
    .exact h1
    .exact hp j h
   .simp only[Int.toNat_natCast];omega
  .exact .inr ⟨false,h2,by simp;exact ⟨i,h0,h1⟩⟩
theorem q2b {n m:Nat} (h:n*m<=140737488351232) (hm:0<m):n<=140737488351232:=Nat.le_trans (Nat.le_mul_of_pos_right _ hm) h
theorem q96 {α:Type} {l:List α} {m:Nat} (h:l.length*m<=140737488351232):clone m l=some l:=by unfold clone;rw[if_pos (by omega)]
theorem mkc_of {n m:Nat} (h:n*m<=140737488351232) (hm:0<m):mkc m (n:Int)=some ():=by
 have:=q2b h hm
 unfold mkc
 rw[if_pos ⟨by omega,by simp;omega,by omega⟩]
theorem q1k {α:Type} {m n:Nat} (acc:List α) (x:α) (hm:0<m) (h:acc.length<n) (hn:n*m<=140737488351232):app m acc [x]=some (acc++[x]):=by
 refine q5f hm ?_
 have:(acc.length+[x].length)*m<=n*m:=Nat.mul_le_mul_right _ (by simp only[lC_,List.length_nil];omega)
 omega
theorem qqr (rec:Val->Option Val) (l:List Val) (hl:l.length*80<=140737488351232) (h:∀x∈l,rec x=some x):gQab rec l=some l:=by
 unfold gQab
 by_cases h0:l.length=0
 .have:l=[]:=List.length_eq_zero_iff.1 h0
  subst this;rfl
 .have hd:decide ((l.length:Int)=0)=false:=by simp;exact fun h=>h0 (by simp[h])
  rw[hd,cF_,mkc_of hl (by decide),oB_]
  have hh:=qtv l (fun x=>x) (body:=gQac rec l) (fun acc=>acc) (by
   intro i acc x hi hx ha
   have hx':x∈l:=List.mem_of_getElem? hx
   have hn:=q2b hl (by decide)
   simp only[gQac,dT_ (show (i:Int)<l.length by omega),cT_,q9,hx,oB_,h x hx',q1k acc x (m:=80) (by decide) (show acc.length<l.length by omega) hl,qg hi (show l.length<=9223372036854775807 by omega)]) (by
   intro acc ha
   simp[gQac])
  rw[hh];simp
open Classical in
theorem qqo (x:Val):tQbe x=gQa9 (gQab (fun a0=>if relV a0 x then tQbe a0 else none)) x:=q30 x ()
theorem qdk (x:Val):x.Fits->tQbe x=some x:=by
 induction x using wfV.induction with
 | h a ih =>
  intro hf
  obtain ⟨f1,f2,f3,f4,f5,f6,f7⟩:=hf.parts
  rw[qqo]
  unfold gQa9
  rw[q96 f5,oB_,qqr _ a.items f4 (fun x hx=>by
   rw[if_pos (show relV x a from hx)]
   exact ih x hx (f7 x hx)),oB_]
  cases a;rfl
theorem q8m {a b:Val} (h1:a.kind=b.kind) (h2:a.num=b.num) (h3:a.str=b.str) (h4:a.items=b.items) (h5:a.keys=b.keys):a=b:=by
 cases a;cases b;simp only[Val.kind,Val.num,Val.str,Val.items,Val.keys]at *;subst h1 h2 h3 h4 h5;rfl
theorem qbj {α:Type} {a b:List α} (hl:a.length=b.length) (h:∀i,i<a.length->a[i]?=b[i]?):a=b:=by
 apply List.ext_getElem?
 intro i
 rcases Nat.lt_or_ge i a.length with k|k
 .exact h i k
 .rw[List.getElem?_eq_none k,List.getElem?_eq_none (by omega)]
open Classical in
theorem qre (a b:Val):tQb8 a b=gQ9h (fun a0 a1=>if relV a0 a then tQb8 a0 a1 else none) a b:=q30 a b
open Classical in
theorem qzv (a:Val):∀b:Val,a.Fits->∃q,tQb8 a b=some q/\(q=true↔a=b):=by
 induction a using wfV.induction with
 | h a ih =>
  intro b hf
  obtain ⟨f1,f2,f3,f4,f5,f6,f7⟩:=hf.parts
  rw[qre]
  unfold gQ9h
  by_cases h1:a.kind=b.kind
  case neg=>exact ⟨false,by simp[h1],by simp;intro e;subst e;exact h1 rfl⟩
  by_cases h2:a.num=b.num
  case neg=>exact ⟨false,by simp[h1,h2],by simp;intro e;subst e;exact h2 rfl⟩
  by_cases h3:a.str=b.str
  case neg=>exact ⟨false,by simp[h1,h2,h3],by simp;intro e;subst e;exact h3 rfl⟩
  rw[dT_ h1,dT_ h2,dT_ h3,qio _ _ (by have:=q2b f5 (by decide);omega)]
  simp only[cT_,oB_]
  by_cases h4:a.keys=b.keys
  case neg=>exact ⟨false,by simp[h4],by simp;intro e;subst e;exact h4 rfl⟩
  rw[dT_ h4]
  simp only[cT_,gQ9j]
  by_cases h5:a.items.length=b.items.length
  case neg =>
   have h5':¬(a.items.length:Int)=b.items.length:=by omega
   exact ⟨false,by simp[h5'],by simp;intro e;subst e;exact h5 rfl⟩
  have h5':(a.items.length:Int)=b.items.length:=by omega
  have hn:=q2b f4 (by decide)
  obtain ⟨q,hq1,hq2⟩:=qtr (body:=gQ9k (fun a0 a1=>if relV a0 a then tQb8 a0 a1 else none) a.items b.items) a.items.length (fun i=>a.items[i]?=b.items[i]?) (by
   intro i hi
   have hib:i<b.items.length:=by omega
   have hlt:decide ((i:Int)<a.items.length)=true:=dT_ (by omega)
   have hxi:=gE_ hi
   have hyi:=gE_ hib
   have hmem:a.items[i]∈a.items:=List.getElem_mem hi
   obtain ⟨q,hq,hiff⟩:=ih _ hmem b.items[i] (f7 _ hmem)
   have hrel:relV a.items[i] a:=hmem
   cases q with
   | true =>
    refine .inl ⟨by rw[hxi,hyi,hiff.1 rfl],?_⟩
    simp only[gQ9k,hlt,cT_,q9,hxi,hyi,oB_,if_pos hrel,hq,nT_,cF_,qg hi (show a.items.length<=9223372036854775807 by omega)]
   | false =>
    refine .inr ⟨fun he=>?_,?_⟩
    .rw[hxi,hyi]at he;simp at he
     have:=hiff.2 he;cases this
    .simp only[gQ9k,hlt,cT_,q9,hxi,hyi,oB_,if_pos hrel,hq,nF_]) (by simp[gQ9k])
  refine ⟨q,by simp[h5',hq1],hq2.trans ⟨fun hall=>?_,?_⟩⟩
  .exact q8m h1 h2 h3 (qbj h5 hall) h4
  .rintro rfl i _;rfl
inductive Refs:Val->Val->Prop
 | unk {a b:Val}:b.kind=6->Refs a b
 | node {a b:Val}:a.kind=b.kind->a.num=b.num->a.str=b.str->a.keys=b.keys->a.items.length=b.items.length->(∀(i:Nat) (x y:Val),a.items[i]?=some x->b.items[i]?=some y->Refs x y)->Refs a b
theorem Refs.refl (a:Val):Refs a a:=by
 induction a using wfV.induction with
 | h a ih =>
  refine .node rfl rfl rfl rfl rfl fun i x y hx hy=>?_
  rw[hx]at hy;cases hy
  exact ih x (List.mem_of_getElem? hx)
open Go.RowKit
abbrev vZ:Val:=Val.mk 0 0 eS [] []
def look:List ByteArray->List Val->ByteArray->Val
 | k::ks,x::xs,n=>if k=n then x else look ks xs n
 | _,_,_=>vZ
theorem qei:∀(keys:List ByteArray) (items:List Val) (n:ByteArray) (i:Nat) (x:Val),Rising keys->keys[i]?=some n->items[i]?=some x->look keys items n=x
 | [],_,n,i,x,_,h,_=>by simp at h
 | k::ks,[],n,i,x,_,_,h=>by simp at h
 | k::ks,y::ys,n,i,x,hr,h1,h2=>by
  cases i with
  | zero=>simp at h1 h2;subst h1 h2;simp[look]
  | succ i =>
   have hne:k≠n:=fun he=>by
    have:=qx4 hr (i:=0) (j:=i+1) (a:=n) (by simp[he]) h1
    omega
   simp only[look,if_neg hne]
   exact qei ks ys n i x (fun a b hab p q hp hq=>hr (a+1) (b+1) (by omega) p q (by simpa using hp) (by simpa using hq)) (by simpa using h1) (by simpa using h2)
theorem qej:∀(keys:List ByteArray) (items:List Val) (n:ByteArray),n ∉ keys->look keys items n=vZ
 | [],_,_,_=>by simp[look]
 | _::_,[],_,_=>by simp[look]
 | k::ks,y::ys,n,h=>by
  simp only[List.mem_cons,not_or]at h
  simp only[look,if_neg (Ne.symm h.1)]
  exact qej ks ys n h.2
theorem qbm:∀(keys:List ByteArray) (items:List Val) (n:ByteArray),look keys items n∈items\/look keys items n=vZ
 | [],_,_=>by simp[look]
 | _::_,[],_=>by simp[look]
 | k::ks,y::ys,n=>by
  simp only[look]
  split
  .exact .inl (mS_ ..)
  .rcases qbm ks ys n with h|h
   .exact .inl (mC_ _ h)
   .exact .inr h
theorem qsg (v:Val) (key:ByteArray) (hf:v.Fits) (hk:v.kind=5) (hl:v.keys.length=v.items.length) (hr:Rising v.keys):∃b,gQ9m v key=some (look v.keys v.items key,b):=by
 obtain ⟨f1,f2,f3,f4,f5,f6,f7⟩:=hf.parts
 obtain ⟨q,h1,h2,h3,h4,h5⟩:=qmw v.keys key (by have:=q2b f5 (by decide);omega) hr
 have hk':decide (v.kind=5)=true:=dT_ hk
 unfold gQ9m
 rw[h1,oB_,hk',nT_,cF_]
 cases hq:q.2 with
 | false =>
  rw[nF_,cT_,qej _ _ _ (h5 hq)]
  exact ⟨_,rfl⟩
 | true =>
  rw[nT_,cF_]
  have e:=h4 hq
  obtain ⟨hi,_⟩:=List.getElem?_eq_some_iff.1 e
  have hi':q.1.toNat<v.items.length:=by omega
  have hd:decide (q.1 >= (v.items.length:Int))=false:=dF_ (by omega)
  have hI:idx v.items q.1=some v.items[q.1.toNat]:=by
   have:=q9 v.items q.1.toNat
   rw[show ((q.1.toNat:Nat):Int)=q.1 by omega]at this
   rw[this,gE_ hi']
  rw[hd,cF_,hI,oB_,qdk _ (f7 _ (List.getElem_mem hi')),oB_]
  rw[qei _ _ _ _ _ hr e (gE_ hi')]
  exact ⟨_,rfl⟩
inductive Conf:Val->Ty->Prop
 | any {v:Val} {t:Ty}:v.kind=0\/v.kind=6\/t.kind=0->Conf v t
 | prim {v:Val} {t:Ty}:t.kind=1\/t.kind=2\/t.kind=3->v.kind=t.kind->Conf v t
 | coll {v:Val} {t e:Ty} {r:List Ty}:t.kind=4\/t.kind=5->v.kind=t.kind->t.elems=e::r->(∀x∈v.items,Conf x e)->Conf v t
 | obj {v:Val} {t:Ty}:¬(t.kind=0\/t.kind=1\/t.kind=2\/t.kind=3\/t.kind=4\/t.kind=5)->v.kind=5->v.keys=t.names->v.items.length=t.elems.length->(∀(i:Nat) (x:Val) (e:Ty),v.items[i]?=some x->t.elems[i]?=some e->Conf x e)->Conf v t
theorem Conf.inv {v:Val} {t:Ty} (h:Conf v t) (h0:v.kind≠0) (h6:v.kind≠6) (ht:t.kind≠0) :
  ((t.kind=1\/t.kind=2\/t.kind=3)/\v.kind=t.kind)\/((t.kind=4\/t.kind=5)/\v.kind=t.kind/\∃e r,t.elems=e::r/\∀x∈v.items,Conf x e) \/
  (¬(t.kind=0\/t.kind=1\/t.kind=2\/t.kind=3\/t.kind=4\/t.kind=5)/\v.kind=5/\v.keys=t.names/\v.items.length=t.elems.length/\(∀(i:Nat) (x:Val) (e:Ty),v.items[i]?=some x->t.elems[i]?=some e->Conf x e)):=by
 cases h with
 | any h=>rcases h with h|h|h<;>contradiction
 | prim h1 h2=>exact .inl ⟨h1,h2⟩
 | coll h1 h2 h3 h4=>exact .inr (.inl ⟨h1,h2,_,_,h3,h4⟩)
 | obj h1 h2 h3 h4 h5=>exact .inr (.inr ⟨h1,h2,h3,h4,h5⟩)
open Go.RowKit
theorem qg9 {p:Ty->Prop} (h:∀t,(∀e∈t.elems,p e)->p t) (t:Ty):p t:=wfT.induction (C:=p) t h
inductive Few:Ty->Prop
 | mk {t:Ty}:t.elems.length<=1000->(∀e∈t.elems,Few e)->Few t
inductive Okt:Ty->Prop
 | mk {t:Ty}:0<=t.kind->t.kind<=6->(t.kind=6->t.elems.length=t.names.length)->(t.kind=4\/t.kind=5->t.elems.length=1)->Rising t.names->(∀e∈t.elems,Okt e)->Okt t
theorem qfp {s:ByteArray} {i:Nat} (h:i<s.size):sidx s (i:Int)=some ((s[i].toNat:Nat):Int):=by
 unfold sidx
 rw[dif_pos ⟨by omega,by omega⟩]
 simp
open Go.RowKit
theorem decDigits_len':∀(k u:Nat),u<10 ^ (k+1)->(Lib.decDigits u).length<=k+1:=by
 intro k
 induction k with
 | zero=>intro u hu;rw[Lib.decDigits_one (by simpa using hu)];simp
 | succ k ih =>
  intro u hu
  by_cases h:u<10
  .rw[Lib.decDigits_one h];simp
  .rw[Lib.decDigits,dif_neg h,lA_]
   have:=ih (u / 10) (Nat.div_lt_of_lt_mul (by rw[Nat.pow_succ,Nat.mul_comm]at hu;exact hu))
   simp;omega
theorem itoa_len' (n:Int) (h0:-9223372036854775808<=n) (h1:n<=9223372036854775808):(Lib.itoa n).length<=20:=by
 unfold Lib.itoa
 split
 .have:=decDigits_len' 18 n.natAbs (by omega);simp;omega
 .have:=decDigits_len' 18 n.toNat (by omega);omega
theorem q42:eS.size<=140737488351232:=by decide
theorem q43 {k n:Int} {s:ByteArray} (hk:-100<=k/\k<=100) (hn:-9223372036854775808<=n/\n<=9223372036854775807) (hs:s.size<=140737488351232):(Val.mk k n s [] []).Fits :=
 .mk (by omega) hn hs (by simp) (by simp) (fun _ h=>absurd h mN_) (fun _ h=>absurd h mN_)
theorem q23:vZ.Fits:=q43 (by decide) (by decide) q42
def q7f (k:Int) (f:Val->Option (Val×Int)):Prop :=
 ∀v:Val,v.Fits->∃r:Val×Int,f v=some r/\r.1.Fits/\(v.kind=k->r=(v,0))/\(r.2=0->r.1.kind=k)/\(v.kind=4\/v.kind=5->r.2≠0)
theorem qg3:q7f 1 gQ0a:=by
 intro v hf
 unfold gQ0a
 by_cases h1:v.kind=1
 .rw[dT_ h1];exact ⟨(v,0),rfl,hf,fun _=>rfl,fun _=>h1,fun h=>by omega⟩
 rw[dF_ h1,cF_]
 have bad:∃r:Val×Int,some (vZ,(6:Int))=some r/\r.1.Fits/\(v.kind=1->r=(v,0))/\(r.2=0->r.1.kind=1)/\(v.kind=4\/v.kind=5->r.2≠0) :=
  ⟨_,rfl,q23,fun h=>absurd h h1,(fun h=>by cases h),fun _=>by decide⟩
 by_cases h3:v.kind=3
 case neg=>rw[dF_ h3];exact bad
 rw[dT_ h3,cT_]
 cases decide (v.str=(⟨#[116,114,117,101]⟩:ByteArray))
 .rw[cF_]
  cases decide (v.str=(⟨#[102,97,108,115,101]⟩:ByteArray))
  .exact bad
  .exact ⟨_,rfl,q43 (by decide) (by decide) q42,fun h=>absurd h h1,fun _=>rfl,fun h=>by omega⟩
 .exact ⟨_,rfl,q43 (by decide) (by decide) q42,fun h=>absurd h h1,fun _=>rfl,fun h=>by omega⟩
theorem qvr (s:ByteArray):-9223372036854775808<=(NumPlain.parseB s).1/\(NumPlain.parseB s).1<=9223372036854775807:=by
 unfold NumPlain.parseB NumPlain.parse
 split
 .rcases NumPlain.right_cases (NumPlain.sval s.data.toList) with ⟨h,hv⟩|h
  .rw[h];have:=(NumPlain.validB_iff _).1 hv;constructor<;>simp only<;>omega
  .rw[h];decide
 .decide
theorem qg5:q7f 2 gQ0c:=by
 intro v hf
 obtain ⟨f1,f2,f3,f4,f5,f6,f7⟩:=hf.parts
 unfold gQ0c
 by_cases h1:v.kind=2
 .rw[dT_ h1];exact ⟨(v,0),rfl,hf,fun _=>rfl,fun _=>h1,fun h=>by omega⟩
 rw[dF_ h1,cF_]
 have bad:∃r:Val×Int,some (vZ,(6:Int))=some r/\r.1.Fits/\(v.kind=2->r=(v,0))/\(r.2=0->r.1.kind=2)/\(v.kind=4\/v.kind=5->r.2≠0) :=
  ⟨_,rfl,q23,fun h=>absurd h h1,(fun h=>by cases h),fun _=>by decide⟩
 by_cases h3:v.kind=3
 case neg=>rw[dF_ h3];exact bad
 rw[dT_ h3,nT_,cF_,show q72 v.str=some (NumPlain.parseB v.str) from q1v (by omega),oB_]
 by_cases hp:(NumPlain.parseB v.str).2=0
 .rw[dT_ hp]
  exact ⟨_,rfl,q43 (by decide) (qvr _) q42,fun h=>absurd h h1,fun _=>rfl,fun h=>by omega⟩
 .rw[dF_ hp];exact bad
theorem qg6:q7f 3 gQ0i:=by
 intro v hf
 obtain ⟨f1,f2,f3,f4,f5,f6,f7⟩:=hf.parts
 unfold gQ0i
 by_cases h1:v.kind=3
 .rw[dT_ h1];exact ⟨(v,0),rfl,hf,fun _=>rfl,fun _=>h1,fun h=>by omega⟩
 rw[dF_ h1,cF_]
 by_cases h2:v.kind=2
 .rw[dT_ h2,cT_,show q71 v.num=some (fmtB v.num) from q1v f2,oB_]
  refine ⟨_,rfl,q43 (by decide) (by decide) ?_,fun h=>absurd h h1,fun _=>rfl,fun h=>by omega⟩
  have:=itoa_len' v.num f2.1 (by omega)
  show (fmtB v.num).size<=_
  unfold fmtB
  rw[←ByteArray.size_data,List.size_toArray]
  omega
 rw[dF_ h2,cF_]
 by_cases h3:v.kind=1
 .rw[dT_ h3,cT_]
  cases decide (v.num=1)
  .exact ⟨_,rfl,q43 (by decide) (by decide) (by decide),fun h=>absurd h h1,fun _=>rfl,fun h=>by omega⟩
  .exact ⟨_,rfl,q43 (by decide) (by decide) (by decide),fun h=>absurd h h1,fun _=>rfl,fun h=>by omega⟩
 .rw[dF_ h3]
  exact ⟨_,rfl,q23,fun h=>absurd h h1,(fun h=>by cases h),fun _=>by decide⟩
def q2m (f:Val->Option (Val×Int)) (v:Val):Val×Int:=(f v).getD (vZ,6)
theorem q7f.eq {k:Int} {f:Val->Option (Val×Int)} (h:q7f k f) {v:Val} (hf:v.Fits) :
  f v=some (q2m f v)/\(q2m f v).1.Fits/\(v.kind=k->q2m f v=(v,0))/\((q2m f v).2=0->(q2m f v).1.kind=k)/\(v.kind=4\/v.kind=5->(q2m f v).2≠0):=by
 obtain ⟨r,h1,h2⟩:=h v hf
 have:q2m f v=r:=by unfold q2m;rw[h1];rfl
 rw[this];exact ⟨h1,h2⟩
def colR (k:Int) (keys:List ByteArray) (q:List Val×Int):Val×Int:=if q.2=0 then (Val.mk k 0 eS q.1 keys,0) else (vZ,q.2)
mutual
/-- The conversion of a value to a type. -/
def toS:Ty->Val->Val×Int
 | .mk k elems names,v =>
  if k=0\/v.kind=0\/v.kind=6 then (v,0)
  else if k=1 then q2m gQ0a v
  else if k=2 then q2m gQ0c v
  else if k=3 then q2m gQ0i v
  else if k=4\/k=5 then (if v.kind=k then colR v.kind v.keys (q5q elems v.items) else (vZ,6))
  else if v.kind=5 then (if ∀x∈v.keys,hasB names x=true then colR 5 names (objS elems names v) else (vZ,13))
  else (vZ,6)
def q5q:List Ty->List Val->List Val×Int
 | [],_=>([],6)
 | e::_,l=>ql (fun x=>toS e x) l
def objS:List Ty->List ByteArray->Val->List Val×Int
 | e::es,n::ns,v=>if (toS e (look v.keys v.items n)).2≠0 then ([],(toS e (look v.keys v.items n)).2) else if (objS es ns v).2≠0 then ([],(objS es ns v).2) else ((toS e (look v.keys v.items n)).1::(objS es ns v).1,0)
 | [],_,_=>([],0)
 | _::_,[],_=>([],0)
end
theorem qld (v:Val):∀(es:List Ty) (ns:List ByteArray),objS es ns v=ql (fun p:Ty×ByteArray=>toS p.1 (look v.keys v.items p.2)) (es.zip ns)
 | [],_=>by simp[objS,ql]
 | _::_,[]=>by simp[objS,ql]
 | e::es,n::ns=>by rw[objS,qld v es ns];rfl
theorem q5y (t:Ty) (v:Val):toS t v=if t.kind=0\/v.kind=0\/v.kind=6 then (v,0)
  else if t.kind=1 then q2m gQ0a v
  else if t.kind=2 then q2m gQ0c v
  else if t.kind=3 then q2m gQ0i v
  else if t.kind=4\/t.kind=5 then (if v.kind=t.kind then colR v.kind v.keys (q5q t.elems v.items) else (vZ,6))
  else if v.kind=5 then (if ∀x∈v.keys,hasB t.names x=true then colR 5 t.names (ql (fun p:Ty×ByteArray=>toS p.1 (look v.keys v.items p.2)) (t.elems.zip t.names)) else (vZ,13))
  else (vZ,6):=by
 obtain ⟨k,elems,names⟩:=t
 rw[toS,qld]
 rfl
def Vok (v:Val):Prop:=v.Fits/\∃d,Good d v
theorem qnm:Good 1 vZ:=.mk (by
 have e:eS.data.toList=[]:=rfl
 simp[qz,vtext,q28,qe,qm,qr,qp,qn,q2a,Val.kind,Val.num,Val.str,Val.items,Val.keys]
 decide) (fun y h=>absurd h mN_)
theorem vZ_ok:Vok vZ:=⟨q23,1,qnm⟩
theorem Vok.item {v:Val} (h:Vok v):∀x∈v.items,Vok x:=by
 obtain ⟨hf,d,hg⟩:=h
 obtain ⟨e,rfl,hi⟩:=hg.item
 exact fun x hx=>⟨hf.parts.2.2.2.2.2.2 x hx,e,hi x hx⟩
theorem Vok.look {v:Val} (h:Vok v) (n:ByteArray):Vok (look v.keys v.items n):=by
 rcases qbm v.keys v.items n with k|k
 .exact h.item _ k
 .rw[k];exact vZ_ok
theorem Vok.shape {v:Val} (h:Vok v):0<=v.kind/\v.kind<=6/\(v.kind≠1->v.kind≠2->v.num=0)/\(v.kind=1->v.num=0\/v.num=1)/\(v.kind≠3->v.str=eS)/\(v.kind≠4->v.kind≠5->v.items=[])/\(v.kind=5->v.keys.length=v.items.length)/\(v.kind≠5->v.keys=[]):=qfn (qbv h.2.choose_spec.node).1
theorem Vok.rising {v:Val} (h:Vok v):Rising v.keys:=h.2.choose_spec.rising
open Classical in
theorem to_eq (v:Val) (t:Ty):tQae v t=gQ09 (gQ0e fun a0 a1=>if relT a1 t then tQae a0 a1 else none) (gQ06 fun a0 a1=>if relT a1 t then tQae a0 a1 else none) v t:=q30 t v
theorem qr6 (rec:Val->Ty->Option (Val×Int)) (v:Val) (e:Ty) (hf:v.Fits) (h:∀x∈v.items,rec x e=some (toS e x)) :
  gQ06 rec v e=some (colR v.kind v.keys (ql (fun x=>toS e x) v.items)):=by
 obtain ⟨f1,f2,f3,f4,f5,f6,f7⟩:=hf.parts
 unfold gQ06
 rw[q96 f5,oB_]
 have hn:=q2b f4 (by decide)
 rw[qel v.items (fun x=>toS e x) (body:=gQ07 rec v e v.keys) (fun acc=>(Val.mk v.kind 0 eS acc v.keys,0)) (fun er=>(vZ,er)) (fun i acc x hi hx ha=>?_) (fun acc ha=>?_)]
 .unfold colR;rfl
 .have hm:x∈v.items:=List.mem_of_getElem? hx
  by_cases he:(toS e x).2=0
  .simp only[gQ07,dT_ (show (i:Int)<v.items.length by omega),cT_,q9,hx,oB_,h x hm,dT_ he,nT_,cF_,q1k acc _ (m:=80) (by decide) (show acc.length<v.items.length by omega) f4,qg hi (show v.items.length<=9223372036854775807 by omega),if_pos he]
  .simp only[gQ07,dT_ (show (i:Int)<v.items.length by omega),cT_,q9,hx,oB_,h x hm,dF_ he,nF_,if_neg he]
 .simp only[gQ07,dF_ (show ¬(v.items.length:Int)<v.items.length by omega),cF_]
theorem q8p {α β:Type} {a:List α} {b:List β} {i:Nat} {p:α×β} (h:(a.zip b)[i]?=some p):a[i]?=some p.1/\b[i]?=some p.2:=by
 rw[List.getElem?_zip_eq_some]at h;exact h
theorem quk (rec:Val->Ty->Option (Val×Int)) (v:Val) (t:Ty) (hv:Vok v) (h5:v.kind=5) (ht:t.elems.length=t.names.length) (hl:t.elems.length<=1000)
  (h:∀e∈t.elems,∀x,Vok x->rec x e=some (toS e x)) :
  gQ0e rec v t=some (if ∀x∈v.keys,hasB t.names x=true then colR 5 t.names (ql (fun p:Ty×ByteArray=>toS p.1 (look v.keys v.items p.2)) (t.elems.zip t.names)) else (vZ,13)):=by
 obtain ⟨f1,f2,f3,f4,f5,f6,f7⟩:=hv.1.parts
 have hn:=q2b f5 (by decide)
 unfold gQ0e
 have hz:(t.elems.zip t.names).length=t.names.length:=by rw[List.length_zip];omega
 have inner:q7 (gQ0g rec v t t.names) (0,[])=some (.inr (colR 5 t.names (ql (fun p:Ty×ByteArray=>toS p.1 (look v.keys v.items p.2)) (t.elems.zip t.names)))):=by
  rw[qel (t.elems.zip t.names) (fun p:Ty×ByteArray=>toS p.1 (look v.keys v.items p.2)) (body:=gQ0g rec v t t.names) (fun acc=>.inr (Val.mk 5 0 eS acc t.names,0)) (fun er=>.inr (vZ,er)) (fun i acc p hi hp ha=>?_) (fun acc ha=>?_)]
  .unfold colR;split<;>rfl
  .obtain ⟨he,hnm⟩:=q8p hp
   have hm:p.1∈t.elems:=List.mem_of_getElem? he
   obtain ⟨b,hg⟩:=qsg v p.2 hv.1 h5 (hv.shape.2.2.2.2.2.2.1 h5) hv.rising
   have hr:=h p.1 hm _ (hv.look p.2)
   have hlt:decide ((i:Int)<t.names.length)=true:=dT_ (by omega)
   by_cases her:(toS p.1 (look v.keys v.items p.2)).2=0
   .simp only[gQ0g,hlt,cT_,q9,hnm,he,oB_,hg,hr,dT_ her,nT_,cF_,q1k acc _ (m:=80) (n:=1000) (by decide) (show acc.length<1000 by omega) (by decide),qg (show i<t.names.length by omega) (show t.names.length<=9223372036854775807 by omega),if_pos her]
   .simp only[gQ0g,hlt,cT_,q9,hnm,he,oB_,hg,hr,dF_ her,nF_,if_neg her]
  .rw[hz];simp only[gQ0g,dF_ (show ¬(t.names.length:Int)<t.names.length by omega),cF_]
 have:=q1w (body:=gQ0f rec v t) (fun k=>∃i:Nat,k=(i:Int)/\i<=v.keys.length/\∀(j:Nat) x,j<i->v.keys[j]?=some x->hasB t.names x=true) (fun k=>v.keys.length-k.toNat) (fun r=>r=if ∀x∈v.keys,hasB t.names x=true then colR 5 t.names (ql (fun p:Ty×ByteArray=>toS p.1 (look v.keys v.items p.2)) (t.elems.zip t.names)) else (vZ,13)) (by
  rintro k ⟨i,rfl,hi,hp⟩
  rcases Nat.eq_or_lt_of_le hi with h0|h0
  .subst h0
   refine .inr ⟨_,by simp only[gQ0f,dF_ (show ¬(v.keys.length:Int)<v.keys.length by omega),cF_,q96 (show t.names.length*16<=140737488351232 by omega),oB_,inner];rfl,?_⟩
   rw[if_pos]
   intro x hx
   obtain ⟨j,hj⟩:=List.getElem?_of_mem hx
   exact hp j x (List.getElem?_eq_some_iff.1 hj).1 hj
  .have hx:=gE_ h0
   have hm:v.keys[i]∈v.keys:=List.getElem_mem h0
   have hlt:decide ((i:Int)<v.keys.length)=true:=dT_ (by omega)
   cases hh:hasB t.names v.keys[i] with
   | true =>
    refine .inl ⟨((i+1:Nat):Int),by simp only[gQ0f,hlt,cT_,q9,hx,oB_,qdi t.names v.keys[i] (by omega),hh,nT_,cF_,qg h0 (show v.keys.length<=9223372036854775807 by omega)],⟨i+1,rfl,h0,fun j x hj he=>?_⟩,by simp only[Int.toNat_natCast];omega⟩
    rcases Nat.eq_or_lt_of_le (Nat.le_of_lt_succ hj) with rfl|hj
    .rw[hx]at he;cases he;exact hh
    .exact hp j x hj he
   | false =>
    refine .inr ⟨(vZ,13),by simp only[gQ0f,hlt,cT_,q9,hx,oB_,qdi t.names v.keys[i] (by omega),hh,nF_],?_⟩
    rw[if_neg]
    intro hall;rw[hall _ hm]at hh;cases hh) 0 ⟨0,rfl,Nat.zero_le _,fun j x hj=>by omega⟩
 obtain ⟨r,h1,rfl⟩:=this
 exact h1
def Tok (t:Ty):Prop:=t.Fits/\Few t/\Okt t
theorem Tok.elem {t:Ty} (h:Tok t):∀e∈t.elems,Tok e:=by
 obtain ⟨hf,hw,ho⟩:=h
 intro e he
 refine ⟨hf.parts.2.2.2.2 e he,?_,?_⟩
 .cases hw with|mk _ h=>exact h e he
 .cases ho with|mk _ _ _ _ _ h=>exact h e he
theorem Tok.facts {t:Ty} (h:Tok t):t.elems.length<=1000/\0<=t.kind/\t.kind<=6/\(t.kind=6->t.elems.length=t.names.length)/\(t.kind=4\/t.kind=5->t.elems.length=1)/\Rising t.names:=by
 obtain ⟨hf,hw,ho⟩:=h
 cases hw with|mk h1 _=>cases ho with|mk a b c d e _=>exact ⟨h1,a,b,c,d,e⟩
theorem qzj (t:Ty):∀v:Val,Tok t->Vok v->tQae v t=some (toS t v):=by
 induction t using qg9 with
 | h t ih =>
  intro v ht hv
  obtain ⟨hl,k0,k6,t6,t45,hri⟩:=ht.facts
  rw[to_eq,q5y]
  unfold gQ09
  have hc:cpy v=some v:=q1v hv.1
  by_cases c1:t.kind=0
  .rw[dT_ c1,if_pos (.inl c1),cT_,hc];rfl
  by_cases c2:v.kind=0
  .rw[dF_ c1,dT_ c2,if_pos (.inr (.inl c2)),cT_,cF_,hc];rfl
  by_cases c3:v.kind=6
  .rw[dF_ c1,dF_ c2,dT_ c3,if_pos (.inr (.inr c3)),cT_,cF_,cF_,hc];rfl
  rw[dF_ c1,dF_ c2,dF_ c3,if_neg (by omega)]
  simp only[cF_]
  by_cases t1:t.kind=1
  .rw[dT_ t1,if_pos t1,cT_,(qg3.eq hv.1).1];rfl
  rw[dF_ t1,if_neg t1,cF_]
  by_cases t2:t.kind=2
  .rw[dT_ t2,if_pos t2,cT_,(qg5.eq hv.1).1];rfl
  rw[dF_ t2,if_neg t2,cF_]
  by_cases t3:t.kind=3
  .rw[dT_ t3,if_pos t3,cT_,(qg6.eq hv.1).1];rfl
  rw[dF_ t3,if_neg t3,cF_]
  by_cases t4:t.kind=4\/t.kind=5
  .rw[if_pos t4]
   obtain ⟨e,he⟩:∃e,t.elems=[e]:=List.length_eq_one_iff.1 (t45 t4)
   have hem:e∈t.elems:=by rw[he];exact m1_.2 rfl
   have hI:idx t.elems 0=some e:=by rw[he];simp[idx]
   have hE:=qr6 (fun a0 a1=>open Classical in if relT a1 t then tQae a0 a1 else none) v e hv.1 (fun x hx=>by
    simp only[if_pos (show relT e t from hem)]
    exact ih e hem x (ht.elem e hem) (hv.item x hx))
   have hH:q5q t.elems v.items=ql (fun x=>toS e x) v.items:=by rw[he,q5q]
   rw[hH]
   rcases t4 with t4|t5
   .rw[dT_ t4,cT_]
    by_cases v4:v.kind=4
    .rw[dT_ v4,cT_,hI,oB_,hE,if_pos (by omega)];rfl
    .rw[dF_ v4,cF_,if_neg (by omega)]
   .rw[dF_ (show ¬t.kind=4 by omega),dT_ t5,cT_,cF_]
    by_cases v5:v.kind=5
    .rw[dT_ v5,cT_,hI,oB_,hE,if_pos (by omega)];rfl
    .rw[dF_ v5,cF_,if_neg (by omega)]
  .have t6':t.kind=6:=by omega
   rw[if_neg t4,dF_ (show ¬t.kind=4 by omega),dF_ (show ¬t.kind=5 by omega),dT_ t6']
   simp only[cF_,cT_]
   by_cases v5:v.kind=5
   .rw[dT_ v5,cT_,if_pos v5,quk _ v t hv v5 (t6 t6') hl (fun e he x hx=>by
     simp only[if_pos (show relT e t from he)]
     exact ih e he x (ht.elem e he) hx)];rfl
   .rw[dF_ v5,cF_,if_neg v5]
open Go.RowKit
theorem qic {α:Type} (f:α->Val×Int):∀l:List α,(∀x∈l,(f x).2=0)->ql f l=(l.map fun x=>(f x).1,0)
 | [],_=>rfl
 | x::r,h=>by
  have h1:=h x (mS_ ..)
  have h2:=qic f r fun y hy=>h y (mC_ _ hy)
  rw[ql,if_neg (by simp[h1]),h2];simp
theorem qdp {α:Type} (f:α->Val×Int):∀l:List α,(ql f l).2=0->∀x∈l,(f x).2=0
 | [],_,x,hx=>absurd hx mN_
 | y::r,h,x,hx=>by
  rw[ql]at h
  by_cases h1:(f y).2=0
  .rw[if_neg (by simp[h1])]at h
   by_cases h2:(ql f r).2=0
   .rcases List.mem_cons.1 hx with rfl|hx
    .exact h1
    .exact qdp f r h2 x hx
   .rw[if_pos h2]at h;exact absurd h h2
  .rw[if_pos h1]at h;exact absurd h h1
theorem qi4 {α:Type} {k:Int} {keys:List ByteArray} {f:α->Val×Int} {l:List α} (h:∀x∈l,(f x).2=0):colR k keys (ql f l)=(Val.mk k 0 eS (l.map fun x=>(f x).1) keys,0):=by
 rw[qic f l h];unfold colR;rw[if_pos rfl]
theorem qi3 {k:Int} {keys:List ByteArray} {q:List Val×Int} (h:q.2≠0):colR k keys q=(vZ,q.2):=by unfold colR;rw[if_neg h]
inductive ToC (t:Ty) (v:Val):Prop
 | same:t.kind=0\/v.kind=0\/v.kind=6->toS t v=(v,0)->ToC t v
 | prim (f:Val->Option (Val×Int)):q7f t.kind f->t.kind≠0->v.kind≠0->v.kind≠6->t.kind=1\/t.kind=2\/t.kind=3->toS t v=q2m f v->ToC t v
 | coll (e:Ty):t.elems=[e]->t.kind=4\/t.kind=5->v.kind=t.kind->toS t v=colR v.kind v.keys (ql (fun x=>toS e x) v.items)->ToC t v
 | obj:t.kind=6->v.kind=5->(∀x∈v.keys,x∈t.names)->toS t v=colR 5 t.names (ql (fun p:Ty×ByteArray=>toS p.1 (look v.keys v.items p.2)) (t.elems.zip t.names))->ToC t v
 | bad:t.kind=4\/t.kind=5\/t.kind=6->v.kind≠0->v.kind≠6->(t.kind=6/\v.kind=5/\¬∀x∈v.keys,x∈t.names)\/(t.kind=6/\v.kind≠5)\/(t.kind≠6/\v.kind≠t.kind)->toS t v=(vZ,13)\/toS t v=(vZ,6)->ToC t v
theorem toC (t:Ty) (v:Val) (ht:Tok t):ToC t v:=by
 obtain ⟨hl,k0,k6,t6,t45,hri⟩:=ht.facts
 have h:=q5y t v
 by_cases c1:t.kind=0\/v.kind=0\/v.kind=6
 .rw[if_pos c1]at h;exact .same c1 h
 rw[if_neg c1]at h
 by_cases t1:t.kind=1
 .rw[if_pos t1]at h;exact .prim _ (by rw[t1];exact qg3) (by omega) (by omega) (by omega) (by omega) h
 rw[if_neg t1]at h
 by_cases t2:t.kind=2
 .rw[if_pos t2]at h;exact .prim _ (by rw[t2];exact qg5) (by omega) (by omega) (by omega) (by omega) h
 rw[if_neg t2]at h
 by_cases t3:t.kind=3
 .rw[if_pos t3]at h;exact .prim _ (by rw[t3];exact qg6) (by omega) (by omega) (by omega) (by omega) h
 rw[if_neg t3]at h
 by_cases t4:t.kind=4\/t.kind=5
 .rw[if_pos t4]at h
  by_cases hk:v.kind=t.kind
  .rw[if_pos hk]at h
   obtain ⟨e,he⟩:∃e,t.elems=[e]:=List.length_eq_one_iff.1 (t45 t4)
   rw[he,q5q]at h
   exact .coll e he t4 hk h
  .rw[if_neg hk]at h
   exact .bad (by omega) (by omega) (by omega) (.inr (.inr ⟨by omega,hk⟩)) (.inr h)
 rw[if_neg t4]at h
 by_cases v5:v.kind=5
 .rw[if_pos v5]at h
  by_cases hk:∀x∈v.keys,hasB t.names x=true
  .rw[if_pos hk]at h;exact .obj (by omega) v5 (fun x hx=>q52.1 (hk x hx)) h
  .rw[if_neg hk]at h
   exact .bad (by omega) (by omega) (by omega) (.inl ⟨by omega,v5,fun hh=>hk fun x hx=>q52.2 (hh x hx)⟩) (.inl h)
 .rw[if_neg v5]at h
  exact .bad (by omega) (by omega) (by omega) (.inr (.inl ⟨by omega,v5⟩)) (.inr h)
theorem qzi (t:Ty):∀v:Val,Tok t->Vok v->(toS t v).1.Fits:=by
 induction t using qg9 with
 | h t ih =>
  intro v ht hv
  obtain ⟨f1,f2,f3,f4,f5,f6,f7⟩:=hv.1.parts
  cases toC t v ht with
  | same _ h=>rw[h];exact hv.1
  | prim f hp _ _ _ _ h=>rw[h];exact (hp.eq hv.1).2.1
  | coll e he hk hk2 h =>
   have hem:e∈t.elems:=by rw[he];exact m1_.2 rfl
   rw[h]
   by_cases hz:(ql (fun x=>toS e x) v.items).2=0
   .rw[qi4 (qdp _ _ hz)]
    refine .mk f1 (by decide) q42 (by simpa using f4) f5 f6 fun y hy=>?_
    obtain ⟨z,hz,rfl⟩:=List.mem_map.1 hy
    exact ih e hem z (ht.elem e hem) (hv.item z hz)
   .rw[qi3 hz];exact q23
  | obj hk hk2 hn h =>
   rw[h]
   by_cases hz:(ql (fun p:Ty×ByteArray=>toS p.1 (look v.keys v.items p.2)) (t.elems.zip t.names)).2=0
   .rw[qi4 (qdp _ _ hz)]
    refine .mk (by decide) (by decide) q42 ?_ ht.1.parts.2.2.1 ht.1.parts.2.2.2.1 fun y hy=>?_
    .have:=ht.facts.1
     simp only[lM_,List.length_zip];omega
    .obtain ⟨z,hz,rfl⟩:=List.mem_map.1 hy
     have hem:z.1∈t.elems:=(List.of_mem_zip hz).1
     exact ih z.1 hem _ (ht.elem _ hem) (hv.look z.2)
   .rw[qi3 hz];exact q23
  | bad _ _ _ _ h=>rcases h with h|h<;>rw[h]<;>exact q23
open Go.RowKit
def toE (v:Val) (t:Ty):Val×Int:=if (toS t v).2=0 then (if qx (toS t v).1=0 then ((toS t v).1,0) else (vZ,qx (toS t v).1)) else (vZ,(toS t v).2)
theorem qgo (v:Val) (t:Ty) (ht:Tok t) (hv:Vok v):gQ04 v t=some (toE v t):=by
 unfold gQ04 toE
 rw[qzj t v ht hv,oB_]
 by_cases h:(toS t v).2=0
 .rw[dT_ h,cT_,if_pos h,show q2e (toS t v).1=some (qx (toS t v).1) from q1v (qzi t v ht hv),oB_]
  by_cases h2:qx (toS t v).1=0
  .rw[dT_ h2,if_pos h2];rfl
  .rw[dF_ h2,if_neg h2];rfl
 .rw[dF_ h,cF_,if_neg h]
theorem qcg {k : Int} (h : 0 <= k /\ k <= 3) : Tok (Ty.mk k [] []) :=
  ⟨.mk (by omega) (by simp) (by simp) (fun _ h => absurd h mN_) (fun _ h => absurd h mN_), .mk (by simp) (fun _ h => absurd h mN_),
   .mk h.1 (show k <= 6 by omega) (fun _ => rfl) (fun hh => by have : k = 4 \/ k = 5 := hh;omega) (fun i j _ a b ha => by simp at ha) (fun _ h => absurd h mN_)⟩
theorem q67 {k n:Int} {s:ByteArray} (h:qz (Val.mk k n s [] [])=0):qx (Val.mk k n s [] [])=0:=by
 unfold qx
 rw[q7s,if_neg (by decide),if_neg (by decide),if_neg (by simp[h])]
 rfl
theorem qa3 {v:Val} (hf:v.Fits) (h:qx v=0):Vok v:=⟨hf,32,qsi h⟩
theorem ql8 {s:ByteArray} (h:vtext s=0):qz (Val.mk 3 0 s [] [])=0:=by
 unfold qz
 rw[if_neg (show ¬q28 (Val.mk 3 0 s [] [])=false by simp[q28,qe,qm,qr,qp,qn,Val.kind,Val.num,Val.str,Val.items,Val.keys]),if_neg (fun h=>by cases h.1),if_neg (by simpa using h)]
 rfl
theorem ql7 {n:Int} (h:NumPlain.validB n=true):qz (Val.mk 2 n eS [] [])=0:=by
 have e:vtext eS=0:=by decide
 unfold qz
 rw[if_neg (show ¬q28 (Val.mk 2 n eS [] [])=false by simp[q28,qe,qm,qr,qp,qn,Val.kind,Val.num,Val.str,Val.items,Val.keys]),if_neg (fun hh=>by rw[show (Val.mk 2 n eS [] []).num=n from rfl,h]at hh;cases hh.2),if_neg (by simpa using e)]
 rfl
theorem texttrue:vtext ⟨#[116,114,117,101]⟩=0:=by decide
abbrev vText (s:ByteArray):Val:=Val.mk 3 0 s [] []
abbrev vNum (n:Int):Val:=Val.mk 2 n eS [] []
theorem qzt {n:Int} (h:NumPlain.validB n=true):Vok (vNum n):=qa3 (q43 (by decide) (by have:=(NumPlain.validB_iff n).1 h;omega) q42) (q67 (ql7 h))
theorem qzf (v:Val) (h:v.kind≠0) (h6:v.kind≠6):toS (Ty.mk 2 [] []) v=q2m gQ0c v:=by
 rw[q5y,if_neg (by simp[h,h6]),if_neg (by simp),if_pos (by simp)]
theorem qzg (v:Val) (h:v.kind≠0) (h6:v.kind≠6):toS (Ty.mk 3 [] []) v=q2m gQ0i v:=by
 rw[q5y,if_neg (by simp[h,h6]),if_neg (by simp),if_neg (by simp),if_pos (by simp)]
theorem qze (v:Val) (h:v.kind≠0) (h6:v.kind≠6):toS (Ty.mk 1 [] []) v=q2m gQ0a v:=by
 rw[q5y,if_neg (by simp[h,h6]),if_pos (by simp)]
theorem qzd {v:Val} {t:Ty} (h:(toS t v).2≠0):toE v t=(vZ,(toS t v).2):=by unfold toE;rw[if_neg h]
theorem qg4 {v:Val} {t:Ty} (h:(toS t v).2=0) (h2:qx (toS t v).1=0):toE v t=((toS t v).1,0):=by unfold toE;rw[if_pos h,if_pos h2]
open Go.RowKit
open Go.RowKit
theorem qje (l:List ByteArray) (v:ByteArray) (hl:l.length<=9223372036854775807):gQ4r l v=some (hasB l v):=by
 have h:=q1w (body:=gQ4s l v) (fun s=>∃i:Nat,s=(i:Int)/\i<=l.length/\hasB (l.drop i) v=hasB l v) (fun s=>l.length-s.toNat) (fun q=>q=hasB l v) (by
  rintro s ⟨i,rfl,hi,hh⟩
  rcases Nat.eq_or_lt_of_le hi with h0|h0
  .subst h0
   rw[List.drop_length]at hh
   exact .inr ⟨false,by simp only[gQ4s,dF_ (show ¬(l.length:Int)<l.length by omega),cF_],by rw[←hh];rfl⟩
  .have hx:=gE_ h0
   rw[List.drop_eq_getElem_cons h0]at hh
   have hc:hasB (l[i]::l.drop (i+1)) v=(decide (v=l[i]) || hasB (l.drop (i+1)) v):=rfl
   rw[hc]at hh
   by_cases he:l[i]=v
   .refine .inr ⟨true,by simp only[gQ4s,dT_ (show (i:Int)<l.length by omega),cT_,q9,hx,oB_,dT_ he],?_⟩
    rw[←hh,dT_ he.symm,Bool.true_or]
   .refine .inl ⟨((i+1:Nat):Int),by simp only[gQ4s,dT_ (show (i:Int)<l.length by omega),cT_,q9,hx,oB_,dF_ he,cF_,qg h0 hl],⟨i+1,rfl,h0,?_⟩,by simp only[Int.toNat_natCast];omega⟩
    rw[←hh,dF_ (fun k=>he k.symm),Bool.false_or]) 0 ⟨0,rfl,Nat.zero_le _,by simp⟩
 obtain ⟨q,h1,rfl⟩:=h
 exact h1
theorem qkl (ks:List ByteArray) (xs:List Val) (n:ByteArray) (i:Nat) (hi:i<ks.length) (hx:i<xs.length) :
  look (ks.drop i) (xs.drop i) n=if ks[i]=n then xs[i] else look (ks.drop (i+1)) (xs.drop (i+1)) n:=by
 rw[List.drop_eq_getElem_cons hi,List.drop_eq_getElem_cons hx];rfl
theorem qsd (v:Val) (key:ByteArray) (hf:v.Fits) (hk:v.kind=5) (hl:v.keys.length=v.items.length):∃b,gQ4d v key=some (look v.keys v.items key,b):=by
 obtain ⟨f1,f2,f3,f4,f5,f6,f7⟩:=hf.parts
 have hn:=q2b f5 (by decide)
 unfold gQ4d
 rw[dT_ hk,nT_,cF_]
 have h:=q1w (body:=gQ4e v key) (fun s=>∃i:Nat,s=(i:Int)/\i<=v.keys.length/\look (v.keys.drop i) (v.items.drop i) key=look v.keys v.items key) (fun s=>v.keys.length-s.toNat) (fun q=>q.1=look v.keys v.items key) (by
  rintro s ⟨i,rfl,hi,hh⟩
  rcases Nat.eq_or_lt_of_le hi with h0|h0
  .subst h0
   rw[List.drop_length]at hh
   refine .inr ⟨(vZ,false),by simp only[gQ4e,dF_ (show ¬(v.keys.length:Int)<v.keys.length by omega),cF_],?_⟩
   rw[←hh];simp[look]
  .have h1:i<v.items.length:=by omega
   have hx:=gE_ h0
   have hy:=gE_ h1
   rw[qkl _ _ _ _ h0 h1]at hh
   by_cases he:v.keys[i]=key
   .rw[if_pos he]at hh
    exact .inr ⟨(v.items[i],true),by simp only[gQ4e,dT_ (show (i:Int)<v.keys.length by omega),dT_ (show (i:Int)<v.items.length by omega),cT_,q9,hx,hy,oB_,dT_ he],hh⟩
   .rw[if_neg he]at hh
    exact .inl ⟨((i+1:Nat):Int),by simp only[gQ4e,dT_ (show (i:Int)<v.keys.length by omega),dT_ (show (i:Int)<v.items.length by omega),cT_,q9,hx,oB_,dF_ he,cF_,qg h0 (show v.keys.length<=9223372036854775807 by omega)],⟨i+1,rfl,h0,hh⟩,by simp only[Int.toNat_natCast];omega⟩) 0 ⟨0,rfl,Nat.zero_le _,by simp⟩
 obtain ⟨q,h1,h2⟩:=h
 exact ⟨q.2,by rw[h1,←h2]⟩
theorem qyl (v:Val):gQ4y v 1=gQ0a v:=by
 unfold gQ4y gQ0a
 rw[dT_ (show (1:Int)=1 from rfl),cT_]
 rfl
theorem qym (v:Val) (hf:v.Fits):gQ4y v 2=gQ0c v:=by
 obtain ⟨f1,f2,f3,f4,f5,f6,f7⟩:=hf.parts
 unfold gQ4y gQ0c
 rw[dF_ (show ¬(2:Int)=1 by decide),dT_ (show (2:Int)=2 from rfl),cF_,cT_]
 rw[show q72 v.str=some (NumPlain.parseB v.str) from q1v (by omega)]
 simp only[oB_,gQa3]
 by_cases h2:v.kind=2
 .rw[dT_ h2];rfl
 rw[dF_ h2]
 by_cases h3:v.kind=3
 .rw[dT_ h3]
  by_cases h4:(NumPlain.parseB v.str).2=0
  .rw[dT_ h4];rfl
  .rw[dF_ h4];rfl
 .rw[dF_ h3];rfl
theorem qyn (v:Val) (hf:v.Fits):gQ4y v 3=gQ0i v:=by
 obtain ⟨f1,f2,f3,f4,f5,f6,f7⟩:=hf.parts
 unfold gQ4y gQ0i gQ55
 rw[dF_ (show ¬(3:Int)=1 by decide),dF_ (show ¬(3:Int)=2 by decide),cF_,cF_]
 rw[show q71 v.num=some (fmtB v.num) from q1v f2]
 simp only[oB_,gQa5]
 by_cases h3:v.kind=3
 .rw[dT_ h3];rfl
 rw[dF_ h3]
 by_cases h2:v.kind=2
 .rw[dT_ h2];rfl
 rw[dF_ h2]
 by_cases h1:v.kind=1
 .rw[dT_ h1]
  cases decide (v.num=1)<;>rfl
 .rw[dF_ h1];rfl
theorem qts {O:Type} (l:List (Ty×ByteArray)) (f:Ty×ByteArray->Val×Int) {body:Int×List Val×List ByteArray->Option ((Int×List Val×List ByteArray)⊕O)} (R:List Val->List ByteArray->O) (E:Int->O)
  (step:∀(i:Nat) (acc:List Val) (x:Ty×ByteArray),i<l.length->l[i]?=some x->acc.length=i->body ((i:Int),acc,(l.take i).map (·.2))=some (if (f x).2=0 then .inl (((i+1:Nat):Int),acc++[(f x).1],(l.take (i+1)).map (·.2)) else .inr (E (f x).2)))
  (stop:∀acc:List Val,acc.length=l.length->body ((l.length:Int),acc,l.map (·.2))=some (.inr (R acc (l.map (·.2))))) :
  q7 body (0,[],[])=some (if (ql f l).2=0 then R (ql f l).1 (l.map (·.2)) else E (ql f l).2):=by
 have key:∀n (i:Nat) (acc:List Val),l.length-i=n->i<=l.length->acc.length=i ->
   q7 body ((i:Int),acc,(l.take i).map (·.2))=some (if (ql f (l.drop i)).2=0 then R (acc++(ql f (l.drop i)).1) (l.map (·.2)) else E (ql f (l.drop i)).2):=by
  intro n
  induction n with
  | zero =>
   intro i acc hn hi ha
   obtain rfl:i=l.length:=by omega
   rw[List.take_length,q2c (stop acc ha),List.drop_length]
   simp[ql]
  | succ n ih =>
   intro i acc hn hi ha
   have hlt:i<l.length:=by omega
   have hs:=step i acc _ hlt (gE_ hlt) ha
   rw[List.drop_eq_getElem_cons hlt]
   by_cases he:(f l[i]).2=0
   .rw[if_pos he]at hs
    rw[q4u hs,ih (i+1) _ (by omega) (by omega) (by simp[ha])]
    have e2:ql f (l[i]::l.drop (i+1))=if (ql f (l.drop (i+1))).2≠0 then ([],(ql f (l.drop (i+1))).2) else ((f l[i]).1::(ql f (l.drop (i+1))).1,0):=by
     rw[ql,if_neg (by simp[he])]
    rw[e2]
    by_cases hr:(ql f (l.drop (i+1))).2=0
    .simp[hr]
    .simp[hr]
   .rw[if_neg he]at hs
    rw[q2c hs,ql,if_pos he]
    simp[he]
 have:=key _ 0 [] rfl (Nat.zero_le _) rfl
 simpa using this
theorem qxh (rec:Val->Ty->Option (Val×Int)) (v:Val) (t:Ty) (hv:Vok v) (h5:v.kind=5) (ht:t.elems.length=t.names.length) (hl:t.elems.length<=1000)
  (h:∀e∈t.elems,∀x,Vok x->rec x e=some (toS e x)) :
  gQ4u rec v t=some (if ∀x∈v.keys,hasB t.names x=true then colR 5 t.names (ql (fun p:Ty×ByteArray=>toS p.1 (look v.keys v.items p.2)) (t.elems.zip t.names)) else (vZ,13)):=by
 obtain ⟨f1,f2,f3,f4,f5,f6,f7⟩:=hv.1.parts
 have hn:=q2b f5 (by decide)
 unfold gQ4u
 have hz:(t.elems.zip t.names).length=t.names.length:=by rw[List.length_zip];omega
 have hsnd:(t.elems.zip t.names).map (·.2)=t.names:=List.map_snd_zip (by omega)
 have inner:q7 (gQ4w rec v t) (0,[],[])=some (.inr (colR 5 t.names (ql (fun p:Ty×ByteArray=>toS p.1 (look v.keys v.items p.2)) (t.elems.zip t.names)))):=by
  rw[qts (t.elems.zip t.names) (fun p:Ty×ByteArray=>toS p.1 (look v.keys v.items p.2)) (body:=gQ4w rec v t) (fun acc ns=>.inr (Val.mk 5 0 eS acc ns,0)) (fun er=>.inr (vZ,er)) (fun i acc p hi hp ha=>?_) (fun acc ha=>?_)]
  .rw[hsnd];unfold colR;split<;>rfl
  .obtain ⟨he,hnm⟩:=q8p hp
   have hm:p.1∈t.elems:=List.mem_of_getElem? he
   obtain ⟨b,hg⟩:=qsd v p.2 hv.1 h5 (hv.shape.2.2.2.2.2.2.1 h5)
   have hr:=h p.1 hm _ (hv.look p.2)
   have hlt:decide ((i:Int)<t.names.length)=true:=dT_ (by omega)
   have hlt2:decide ((i:Int)<t.elems.length)=true:=dT_ (by omega)
   have htk:((t.elems.zip t.names).take (i+1)).map (·.2)=((t.elems.zip t.names).take i).map (·.2)++[p.2]:=by
    rw[List.take_add_one,hp];simp
   have hal:(((t.elems.zip t.names).take i).map (·.2)).length<1000:=by simp only[lM_,List.length_take];omega
   by_cases her:(toS p.1 (look v.keys v.items p.2)).2=0
   .rw[htk]
    simp only[gQ4w,hlt,hlt2,cT_,q9,hnm,he,oB_,hg,hr,dT_ her,nT_,cF_,q1k acc _ (m:=80) (n:=1000) (by decide) (show acc.length<1000 by omega) (by decide),q1k _ p.2 (m:=16) (n:=1000) (by decide) hal (by decide),qg (show i<t.names.length by omega) (show t.names.length<=9223372036854775807 by omega),if_pos her]
   .simp only[gQ4w,hlt,hlt2,cT_,q9,hnm,he,oB_,hg,hr,dF_ her,nF_,if_neg her]
  .rw[hz];simp only[gQ4w,dF_ (show ¬(t.names.length:Int)<t.names.length by omega),cF_]
 have:=q1w (body:=gQ4v rec v t) (fun k=>∃i:Nat,k=(i:Int)/\i<=v.keys.length/\∀(j:Nat) x,j<i->v.keys[j]?=some x->hasB t.names x=true) (fun k=>v.keys.length-k.toNat) (fun r=>r=if ∀x∈v.keys,hasB t.names x=true then colR 5 t.names (ql (fun p:Ty×ByteArray=>toS p.1 (look v.keys v.items p.2)) (t.elems.zip t.names)) else (vZ,13)) (by
  rintro k ⟨i,rfl,hi,hp⟩
  rcases Nat.eq_or_lt_of_le hi with h0|h0
  .subst h0
   refine .inr ⟨_,by simp only[gQ4v,dF_ (show ¬(v.keys.length:Int)<v.keys.length by omega),cF_,inner];rfl,?_⟩
   rw[if_pos]
   intro x hx
   obtain ⟨j,hj⟩:=List.getElem?_of_mem hx
   exact hp j x (List.getElem?_eq_some_iff.1 hj).1 hj
  .have hx:=gE_ h0
   have hm:v.keys[i]∈v.keys:=List.getElem_mem h0
   have hlt:decide ((i:Int)<v.keys.length)=true:=dT_ (by omega)
   cases hh:hasB t.names v.keys[i] with
   | true =>
    refine .inl ⟨((i+1:Nat):Int),by simp only[gQ4v,hlt,cT_,q9,hx,oB_,qje t.names v.keys[i] (by omega),hh,nT_,cF_,qg h0 (show v.keys.length<=9223372036854775807 by omega)],⟨i+1,rfl,h0,fun j x hj he=>?_⟩,by simp only[Int.toNat_natCast];omega⟩
    rcases Nat.eq_or_lt_of_le (Nat.le_of_lt_succ hj) with rfl|hj
    .rw[hx]at he;cases he;exact hh
    .exact hp j x hj he
   | false =>
    refine .inr ⟨(vZ,13),by simp only[gQ4v,hlt,cT_,q9,hx,oB_,qje t.names v.keys[i] (by omega),hh,nF_],?_⟩
    rw[if_neg]
    intro hall;rw[hall _ hm]at hh;cases hh) 0 ⟨0,rfl,Nat.zero_le _,fun j x hj=>by omega⟩
 obtain ⟨r,h1,rfl⟩:=this
 exact h1
theorem qma (rec:Val->Ty->Option (Val×Int)) (v:Val) (t e:Ty) (he:t.elems=[e]) (hf:v.Fits) (h:∀x∈v.items,rec x e=some (toS e x)) {body:Int×List Val->Option ((Int×List Val)⊕(Val×Int))} (hb:body=gQ51 rec v t) :
  q7 body (0,[])=some (colR v.kind v.keys (ql (fun x=>toS e x) v.items)):=by
 subst hb
 obtain ⟨f1,f2,f3,f4,f5,f6,f7⟩:=hf.parts
 have hn:=q2b f4 (by decide)
 have hI:idx t.elems 0=some e:=by rw[he];simp[idx]
 rw[qel v.items (fun x=>toS e x) (body:=gQ51 rec v t) (fun acc=>(Val.mk v.kind 0 eS acc v.keys,0)) (fun er=>(vZ,er)) (fun i acc x hi hx ha=>?_) (fun acc ha=>?_)]
 .unfold colR;rfl
 .have hm:x∈v.items:=List.mem_of_getElem? hx
  by_cases her:(toS e x).2=0
  .simp only[gQ51,dT_ (show (i:Int)<v.items.length by omega),cT_,q9,hx,hI,oB_,h x hm,dT_ her,nT_,cF_,q1k acc _ (m:=80) (by decide) (show acc.length<v.items.length by omega) f4,qg hi (show v.items.length<=9223372036854775807 by omega),if_pos her]
  .simp only[gQ51,dT_ (show (i:Int)<v.items.length by omega),cT_,q9,hx,hI,oB_,h x hm,dF_ her,nF_,if_neg her]
 .simp only[gQ51,dF_ (show ¬(v.items.length:Int)<v.items.length by omega),cF_]
open Classical in
theorem rto_eq (v:Val) (t:Ty):tQaz v t=gQ50 (gQ4u fun a0 a1=>if relT a1 t then tQaz a0 a1 else none) (fun a0 a1=>if relT a1 t then tQaz a0 a1 else none) v t:=q30 t v
open Classical in
theorem qmr (t:Ty):∀v:Val,Tok t->Vok v->tQaz v t=some (toS t v):=by
 induction t using qg9 with
 | h t ih =>
  intro v ht hv
  obtain ⟨hl,k0,k6,t6,t45,hri⟩:=ht.facts
  rw[rto_eq,q5y]
  unfold gQ50
  by_cases c1:t.kind=0
  .rw[dT_ c1,if_pos (.inl c1),cT_]
  by_cases c2:v.kind=0
  .rw[dF_ c1,dT_ c2,if_pos (.inr (.inl c2)),cT_,cF_]
  by_cases c3:v.kind=6
  .rw[dF_ c1,dF_ c2,dT_ c3,if_pos (.inr (.inr c3)),cT_,cF_,cF_]
  rw[dF_ c1,dF_ c2,dF_ c3,if_neg (by omega)]
  simp only[cF_]
  have hE:∀e,t.elems=[e]->∀x∈v.items,(fun a0 a1=>if relT a1 t then tQaz a0 a1 else none) x e=some (toS e x):=by
   intro e he x hx
   have hem:e∈t.elems:=by rw[he];exact m1_.2 rfl
   simp only[if_pos (show relT e t from hem)]
   exact ih e hem x (ht.elem e hem) (hv.item x hx)
  by_cases t6':t.kind=6
  .rw[dT_ t6',cT_,if_neg (by omega),if_neg (by omega),if_neg (by omega),if_neg (by omega)]
   by_cases v5:v.kind=5
   .rw[dT_ v5,nT_,cF_,if_pos v5,qxh _ v t hv v5 (t6 t6') hl (fun e he x hx=>by
     simp only[if_pos (show relT e t from he)]
     exact ih e he x (ht.elem e he) hx)];rfl
   .rw[dF_ v5,nF_,cT_,if_neg v5]
  rw[dF_ t6',cF_]
  by_cases t4:t.kind=4
  .obtain ⟨e,he⟩:∃e,t.elems=[e]:=List.length_eq_one_iff.1 (t45 (.inl t4))
   have hH:q5q t.elems v.items=ql (fun x=>toS e x) v.items:=by rw[he,q5q]
   rw[if_neg (by omega),if_neg (by omega),if_neg (by omega),if_pos (by omega),hH,dT_ t4,dF_ (show ¬t.kind=5 by omega),nT_,cF_,cF_]
   by_cases v4:v.kind=4
   .rw[dT_ v4,nT_,cF_,if_pos (by omega),dT_ (show (t.elems.length:Int)=1 by rw[he];rfl),nT_,cF_]
    exact qma _ v t e he hv.1 (hE e he) rfl
   .rw[dF_ v4,nF_,cT_,if_neg (by omega)]
  by_cases t5:t.kind=5
  .obtain ⟨e,he⟩:∃e,t.elems=[e]:=List.length_eq_one_iff.1 (t45 (.inr t5))
   have hH:q5q t.elems v.items=ql (fun x=>toS e x) v.items:=by rw[he,q5q]
   rw[if_neg (by omega),if_neg (by omega),if_neg (by omega),if_pos (by omega),hH,dF_ t4,dT_ t5,nF_,cT_,nT_,cF_]
   by_cases v5:v.kind=5
   .rw[dT_ v5,nT_,cF_,if_pos (by omega),dT_ (show (t.elems.length:Int)=1 by rw[he];rfl),nT_,cF_]
    exact qma _ v t e he hv.1 (hE e he) rfl
   .rw[dF_ v5,nF_,cT_,if_neg (by omega)]
  rw[dF_ t4,dF_ t5,nF_,cT_,cT_]
  by_cases t1:t.kind=1
  .rw[if_pos t1,t1,qyl,(qg3.eq hv.1).1];rfl
  by_cases t2:t.kind=2
  .rw[if_neg t1,if_pos t2,t2,qym v hv.1,(qg5.eq hv.1).1];rfl
  have t3:t.kind=3:=by omega
  rw[if_neg t1,if_neg t2,if_pos t3,t3,qyn v hv.1,(qg6.eq hv.1).1];rfl
open Classical in
theorem qwy (a b:Val):tQaq a b=gQ49 (fun a0 a1=>if relV a0 a then tQaq a0 a1 else none) a b:=q30 a b
open Classical in
theorem qmh (a:Val):∀b:Val,a.Fits->∃q,tQaq a b=some q/\(q=true↔a=b):=by
 induction a using wfV.induction with
 | h a ih =>
  intro b hf
  obtain ⟨f1,f2,f3,f4,f5,f6,f7⟩:=hf.parts
  rw[qwy]
  unfold gQ49
  by_cases h1:a.kind=b.kind
  case neg=>exact ⟨false,by simp[h1],by simp;intro e;subst e;exact h1 rfl⟩
  by_cases h2:a.num=b.num
  case neg=>exact ⟨false,by simp[h1,h2],by simp;intro e;subst e;exact h2 rfl⟩
  by_cases h3:a.str=b.str
  case neg=>exact ⟨false,by simp[h1,h2,h3],by simp;intro e;subst e;exact h3 rfl⟩
  by_cases h5:a.items.length=b.items.length
  case neg =>
   have h5':¬(a.items.length:Int)=b.items.length:=by omega
   exact ⟨false,by simp[h1,h2,h3,h5'],by simp;intro e;subst e;exact h5 rfl⟩
  by_cases h4:a.keys.length=b.keys.length
  case neg =>
   have h4':¬(a.keys.length:Int)=b.keys.length:=by omega
   exact ⟨false,by simp[h1,h2,h3,h5,h4'],by simp;intro e;subst e;exact h4 rfl⟩
  rw[dT_ h1,dT_ h2,dT_ h3,dT_ (show (a.items.length:Int)=b.items.length by omega),dT_ (show (a.keys.length:Int)=b.keys.length by omega)]
  simp only[nT_,cF_]
  have hn:=q2b f4 (by decide)
  have hm:=q2b f5 (by decide)
  have inner:∃q,q7 (gQ4b (fun a0 a1=>if relV a0 a then tQaq a0 a1 else none) a b) 0=some (.inr q)/\(q=true↔∀i,i<a.items.length->a.items[i]?=b.items[i]?):=by
   have:=q1w (body:=gQ4b (fun a0 a1=>if relV a0 a then tQaq a0 a1 else none) a b) (fun s=>∃i:Nat,s=(i:Int)/\i<=a.items.length/\∀j,j<i->a.items[j]?=b.items[j]?) (fun s=>a.items.length-s.toNat) (fun r=>∃q,r=.inr q/\(q=true↔∀i,i<a.items.length->a.items[i]?=b.items[i]?)) (by
    rintro s ⟨i,rfl,hi,hp⟩
    rcases Nat.eq_or_lt_of_le hi with h0|h0
    .subst h0
     exact .inr ⟨.inr true,by simp only[gQ4b,dF_ (show ¬(a.items.length:Int)<a.items.length by omega),cF_],true,rfl,by simpa using hp⟩
    .have hxi:=gE_ h0
     have hyi:=gE_ (show i<b.items.length by omega)
     have hmem:a.items[i]∈a.items:=List.getElem_mem h0
     obtain ⟨q,hq,hiff⟩:=ih _ hmem b.items[i] (f7 _ hmem)
     have hrel:relV a.items[i] a:=hmem
     have hlt:decide ((i:Int)<a.items.length)=true:=dT_ (by omega)
     cases q with
     | true =>
      refine .inl ⟨((i+1:Nat):Int),by simp only[gQ4b,hlt,cT_,q9,hxi,hyi,oB_,if_pos hrel,hq,nT_,cF_,qg h0 (show a.items.length<=9223372036854775807 by omega)],⟨i+1,rfl,h0,fun j hj=>?_⟩,by simp only[Int.toNat_natCast];omega⟩
      rcases Nat.eq_or_lt_of_le (Nat.le_of_lt_succ hj) with rfl|hj
      .rw[hxi,hyi,hiff.1 rfl]
      .exact hp j hj
     | false =>
      refine .inr ⟨.inr false,by simp only[gQ4b,hlt,cT_,q9,hxi,hyi,oB_,if_pos hrel,hq,nF_],false,rfl,⟨fun h=>(by cases h),fun hall=>?_⟩⟩
      have he:=hall i h0
      rw[hxi,hyi]at he;simp at he
      have:=hiff.2 he;cases this) 0 ⟨0,rfl,Nat.zero_le _,fun j hj=>by omega⟩
   obtain ⟨r,h1,q,rfl,h2⟩:=this
   exact ⟨q,h1,h2⟩
  obtain ⟨q0,i1,i2⟩:=inner
  have:=q1w (body:=gQ4a (fun a0 a1=>if relV a0 a then tQaq a0 a1 else none) a b) (fun s=>∃i:Nat,s=(i:Int)/\i<=a.keys.length/\∀j,j<i->a.keys[j]?=b.keys[j]?) (fun s=>a.keys.length-s.toNat) (fun q=>q=true↔a=b) (by
   rintro s ⟨i,rfl,hi,hp⟩
   rcases Nat.eq_or_lt_of_le hi with h0|h0
   .subst h0
    refine .inr ⟨q0,by simp only[gQ4a,dF_ (show ¬(a.keys.length:Int)<a.keys.length by omega),cF_,i1],i2.trans ⟨fun hall=>?_,?_⟩⟩
    .exact q8m h1 h2 h3 (qbj h5 hall) (qbj h4 hp)
    .intro e i _;rw[e]
   .have hxi:=gE_ h0
    have hyi:=gE_ (show i<b.keys.length by omega)
    have hlt:decide ((i:Int)<a.keys.length)=true:=dT_ (by omega)
    by_cases he:a.keys[i]=b.keys[i]
    .refine .inl ⟨((i+1:Nat):Int),by simp only[gQ4a,hlt,cT_,q9,hxi,hyi,oB_,dT_ he,nT_,cF_,qg h0 (show a.keys.length<=9223372036854775807 by omega)],⟨i+1,rfl,h0,fun j hj=>?_⟩,by simp only[Int.toNat_natCast];omega⟩
     rcases Nat.eq_or_lt_of_le (Nat.le_of_lt_succ hj) with rfl|hj
     .rw[hxi,hyi,he]
     .exact hp j hj
    .refine .inr ⟨false,by simp only[gQ4a,hlt,cT_,q9,hxi,hyi,oB_,dF_ he,nF_],⟨fun h=>(by cases h),fun e=>?_⟩⟩
     subst e;exact absurd rfl he) 0 ⟨0,rfl,Nat.zero_le _,fun j hj=>by omega⟩
  exact this
theorem q106 (n:Int) (h:-9223372036854775808<=n/\n<=9223372036854775807):vtext (fmtB n)=0:=by
 have hl:=itoa_len' n h.1 (by omega)
 have hs:(fmtB n).size<=20:=by
  show (fmtB n).size<=_
  unfold fmtB
  rw[←ByteArray.size_data,List.size_toArray]
  omega
 have hb:∀b∈Lib.itoa n,b.toNat<128:=by
  have hd:∀(k u:Nat),u<=k->∀b∈Lib.decDigits u,b.toNat<128:=by
   intro k
   induction k with
   | zero =>
    intro u hu b hb
    rw[Lib.decDigits_one (by omega)]at hb
    obtain rfl:u=0:=by omega
    simp at hb;subst hb;decide
   | succ k ih =>
    intro u hu b hb
    by_cases h:u<10
    .rw[Lib.decDigits_one h]at hb
     simp at hb;subst hb
     simp[UInt8.toNat_ofNat'];omega
    .rw[Lib.decDigits,dif_neg h]at hb
     rcases mA_.1 hb with hb|hb
     .exact ih (u / 10) (by omega) b hb
     .simp at hb;subst hb
      simp[UInt8.toNat_ofNat'];omega
  intro b hb
  unfold Lib.itoa at hb
  split at hb
  .rcases List.mem_cons.1 (by simpa using hb) with rfl|hb
   .decide
   .exact hd _ _ (Nat.le_refl _) b hb
  .exact hd _ _ (Nat.le_refl _) b hb
 unfold vtext
 rw[if_neg (by omega),if_pos]
 unfold utfB
 rw[dT_ (by omega),Bool.true_and]
 have e:(fmtB n).data.toList=Lib.itoa n:=by unfold fmtB;simp
 rw[e,Lib.validD_ascii (Lib.itoa n).length (Lib.itoa n) (fun b hb'=>hb b (by simpa using hb'))]
 simp[Lib.validD_nil]
theorem quh (n:Int) (h:n=0\/n=1):qz (Val.mk 1 n eS [] [])=0:=by
 have e:vtext eS=0:=by decide
 unfold qz
 rw[if_neg (show ¬q28 (Val.mk 1 n eS [] [])=false by rcases h with rfl|rfl<;>simp[q28,qe,qm,qr,qp,qn,Val.kind,Val.num,Val.str,Val.items,Val.keys]),if_neg (fun hh=>by cases hh.1),if_neg (by simpa using e)]
 rfl
theorem textfalse:vtext ⟨#[102,97,108,115,101]⟩=0:=by decide
open Go.RowKit
abbrev vU:Val:=Val.mk 6 0 eS [] []
def bV (b:Bool):Val:=Val.mk 1 (if b then 1 else 0) eS [] []
structure Ck (v:Val):Prop where
 ok:Vok v
 ck:qx v=0
theorem qci {v:Val} (h:Vok v) (h6:v.kind=6):v=vU:=by
 obtain ⟨s0,s1,s2,s3,s4,s5,s6,s7⟩:=h.shape
 exact q8m h6 (s2 (by omega) (by omega)) (s4 (by omega)) (s5 (by omega) (by omega)) (s7 (by omega))
theorem ql5:qz vU=0:=by
 have e:vtext eS=0:=by decide
 unfold qz
 rw[if_neg (show ¬q28 vU=false by simp[q28,qe,qm,qr,qp,qn,Val.kind,Val.num,Val.str,Val.items,Val.keys]),if_neg (fun hh=>by cases hh.1),if_neg (by simpa using e)]
 rfl
theorem q3m:vU.Fits:=q43 (by decide) (by decide) q42
theorem qgd:Ck vU:=⟨qa3 q3m (q67 ql5),q67 ql5⟩
theorem qd0 (b:Bool):Ck (bV b):=by
 have h:qx (bV b)=0:=q67 (quh _ (by cases b<;>simp))
 exact ⟨qa3 (q43 (by decide) (by cases b<;>decide) q42) h,h⟩
theorem qzs {n:Int} (h:NumPlain.validB n=true):Ck (vNum n):=⟨qzt h,q67 (ql7 h)⟩
theorem qgc {s:ByteArray} (h:vtext s=0) (hs:s.size<=140737488351232):Ck (vText s):=⟨qa3 (q43 (by decide) (by decide) hs) (q67 (ql8 h)),q67 (ql8 h)⟩
theorem qvu {s:ByteArray} (h:(NumPlain.parseB s).2=0):NumPlain.validB (NumPlain.parseB s).1=true:=by
 unfold NumPlain.parseB NumPlain.parse at h ⊢
 split at h
 .rename_i hc
  rw[if_pos hc]
  rcases NumPlain.right_cases (NumPlain.sval s.data.toList) with ⟨e,hv⟩|e
  .rw[e];exact hv
  .rw[e]at h;cases h
 .cases h
theorem qrz {n:Int} (h:-9223372036854775808<=n/\n<=9223372036854775807):(fmtB n).size<=140737488351232:=by
 have:=itoa_len' n h.1 (by omega)
 unfold fmtB
 rw[←ByteArray.size_data,List.size_toArray];omega
def cvS (k:Int) (v:Val):Val×Int:=if v.kind=0 then (vZ,6) else toS (Ty.mk k [] []) v
inductive Sc (k:Int) (v:Val):Prop
 | unk:v=vU->cvS k v=(vU,0)->Sc k v
 | val {x:Val}:v.kind≠6->v.items=[]->x.items=[]->x.kind=k->Ck x->cvS k v=(x,0)->Sc k v
 | bad:v.kind≠6->cvS k v=(vZ,6)->Sc k v
theorem qao {k:Int} (hk:k=1\/k=2\/k=3) {v:Val} (h:Ck v):Sc k v:=by
 obtain ⟨hv,hc⟩:=h
 obtain ⟨f1,f2,f3,f4,f5,f6,f7⟩:=hv.1.parts
 obtain ⟨s0,s1,s2,s3,s4,s5,s6,s7⟩:=hv.shape
 by_cases h6:v.kind=6
 .obtain rfl:=qci hv h6
  refine .unk rfl ?_
  unfold cvS
  rw[if_neg (by decide),q5y,if_pos (.inr (.inr rfl))]
 by_cases h0:v.kind=0
 .exact .bad h6 (by unfold cvS;rw[if_pos h0])
 have e:cvS k v=toS (Ty.mk k [] []) v:=by unfold cvS;rw[if_neg h0]
 have self:v.kind=k->toS (Ty.mk k [] []) v=(v,0)->Sc k v:=fun h1 h2=>.val h6 (s5 (by omega) (by omega)) (s5 (by omega) (by omega)) h1 ⟨hv,hc⟩ (e.trans h2)
 rcases hk with rfl|rfl|rfl
 .rw[qze v h0 h6]at e self
  unfold q2m gQ0a at e self
  by_cases h1:v.kind=1
  .rw[dT_ h1]at self;exact self h1 rfl
  rw[dF_ h1,cF_]at e
  by_cases h3:v.kind=3
  case neg=>rw[dF_ h3]at e;exact .bad h6 e
  rw[dT_ h3,cT_]at e
  have hi:=s5 (by omega) (by omega)
  cases hd:decide (v.str=(⟨#[116,114,117,101]⟩:ByteArray))
  .rw[hd,cF_]at e
   cases hd2:decide (v.str=(⟨#[102,97,108,115,101]⟩:ByteArray))
   .rw[hd2]at e;exact .bad h6 e
   .rw[hd2]at e;exact .val h6 hi rfl rfl (qd0 false) e
  .rw[hd]at e;exact .val h6 hi rfl rfl (qd0 true) e
 .rw[qzf v h0 h6]at e self
  unfold q2m gQ0c at e self
  by_cases h1:v.kind=2
  .rw[dT_ h1]at self;exact self h1 rfl
  rw[dF_ h1,cF_]at e
  by_cases h3:v.kind=3
  case neg=>rw[dF_ h3]at e;exact .bad h6 e
  rw[dT_ h3,nT_,cF_,show q72 v.str=some (NumPlain.parseB v.str) from q1v (by omega),oB_]at e
  have hi:=s5 (by omega) (by omega)
  by_cases hp:(NumPlain.parseB v.str).2=0
  .rw[dT_ hp]at e
   exact .val h6 hi rfl rfl (qzs (qvu hp)) e
  .rw[dF_ hp]at e;exact .bad h6 e
 .rw[qzg v h0 h6]at e self
  unfold q2m gQ0i at e self
  by_cases h1:v.kind=3
  .rw[dT_ h1]at self;exact self h1 rfl
  rw[dF_ h1,cF_]at e
  by_cases h2:v.kind=2
  .rw[dT_ h2,cT_,show q71 v.num=some (fmtB v.num) from q1v f2,oB_]at e
   exact .val h6 (s5 (by omega) (by omega)) rfl rfl (qgc (q106 _ f2) (qrz f2)) e
  rw[dF_ h2,cF_]at e
  by_cases h3:v.kind=1
  .rw[dT_ h3,cT_]at e
   have hi:=s5 (by omega) (by omega)
   cases hd:decide (v.num=1)
   .rw[hd]at e;exact .val h6 hi rfl rfl (qgc textfalse (by decide)) e
   .rw[hd]at e;exact .val h6 hi rfl rfl (qgc texttrue (by decide)) e
  .rw[dF_ h3]at e;exact .bad h6 e
theorem qnf {k:Int} (hk:k=1\/k=2\/k=3) {v:Val} (h:Ck v) (h0:v.kind≠0):toE v (Ty.mk k [] [])=cvS k v:=by
 have e:cvS k v=toS (Ty.mk k [] []) v:=by unfold cvS;rw[if_neg h0]
 cases qao hk h with
 | unk h1 h2 =>
  rw[h2]at e
  rw[qg4 (by rw[←e]) (by rw[←e];exact qgd.ck),←e,h2]
 | val _ _ _ _ hx h2 =>
  rw[h2]at e
  rw[qg4 (by rw[←e]) (by rw[←e];exact hx.ck),←e,h2]
 | bad _ h2 =>
  rw[h2]at e
  rw[qzd (by rw[←e];decide),←e,h2]
theorem To_sc {k:Int} (hk:k=1\/k=2\/k=3) {v:Val} (h:Ck v) (h0:v.kind≠0):gQ04 v (Ty.mk k [] [])=some (cvS k v):=by
 rw[qgo v _ (qcg (by omega)) h.ok,qnf hk h h0]
theorem rTo_sc {k:Int} (hk:k=1\/k=2\/k=3) {v:Val} (h:Ck v) (h0:v.kind≠0):gQ4p v (Ty.mk k [] [])=some (cvS k v):=by
 have e:cvS k v=toS (Ty.mk k [] []) v:=by unfold cvS;rw[if_neg h0]
 unfold gQ4p
 rw[qmr _ v (qcg (by omega)) h.ok,←e]
 cases qao hk h with
 | unk h1 h2 =>
  rw[h2,oB_,show q2e vU=some (qx vU) from q1v q3m,qgd.ck];rfl
 | @val x _ _ _ _ hx h2 =>
  rw[h2,oB_,show q2e x=some (qx x) from q1v hx.ok.1,hx.ck];rfl
 | bad _ h2=>rw[h2];rfl
theorem qtt {α:Type} (l:List α) (p:α->Bool) {body:Int->Option (Int⊕Int)} (hl:l.length<=9223372036854775807)
  (step:∀(i:Nat) x,i<l.length->l[i]?=some x->body (i:Int)=some (if p x then .inr (i:Int) else .inl (IntKind.i64.wrap ((i:Int)+1)))) (stop:body (l.length:Int)=some (.inr (-1))) :
  ∃n:Int,q7 body 0=some n/\decide (n >= 0)=l.any p:=by
 refine q1w (body:=body) (fun s=>∃i:Nat,s=(i:Int)/\i<=l.length/\(l.drop i).any p=l.any p) (fun s=>l.length-s.toNat) (fun n=>decide (n >= 0)=l.any p) ?_ 0 ⟨0,rfl,Nat.zero_le _,by simp⟩
 rintro s ⟨i,rfl,hi,hp⟩
 rcases Nat.eq_or_lt_of_le hi with h0|h0
 .subst h0
  refine .inr ⟨-1,stop,?_⟩
  rw[←hp,List.drop_length];rfl
 .have hx:=gE_ h0
  have hs:=step i _ h0 hx
  rw[List.drop_eq_getElem_cons h0,List.any_cons]at hp
  cases hq:p l[i] with
  | true =>
   rw[hq,if_pos rfl]at hs
   refine .inr ⟨_,hs,?_⟩
   rw[←hp,hq];simp
  | false =>
   rw[hq,if_neg (by decide),qg h0 hl]at hs
   refine .inl ⟨_,hs,⟨i+1,rfl,h0,?_⟩,by simp only[Int.toNat_natCast];omega⟩
   rw[←hp,hq];rfl
mutual
def qc:Val->Bool
 | .mk k _ _ items _=>decide (k≠6)&&qbc items
def qbc:List Val->Bool
 | []=>true
 | x::r=>qc x&&qbc r
end
theorem qka:∀l:List Val,qbc l=l.all qc
 | []=>rfl
 | x::r=>by rw[qbc,qka r,List.all_cons]
theorem q87 (v:Val):qc v=(decide (v.kind≠6)&&v.items.all qc):=by
 cases v;rw[qc,qka];rfl
theorem q3g {v:Val} (h:qc v=true):∀x∈v.items,qc x=true:=by
 rw[q87,Bool.and_eq_true]at h
 exact List.all_eq_true.1 h.2
theorem q24 {v:Val} (h:qc v=true):v.kind≠6:=by
 rw[q87,Bool.and_eq_true]at h
 simpa using h.1
open Go.RowKit
theorem qsm {l:List ByteArray} {v:ByteArray} (h:v ∉ l):hasB l v=false:=by
 cases e:hasB l v with
 | false=>rfl
 | true=>exact absurd (q52.1 e) h
theorem qsf (v:Val) (key:ByteArray) (hf:v.Fits) (hk:v.kind=5) (hl:v.keys.length=v.items.length) (hr:Rising v.keys):gQ9m v key=some (look v.keys v.items key,hasB v.keys key):=by
 obtain ⟨f1,f2,f3,f4,f5,f6,f7⟩:=hf.parts
 obtain ⟨q,h1,h2,h3,h4,h5⟩:=qmw v.keys key (by have:=q2b f5 (by decide);omega) hr
 have hk':decide (v.kind=5)=true:=dT_ hk
 unfold gQ9m
 rw[h1,oB_,hk',nT_,cF_]
 cases hq:q.2 with
 | false =>
  rw[nF_,cT_,qej _ _ _ (h5 hq),qsm (h5 hq)]
 | true =>
  rw[nT_,cF_]
  have e:=h4 hq
  obtain ⟨hi,_⟩:=List.getElem?_eq_some_iff.1 e
  have hi':q.1.toNat<v.items.length:=by omega
  have hd:decide (q.1 >= (v.items.length:Int))=false:=dF_ (by omega)
  have hI:idx v.items q.1=some v.items[q.1.toNat]:=by
   have:=q9 v.items q.1.toNat
   rw[show ((q.1.toNat:Nat):Int)=q.1 by omega]at this
   rw[this,gE_ hi']
  rw[hd,cF_,hI,oB_,qdk _ (f7 _ (List.getElem_mem hi')),oB_]
  rw[qei _ _ _ _ _ hr e (gE_ hi'),q52.2 (List.mem_of_getElem? e)]
theorem qsc (v:Val) (key:ByteArray) (hf:v.Fits) (hk:v.kind=5) (hl:v.keys.length=v.items.length):gQ4d v key=some (look v.keys v.items key,hasB v.keys key):=by
 obtain ⟨f1,f2,f3,f4,f5,f6,f7⟩:=hf.parts
 have hn:=q2b f5 (by decide)
 unfold gQ4d
 rw[dT_ hk,nT_,cF_]
 have h:=q1w (body:=gQ4e v key) (fun s=>∃i:Nat,s=(i:Int)/\i<=v.keys.length/\look (v.keys.drop i) (v.items.drop i) key=look v.keys v.items key/\hasB (v.keys.drop i) key=hasB v.keys key) (fun s=>v.keys.length-s.toNat) (fun q=>q=(look v.keys v.items key,hasB v.keys key)) (by
  rintro s ⟨i,rfl,hi,hh,hg⟩
  rcases Nat.eq_or_lt_of_le hi with h0|h0
  .subst h0
   rw[List.drop_length]at hh hg
   refine .inr ⟨(vZ,false),by simp only[gQ4e,dF_ (show ¬(v.keys.length:Int)<v.keys.length by omega),cF_],?_⟩
   rw[←hh,←hg];simp[look,hasB]
  .have h1:i<v.items.length:=by omega
   have hx:=gE_ h0
   have hy:=gE_ h1
   rw[qkl _ _ _ _ h0 h1]at hh
   by_cases he:v.keys[i]=key
   .rw[if_pos he]at hh
    refine .inr ⟨(v.items[i],true),by simp only[gQ4e,dT_ (show (i:Int)<v.keys.length by omega),dT_ (show (i:Int)<v.items.length by omega),cT_,q9,hx,hy,oB_,dT_ he],?_⟩
    rw[←hh,q52.2 (he ▸ List.getElem_mem h0)]
   .rw[if_neg he]at hh
    refine .inl ⟨((i+1:Nat):Int),by simp only[gQ4e,dT_ (show (i:Int)<v.keys.length by omega),dT_ (show (i:Int)<v.items.length by omega),cT_,q9,hx,oB_,dF_ he,cF_,qg h0 (show v.keys.length<=9223372036854775807 by omega)],⟨i+1,rfl,h0,hh,?_⟩,by simp only[Int.toNat_natCast];omega⟩
    rw[←hg,List.drop_eq_getElem_cons h0]
    show hasB (v.keys.drop (i+1)) key=(decide (key=v.keys[i]) || hasB (v.keys.drop (i+1)) key)
    rw[dF_ (fun q=>he q.symm),Bool.false_or]) 0 ⟨0,rfl,Nat.zero_le _,by simp,by simp⟩
 obtain ⟨q,h1,rfl⟩:=h
 exact h1
theorem ck_of {v:Val} (hf:v.Fits) (h:qx v=0):Ck v:=⟨qa3 hf h,h⟩
mutual
theorem qhw:∀(x:Val) (lv n lv' n':Int),lv'<=lv->n'<=n->(q10 x lv n).1=0->(q10 x lv' n').1=0/\(q10 x lv' n').2<=(q10 x lv n).2
 | .mk k m s items keys,lv,n,lv',n',h1,h2,h=>by
  rw[q10]at h ⊢
  rw[q10]
  by_cases c1:32<lv
  .rw[if_pos c1]at h;simp at h
  rw[if_neg c1]at h ⊢
  rw[if_neg (show ¬32<lv' by omega)]
  by_cases c2:4096<=n
  .rw[if_pos c2]at h;simp at h
  rw[if_neg c2]at h ⊢
  rw[if_neg (show ¬4096<=n' by omega)]
  by_cases c3:qz (.mk k m s items keys)≠0
  .rw[if_pos c3]at h;exact absurd h c3
  rw[if_neg c3]at h ⊢
  rw[if_neg c3]
  exact qhu items (lv+1) (n+1) (lv'+1) (n'+1) (by omega) (by omega) h
theorem qhu:∀(l:List Val) (lv n lv' n':Int),lv'<=lv->n'<=n->(q13 l lv n).1=0->(q13 l lv' n').1=0/\(q13 l lv' n').2<=(q13 l lv n).2
 | [],lv,n,lv',n',h1,h2,h=>by simp only[q13];exact ⟨trivial,h2⟩
 | x::r,lv,n,lv',n',h1,h2,h=>by
  rw[q13]at h ⊢
  rw[q13]
  by_cases c:(q10 x lv n).1≠0
  .rw[if_pos c]at h;exact absurd h c
  rw[if_neg c]at h ⊢
  obtain ⟨g1,g2⟩:=qhw x lv n lv' n' h1 h2 (Classical.not_not.1 c)
  rw[if_neg (by simp[g1])]
  exact qhu r lv _ lv' _ h1 g2 h
end
theorem qht:∀(l:List Val) (lv n:Int),1<=lv->0<=n->n<=4096->(q13 l lv n).1=0->∀x∈l,qx x=0
 | [],_,_,_,_,_,_,x,hx=>absurd hx mN_
 | y::r,lv,n,h1,h2,h3,h,x,hx=>by
  rw[q13]at h
  by_cases c:(q10 y lv n).1≠0
  .rw[if_pos c]at h;exact absurd h c
  rw[if_neg c]at h
  have c':=Classical.not_not.1 c
  rcases List.mem_cons.1 hx with rfl|hx
  .exact (qhw x lv n 1 0 h1 h2 c').1
  .have:=qan y lv n h2 h3
   exact qht r lv _ h1 (by omega) this.2 h x hx
theorem qq7 {v:Val} (h:qx v=0):∀x∈v.items,qx x=0:=by
 unfold qx at h
 rw[q7s,if_neg (by decide),if_neg (by decide)]at h
 by_cases c:qz v≠0
 .rw[if_pos c]at h;exact absurd h c
 rw[if_neg c]at h
 exact qht v.items 2 1 (by decide) (by decide) (by decide) h
theorem Ck.item {v:Val} (h:Ck v):∀x∈v.items,Ck x:=fun x hx=>⟨h.ok.item x hx,qq7 h.ck x hx⟩
theorem vZ_ck:Ck vZ:=⟨vZ_ok,q67 qnm.node⟩
theorem Ck.look {v:Val} (h:Ck v) (n:ByteArray):Ck (look v.keys v.items n):=by
 rcases qbm v.keys v.items n with e|e
 .exact h.item _ e
 .rw[e];exact vZ_ck
end Abs
end Go.Proofs.YtagadjpmkggjdaaGreatDoor
end
