/-
  Texts that read as a value: elements between commas, blanks between signs.
  What Quote writes, Unquote reads.
  What Quote writes, Unquote reads: whole texts.
  Simple values read back.
  Formatted values read back: keys, elements.
  Formatted mappings read back; every checked value's text reads back.
  Every checked value's text reads back: the law Back.
-/
import Derived.Test.YtpidpioifnnllaaGreatDoorVpQ
namespace Go.Proofs.YtpidpioifnnllaaGreatDoor
set_option linter.unusedSimpArgs false
set_option linter.unusedVariables false
open Go.RowKit Go.Lib
namespace Abs
set_option maxRecDepth 100000
def Stop:List UInt8→Prop
 | []=>True
 | c::_=>digB c=false
def Rds (d:Nat) (x:Val) (t:List UInt8):Prop:=∀ r,Stop r→qg finV d (t++r)=.inr (x,r)
def q27 (b:List UInt8):Prop:=∀ c ∈ b,isBl c=true
theorem q58:∀ {b:List UInt8} (l:List UInt8),q27 b→qc (b++l)=qc l
 | [],l,_=>rfl
 | c::b,l,h=>by
  rw[List.cons_append,q1i,if_pos (h c List.mem_cons_self)]
  exact q58 l fun x hx=>h x (List.mem_cons_of_mem _ hx)
theorem qo7 {d:Nat} {a b:List UInt8} (h:qc a=qc b):qg finV d a=qg finV d b:=by
 rw[← q4j,h,q4j]
theorem Rds.blanks {d:Nat} {x:Val} {t b:List UInt8} (h:Rds d x t) (hb:q27 b):Rds d x (b++t):=fun r hr=>by
 rw[List.append_assoc,qo7 (q58 _ hb)]
 exact h r hr
def jn:List (List UInt8)→List UInt8
 | []=>[]
 | [e]=>e
 | e::t::r=>e++(44::jn (t::r))
theorem bl_dig:∀ c:Fin 256,isBl (UInt8.ofNat c.val)=true→digB (UInt8.ofNat c.val)=false:=by decide +kernel
theorem qd5 {c:UInt8} (h:isBl c=true):digB c=false:=by
 have:=bl_dig ⟨c.toNat,c.toNat_lt⟩
 simp only[UInt8.ofNat_toNat]at this
 exact this h
theorem qc6 {b:List UInt8} {e:UInt8} (hb:q27 b) (he:digB e=false) (r:List UInt8):Stop (b++e::r):=by
 cases b with
 | nil=>exact he
 | cons c t=>exact qd5 (hb c List.mem_cons_self)
theorem qlh {b:List UInt8} (hb:q27 b) {e:UInt8} (he:isBl e=false) (h44:e≠44) (r:List UInt8):q18 e (b++e::r)=.inr (false,r):=by
 unfold q18
 rw[q58 _ hb,q1i,he]
 simp only[Bool.false_eq_true,if_false]
 rw[if_neg h44]
 simp
theorem qlg (e:UInt8) (r:List UInt8):q18 e (44::r)=.inr (true,r):=by
 unfold q18
 rw[q1i]
 rfl
theorem stop44 (r:List UInt8):Stop (44::r):=show digB 44=false by decide
theorem qer {d:Nat} {b:List UInt8} (hb:q27 b) (r:List UInt8):∀ (es:List (List UInt8)) (xs:List Val) (f:Nat) (acc:List Val),es≠[]→es.length≤f→es.length=xs.length→(∀ (i:Nat) e x,es[i]?=some e→xs[i]?=some x→Rds d x e) →
  q1r (qg finV d) f (jn es++(b++93::r)) acc=.inr (.mk 4 0 eS (acc++xs) [],r)
 | [],xs,f,acc,h,_,_,_=>absurd rfl h
 | e::t,xs,0,acc,_,h,_,_=>by simp at h
 | [e],[x],f+1,acc,_,_,_,h=>by
  have hx:=h 0 e x rfl rfl
  unfold q1r
  rw[show jn [e]=e from rfl,hx _ (qc6 hb (by decide) r)]
  simp only
  rw[qlh hb (by decide) (by decide) r]
 | e::e2::t,x::xs,f+1,acc,_,hf,hl,h=>by
  have hx:=h 0 e x rfl rfl
  unfold q1r
  rw[show jn (e::e2::t)=e++(44::jn (e2::t)) from rfl,List.append_assoc,List.cons_append,hx _ (stop44 _)]
  simp only
  rw[qlg]
  simp only
  rw[qer hb r (e2::t) xs f (acc++[x]) (by simp) (by simp only[List.length_cons]at hf ⊢; omega) (by simp only[List.length_cons]at hl ⊢; omega) (fun i e' x' h1 h2=>h (i+1) e' x' h1 h2),List.append_assoc]
  rfl
 | [e],[],f+1,acc,_,_,hl,_=>by simp at hl
 | [e],x::y::xs,f+1,acc,_,_,hl,_=>by simp at hl
 | e::e2::t,[],f+1,acc,_,_,hl,_=>by simp at hl
def RdK (k:ByteArray) (t:List UInt8):Prop:=∀ r,keyS [] (t++r)=.inr (k,r)
theorem qk5 {ks:List ByteArray} {k:ByteArray} {l r:List UInt8} (h:keyS [] l=.inr (k,r)) (hk:hasK ks k=false):keyS ks l=.inr (k,r):=by
 unfold keyS at h ⊢
 cases h0:qc l with
 | nil=>rw[h0]at h; cases h
 | cons c t =>
  rw[h0]at h
  simp only at h ⊢
  split at h
  ·rename_i hc
   rw[if_pos hc]
   cases h1:q1d (c::t) with
   | inl p=>rw[h1]at h; cases h
   | inr y =>
    obtain ⟨k',l1⟩:=y
    rw[h1]at h
    simp only at h ⊢
    have hn:hasK [] k'=false:=rfl
    rw[hn]at h
    simp only[Bool.false_eq_true,if_false]at h
    cases h2:qc l1 with
    | nil=>rw[h2]at h; cases h
    | cons c2 r2 =>
     rw[h2]at h
     simp only at h
     split at h
     ·rename_i hc2
      obtain ⟨rfl,rfl⟩:k'=k∧r2=r:=by simpa using h
      rw[hk]
      simp only[Bool.false_eq_true,if_false]
      rw[if_pos hc2]
     ·cases h
  ·cases h
theorem qf1 {d:Nat} {b:List UInt8} (hb:q27 b) (r:List UInt8):∀ (es:List (List UInt8×List UInt8)) (ns:List ByteArray) (xs:List Val) (f:Nat) (ks:List ByteArray) (vs:List Val),es≠[]→es.length≤f→es.length=xs.length→es.length=ns.length→(ks++ns).Nodup →
  (∀ (i:Nat) e x,es[i]?=some e→xs[i]?=some x→Rds d x e.2)→(∀ (i:Nat) e n,es[i]?=some e→ns[i]?=some n→RdK n e.1) →
  mapF (qg finV d) finV f (jn (es.map fun e=>e.1++e.2)++(b++125::r)) ks vs=.inr (finV (ks++ns) (vs++xs),r)
 | [],ns,xs,f,ks,vs,h,_,_,_,_,_,_=>absurd rfl h
 | e::t,ns,xs,0,ks,vs,_,h,_,_,_,_,_=>by simp at h
 | e::t,[],xs,f+1,ks,vs,_,_,_,hl,_,_,_=>by simp at hl
 | e::t,n::ns,[],f+1,ks,vs,_,_,hl,_,_,_,_=>by simp at hl
 | e::t,n::ns,x::xs,f+1,ks,vs,_,hf,hl,hl2,hnd,h,hk=>by
  have hx:=h 0 e x rfl rfl
  have hkk:=hk 0 e n rfl rfl
  have hno:hasK ks n=false:=by
   cases q:hasK ks n with
   | false=>rfl
   | true =>
    have:=(List.nodup_append.1 hnd).2.2 n (q8x.1 q) n List.mem_cons_self
    exact absurd rfl this
  unfold mapF
  cases t with
  | nil =>
   obtain rfl:ns=[]:=by cases ns with | nil=>rfl | cons a b=>simp at hl2
   obtain rfl:xs=[]:=by cases xs with | nil=>rfl | cons a b=>simp at hl
   rw[show jn ([e].map fun e=>e.1++e.2)=e.1++e.2 from rfl,List.append_assoc,qk5 (hkk _) hno]
   simp only
   rw[hx _ (qc6 hb (by decide) r)]
   simp only
   rw[qlh hb (by decide) (by decide) r]
  | cons e2 t =>
   rw[show jn ((e::e2::t).map fun e=>e.1++e.2)=(e.1++e.2)++(44::jn ((e2::t).map fun e=>e.1++e.2)) from rfl,List.append_assoc,List.append_assoc,List.cons_append,qk5 (hkk _) hno]
   simp only
   rw[hx _ (stop44 _)]
   simp only
   rw[qlg]
   simp only
   rw[qf1 hb r (e2::t) ns xs f (ks++[n]) (vs++[x]) (by simp) (by simp only[List.length_cons]at hf ⊢; omega) (by simp only[List.length_cons]at hl ⊢; omega) (by simp only[List.length_cons]at hl2 ⊢; omega) (by rw[List.append_assoc]; exact hnd) (fun i e' x' h1 h2=>h (i+1) e' x' h1 h2) (fun i e' x' h1 h2=>hk (i+1) e' x' h1 h2),List.append_assoc,List.append_assoc]
   rfl
end Abs
end Go.Proofs.YtpidpioifnnllaaGreatDoor
namespace Go.Proofs.YtpidpioifnnllaaGreatDoor
set_option linter.unusedSimpArgs false
set_option linter.unusedVariables false
open Go.RowKit Go.Lib
namespace Abs
set_option maxRecDepth 100000
theorem two_of {c0:UInt8} {t:List UInt8} (h:2 < (c0::t).length):∃ c1 c2 t',t=c1::c2::t':=by
 cases t with
 | nil=>simp at h
 | cons a t =>
  cases t with
  | nil=>simp at h
  | cons b t=>exact ⟨a,b,t,rfl⟩
theorem qwe {c0:UInt8} {t:List UInt8} (h:3 < (c0::t).length):∃ c1 c2 c3 t',t=c1::c2::c3::t':=by
 cases t with
 | nil=>simp at h
 | cons a t =>
  cases t with
  | nil=>simp at h
  | cons b t =>
   cases t with
   | nil=>simp at h
   | cons c t=>exact ⟨a,b,c,t,rfl⟩
set_option maxHeartbeats 1000000 in
/-- A code point of several bytes is known by its own bytes. -/
theorem qdl (l X:List UInt8) (hne:l≠[]) (hv:¬ ((decodeL l).1=65533∧(decodeL l).2=1)) :
  decodeL (l.take (decodeL l).2++X)=decodeL l∧((∃ c t,l=c::t∧c.toNat < 128∧decodeL l=(c.toNat,1))∨(128≤(decodeL l).1∧∀ c ∈ l.take (decodeL l).2,128≤c.toNat)):=by
 cases l with
 | nil=>exact absurd rfl hne
 | cons c0 t =>
  have h0:=c0.toNat_lt
  rw[decodeL_N (c0::t)]at hv ⊢
  have g0:((c0::t).getD 0 0)=c0:=rfl
  rw[g0]at hv ⊢
  rcases decodeN_shape (c0::t).length c0.toNat ((c0::t).getD 1 0).toNat ((c0::t).getD 2 0).toNat ((c0::t).getD 3 0).toNat with ⟨q,e⟩ | ⟨q1,q2,q3,q4,e⟩ | ⟨q1,q2,q3,q4,q5,q6,e⟩ | ⟨q1,q2,q3,q4,q5,q6,q7,e⟩ | e
  ·rw[e]
   refine ⟨?_,.inl ⟨c0,t,rfl,q,rfl⟩⟩
   rw[decodeL_N]
   unfold decodeN
   exact if_pos q
  ·obtain ⟨c1,t,rfl⟩:∃ c1 t',t=c1::t':=by
    cases t with
    | nil=>simp at q2
    | cons a b=>exact ⟨a,b,rfl⟩
   have g1:((c0::c1::t).getD 1 0)=c1:=rfl
   have h1:=c1.toNat_lt
   rw[g1]at q3 q4 e ⊢
   rw[e]
   refine ⟨?_,.inr ⟨q4,fun c hc=>?_⟩⟩
   ·show decodeL ([c0,c1]++X)=_
    rw[decodeL_N]
    have y0:([c0,c1]++X).getD 0 0=c0:=rfl
    have y1:([c0,c1]++X).getD 1 0=c1:=rfl
    rw[y0,y1]
    unfold decodeN
    rw[if_neg (by omega),if_pos ⟨q1,by simp only[List.length_append,List.length_cons]; omega,q3⟩,if_pos q4]
   ·simp only[List.take_succ_cons,List.take_zero,List.mem_cons,List.not_mem_nil,or_false]at hc
    rcases hc with rfl | rfl <;> omega
  ·obtain ⟨c1,c2,t,rfl⟩:∃ c1 c2 t',t=c1::c2::t':=by
    exact two_of q2
   have g1:((c0::c1::c2::t).getD 1 0)=c1:=rfl
   have g2:((c0::c1::c2::t).getD 2 0)=c2:=rfl
   have h1:=c1.toNat_lt
   have h2:=c2.toNat_lt
   rw[g1]at q3 q5 q6 e ⊢
   rw[g2]at q4 q5 q6 e ⊢
   rw[e]
   refine ⟨?_,.inr ⟨by simp only; omega,fun c hc=>?_⟩⟩
   ·show decodeL ([c0,c1,c2]++X)=_
    rw[decodeL_N]
    have y0:([c0,c1,c2]++X).getD 0 0=c0:=rfl
    have y1:([c0,c1,c2]++X).getD 1 0=c1:=rfl
    have y2:([c0,c1,c2]++X).getD 2 0=c2:=rfl
    rw[y0,y1,y2]
    unfold decodeN
    rw[if_neg (by omega),if_neg (by omega),if_pos ⟨q1,⟨by simp only[List.length_append,List.length_cons]; omega,q3⟩,by simp only[List.length_append,List.length_cons]; omega,q4⟩,if_pos ⟨q5,by omega⟩]
   ·simp only[List.take_succ_cons,List.take_zero,List.mem_cons,List.not_mem_nil,or_false]at hc
    rcases hc with rfl | rfl | rfl <;> omega
  ·obtain ⟨c1,c2,c3,t,rfl⟩:∃ c1 c2 c3 t',t=c1::c2::c3::t':=by
    exact qwe q2
   have g1:((c0::c1::c2::c3::t).getD 1 0)=c1:=rfl
   have g2:((c0::c1::c2::c3::t).getD 2 0)=c2:=rfl
   have g3:((c0::c1::c2::c3::t).getD 3 0)=c3:=rfl
   have h1:=c1.toNat_lt
   have h2:=c2.toNat_lt
   have h3:=c3.toNat_lt
   rw[g1]at q3 q6 q7 e ⊢
   rw[g2]at q4 q6 q7 e ⊢
   rw[g3]at q5 q6 q7 e ⊢
   rw[e]
   refine ⟨?_,.inr ⟨by simp only; omega,fun c hc=>?_⟩⟩
   ·show decodeL ([c0,c1,c2,c3]++X)=_
    rw[decodeL_N]
    have y0:([c0,c1,c2,c3]++X).getD 0 0=c0:=rfl
    have y1:([c0,c1,c2,c3]++X).getD 1 0=c1:=rfl
    have y2:([c0,c1,c2,c3]++X).getD 2 0=c2:=rfl
    have y3:([c0,c1,c2,c3]++X).getD 3 0=c3:=rfl
    rw[y0,y1,y2,y3]
    unfold decodeN
    rw[if_neg (by omega),if_neg (by omega),if_neg (by omega),if_pos ⟨q1,⟨by simp only[List.length_append,List.length_cons]; omega,q3⟩,⟨by simp only[List.length_append,List.length_cons]; omega,q4⟩,by simp only[List.length_append,List.length_cons]; omega,q5⟩,if_pos ⟨q6,by omega⟩]
   ·simp only[List.take_succ_cons,List.take_zero,List.mem_cons,List.not_mem_nil,or_false]at hc
    rcases hc with rfl | rfl | rfl | rfl <;> omega
  ·rw[e]at hv; exact absurd ⟨rfl,rfl⟩ hv
theorem qqw:∀ c:Fin 256,128≤c.val→escB (UInt8.ofNat c.val)=[UInt8.ofNat c.val]:=by decide +kernel
theorem qiy:∀ {l:List UInt8},(∀ c ∈ l,128≤c.toNat)→l.flatMap escB=l
 | [],_=>rfl
 | c::r,h=>by
  have:=qqw ⟨c.toNat,c.toNat_lt⟩ (h c List.mem_cons_self)
  simp only[UInt8.ofNat_toNat]at this
  rw[List.flatMap_cons,this,qiy fun x hx=>h x (List.mem_cons_of_mem _ hx)]; rfl
theorem hex1:∀ c:Fin 16,hexC c.val=[UInt8.ofNat (digN c.val).toNat]∧hexV (UInt8.ofNat (digN c.val).toNat)=some c.val:=by decide +kernel
theorem hex2:∀ c:Fin 128,16≤c.val→hexC c.val=[UInt8.ofNat (digN (c.val / 16)).toNat,UInt8.ofNat (digN (c.val % 16)).toNat]∧UInt8.ofNat (digN (c.val / 16)).toNat≠48:=by decide +kernel
theorem qro (c:Nat) (h:c < 128) (r:List UInt8):hexS (hexC c++125::r)=((c:Int),((hexC c).length:Int)+1,0):=by
 have hv:Lib.validRune (c:Int)=true:=by unfold Lib.validRune; exact decide_eq_true (by omega)
 have h125:hexV 125=none:=by decide
 rcases Nat.lt_or_ge c 16 with k | k
 ·obtain ⟨e1,e2⟩:=hex1 ⟨c,k⟩
  simp only at e1 e2
  rw[e1]
  unfold hexS
  have hg:q1m 6 ([UInt8.ofNat (digN c).toNat]++125::r) 0 0=(c,1,125::r):=by
   simp only[List.cons_append,List.nil_append,q1m,e2,h125]
   simp
  rw[hg]
  unfold q2y
  simp only
  rw[if_neg (fun q=>by rcases q with q | q | ⟨q,_⟩ | q; exact absurd rfl q; omega; omega; rw[hv]at q; cases q)]
  rfl
 ·obtain ⟨e1,e2⟩:=hex2 ⟨c,h⟩ k
  simp only at e1 e2
  obtain ⟨_,a2⟩:=hex1 ⟨c / 16,by omega⟩
  obtain ⟨_,b2⟩:=hex1 ⟨c % 16,by omega⟩
  simp only at a2 b2
  rw[e1]
  unfold hexS
  have hg:q1m 6 ([UInt8.ofNat (digN (c / 16)).toNat,UInt8.ofNat (digN (c % 16)).toNat]++125::r) 0 0=(c,2,125::r):=by
   simp only[List.cons_append,List.nil_append,q1m,a2,b2,h125]
   simp only[Prod.mk.injEq,and_true]
   omega
  rw[hg]
  unfold q2y
  simp only
  rw[if_neg (fun q=>by
   rcases q with q | q | ⟨_,q⟩ | q
   ·exact absurd rfl q
   ·omega
   ·simp only[List.cons_append,List.head?_cons,Option.some.injEq]at q; exact e2 q
   ·rw[hv]at q; cases q)]
  rfl
end Abs
end Go.Proofs.YtpidpioifnnllaaGreatDoor
namespace Go.Proofs.YtpidpioifnnllaaGreatDoor
set_option linter.unusedSimpArgs false
set_option linter.unusedVariables false
open Go.RowKit Go.Lib
namespace Abs
set_option maxRecDepth 100000
theorem q81 {t rest:List UInt8} {c:Int} {m:Nat} (h:escS t=(c,(m:Int),0)) (hr:t.drop m=rest) (f k:Nat) (acc:List UInt8):unqF (f+1) (92::t) k acc=unqF f rest (k+(m+1)) (acc++encodeRune c):=by
 have hd:(decodeL (92::t)).1=92:=by rw[(qan 92 t).1 (by decide)]; rfl
 simp only[unqF]
 rw[if_neg (by decide),if_pos hd]
 simp only[List.drop_succ_cons,List.drop_zero]
 rw[h]
 simp only
 rw[if_neg (by decide),Int.toNat_natCast,hr]
theorem qqp {n:Nat} (h:n < 128):encodeRune (n:Int)=[UInt8.ofNat n]:=by
 unfold encodeRune
 rw[encodeRuneZ_one (by omega) (by omega)]
 rfl
theorem qir (c:UInt8) (h:c.toNat < 128):encodeRune ((c.toNat:Nat):Int)=[c]:=by
 rw[qqp h,UInt8.ofNat_toNat]
theorem qqt (c:UInt8) (h:c.toNat < 128) (r:List UInt8) (f k:Nat) (acc:List UInt8):∃ m,(escB c).length=m∧unqF (f+1) (escB c++r) k acc=unqF f r (k+m) (acc++[c]):=by
 refine ⟨_,rfl,?_⟩
 unfold escB
 by_cases h1:c=10
 ·subst h1
  rw[if_pos rfl]
  exact q81 (t:=110::r) (rest:=r) (c:=10) (m:=1) rfl rfl f k acc
 rw[if_neg h1]
 by_cases h2:c=13
 ·subst h2
  rw[if_pos rfl]
  exact q81 (t:=114::r) (rest:=r) (c:=13) (m:=1) rfl rfl f k acc
 rw[if_neg h2]
 by_cases h3:c=9
 ·subst h3
  rw[if_pos rfl]
  exact q81 (t:=116::r) (rest:=r) (c:=9) (m:=1) rfl rfl f k acc
 rw[if_neg h3]
 by_cases h4:c=34∨c=92
 ·rw[if_pos h4]
  rcases h4 with rfl | rfl
  ·exact q81 (t:=34::r) (rest:=r) (c:=34) (m:=1) rfl rfl f k acc
  ·exact q81 (t:=92::r) (rest:=r) (c:=92) (m:=1) rfl rfl f k acc
 rw[if_neg h4]
 have hlt32:(c < 32) ↔ c.toNat < 32:=UInt8.lt_iff_toNat_lt
 by_cases h5:c < 32∨c=127
 ·rw[if_pos h5]
  have hb:=qro c.toNat h r
  have he:escS (117::123::(hexC c.toNat++125::r))=((c.toNat:Int),(((hexC c.toNat).length+3:Nat):Int),0):=by
   rw[q5d]
   rw[if_neg (by decide),if_neg (by decide),if_neg (by decide),if_neg (by decide),if_neg (by decide),if_pos rfl]
   simp only
   rw[if_pos trivial,hb]
   simp only[Prod.mk.injEq,and_true,true_and]
   omega
  have:=q81 (t:=117::123::(hexC c.toNat++125::r)) (rest:=r) he (by
   rw[show (hexC c.toNat).length+3=((hexC c.toNat).length+1)+2 by omega,List.drop_succ_cons,List.drop_succ_cons,← List.drop_drop,List.drop_left']
   ·rfl
   ·rfl) f k acc
  rw[qir c h]at this
  have hl:([92,117,123]++hexC c.toNat++[125]:List UInt8)++r=92::117::123::(hexC c.toNat++125::r):=by simp
  show unqF (f+1) (([92,117,123]++hexC c.toNat++[125])++r) k acc=_
  rw[hl,this]
  have hm:([92,117,123]++List.map (fun n=>UInt8.ofNat n.toNat) (hexI c.toNat)++[125]:List UInt8).length=(hexC c.toNat).length+3+1:=by
   show ([92,117,123]++hexC c.toNat++[125]:List UInt8).length=_
   rw[List.length_append,List.length_append]
   simp only[List.length_cons,List.length_nil]
   omega
  rw[hm]
 ·rw[if_neg h5]
  have hn32:¬ c.toNat < 32:=fun q=>h5 (.inl (hlt32.2 q))
  have hn127:¬ c.toNat=127:=fun q=>h5 (.inr (q80 q))
  have hn92:¬ c.toNat=92:=fun q=>h4 (.inr (q80 q))
  have hd:=(qan c r).1 h
  show unqF (f+1) (c::r) k acc=_
  simp only[unqF]
  rw[if_neg (fun q=>h4 (.inl q)),hd]
  simp only
  rw[if_neg hn92,if_neg (by omega),qir c h]
  rfl
theorem qgg:∀ (n:Nat) (l:List UInt8),l.length≤n→Lib.validD l=true→∀ (f k:Nat) (acc r:List UInt8),(l.flatMap escB).length+r.length+1 < f→acc.length+l.length≤4096 →
  unqF f (l.flatMap escB++34::r) k acc=some (acc++l,k+(l.flatMap escB).length+1,0)
 | n,[],_,_,f,k,acc,r,hf,ha=>by
  obtain ⟨f,rfl⟩:∃ g,f=g+1:=⟨f - 1,by omega⟩
  simp only[List.flatMap_nil,List.nil_append,unqF]
  rw[if_pos trivial,if_neg (by simp only[List.length_nil]at ha; omega)]
  simp
 | 0,c::t,h,_,_,_,_,_,_,_=>by simp at h
 | n+1,c::t,hn,hv,f,k,acc,r,hf,ha=>by
  obtain ⟨f,rfl⟩:∃ g,f=g+1:=⟨f - 1,by omega⟩
  rw[Lib.validD_step (c::t) (by simp)]at hv
  split at hv
  ·cases hv
  rename_i hnb
  have hw:=decodeL_width (c::t)
  have hle:=decodeL_le (c::t) (by simp)
  rcases (qdl (c::t) [] (by simp) hnb).2 with ⟨c',t',e,hc,hd⟩ | ⟨hr,hall⟩
  ·obtain ⟨rfl,rfl⟩:c=c'∧t=t':=by simpa using e
   rw[hd]at hv
   simp only[List.drop_succ_cons,List.drop_zero]at hv
   simp only[List.length_cons]at hn ha
   rw[List.flatMap_cons,List.length_append]at hf
   obtain ⟨m,hm,hs⟩:=qqt c hc (t.flatMap escB++34::r) f k acc
   have hpos:0 < (escB c).length:=by
    unfold escB; repeat' split
    all_goals simp
   rw[List.flatMap_cons,List.append_assoc,hs,qgg n t (by omega) hv f (k+m) (acc++[c]) r (by omega) (by rw[List.length_append]; simp only[List.length_cons,List.length_nil]; omega)]
   rw[List.append_assoc,List.length_append,hm]
   simp only[List.cons_append,List.nil_append,Option.some.injEq,Prod.mk.injEq,true_and,and_true]
   omega
  ·-- several bytes
   have hsplit:(c::t)=(c::t).take (decodeL (c::t)).2++(c::t).drop (decodeL (c::t)).2:=(List.take_append_drop _ _).symm
   have htl:((c::t).take (decodeL (c::t)).2).length=(decodeL (c::t)).2:=by rw[List.length_take]; omega
   have hdl:((c::t).drop (decodeL (c::t)).2).length=(c::t).length - (decodeL (c::t)).2:=List.length_drop
   have hfm:(c::t).flatMap escB=(c::t).take (decodeL (c::t)).2++((c::t).drop (decodeL (c::t)).2).flatMap escB:=by
    conv=>lhs; rw[hsplit]
    rw[List.flatMap_append,qiy hall]
   have henc:=encode_decode (c::t) (by simp) hnb
   have hX:=(qdl (c::t) (((c::t).drop (decodeL (c::t)).2).flatMap escB++34::r) (by simp) hnb).1
   generalize hD:decodeL (c::t)=D at *
   obtain ⟨a,w⟩:=D
   simp only at *
   have hne:(c::t).take w++(((c::t).drop w).flatMap escB++34::r)=c::(t.take (w - 1)++(((c::t).drop w).flatMap escB++34::r)):=by
    obtain ⟨w,rfl⟩:∃ v,w=v+1:=⟨w - 1,by omega⟩
    rw[List.take_succ_cons]; rfl
   have hc128:128≤c.toNat:=hall c (by
    obtain ⟨w,rfl⟩:∃ v,w=v+1:=⟨w - 1,by omega⟩
    rw[List.take_succ_cons]; exact List.mem_cons_self)
   rw[hfm,List.append_assoc]
   rw[hfm,List.length_append,htl]at hf
   have hstep:unqF (f+1) ((c::t).take w++(((c::t).drop w).flatMap escB++34::r)) k acc=unqF f (((c::t).drop w).flatMap escB++34::r) (k+w) (acc++(c::t).take w):=by
    rw[hne]at hX ⊢
    simp only[unqF]
    rw[if_neg (fun q=>by rw[q]at hc128; exact absurd hc128 (by decide)),hX]
    simp only
    rw[if_neg (by omega),if_neg (by omega),← hne,henc,List.drop_left' htl]
   rw[hstep,qgg n ((c::t).drop w) (by rw[hdl]; simp only[List.length_cons]at hn ⊢; omega) hv f (k+w) (acc++(c::t).take w) r (by omega) (by rw[List.length_append,htl,hdl]; simp only[List.length_cons]at ha hle ⊢; omega)]
   rw[List.append_assoc,List.take_append_drop,List.length_append,htl]
   simp only[Option.some.injEq,Prod.mk.injEq,true_and,and_true]
   omega
theorem qwl {l:List UInt8} (hv:Lib.validD l=true) (hl:l.length≤4096) (r:List UInt8):unqS (q12 l++r)=some (l,(q12 l).length,0):=by
 have hq:q12 l++r=34::(l.flatMap escB++34::r):=by unfold q12; simp
 rw[hq]
 unfold unqS
 simp only
 rw[if_pos trivial,qgg l.length l (Nat.le_refl _) hv _ 1 [] r (by simp only[List.length_cons,List.length_append]; omega) (by simp only[List.length_nil]; omega)]
 unfold q12
 simp only[List.nil_append,List.length_cons,List.length_append,List.length_nil,Option.some.injEq,Prod.mk.injEq,true_and,and_true]
 omega
theorem qnv {s:ByteArray} (h:vtext s=0) (r:List UInt8):q1d (q12 (bL s)++r)=.inr (s,r):=by
 have hv:Lib.validD (bL s)=true:=by
  unfold vtext at h
  split at h
  ·cases h
  ·split at h
   ·rename_i q
    unfold utfB at q
    rw[Bool.and_eq_true]at q
    exact q.2
   ·cases h
 unfold q1d
 rw[qwl hv (by rw[q2c]; exact qgd h)]
 simp only
 rw[if_pos trivial,qae,List.drop_left]
end Abs
end Go.Proofs.YtpidpioifnnllaaGreatDoor
namespace Go.Proofs.YtpidpioifnnllaaGreatDoor
set_option linter.unusedSimpArgs false
set_option linter.unusedVariables false
open Go.RowKit Go.Lib
namespace Abs
set_option maxRecDepth 100000
theorem qdo (u:Nat) (h:u < 10):digB (UInt8.ofNat (48+u))=true:=by
 have:∀ c:Fin 10,digB (UInt8.ofNat (48+c.val))=true:=by decide +kernel
 exact this ⟨u,h⟩
theorem qdk:∀ (n u:Nat),u≤n→(∀ c ∈ Lib.decDigits u,digB c=true)∧Lib.decDigits u≠[]
 | 0,u,h=>by
  rw[Lib.decDigits_one (by omega)]
  exact ⟨fun c hc=>by rw[List.mem_singleton.1 hc]; exact qdo u (by omega),by simp⟩
 | n+1,u,h=>by
  by_cases h10:u < 10
  ·rw[Lib.decDigits_one h10]
   exact ⟨fun c hc=>by rw[List.mem_singleton.1 hc]; exact qdo u h10,by simp⟩
  ·rw[Lib.decDigits,dif_neg h10]
   have:=qdk n (u / 10) (by omega)
   refine ⟨fun c hc=>?_,by simp⟩
   rcases List.mem_append.1 hc with q | q
   ·exact this.1 c q
   ·rw[List.mem_singleton.1 q]; exact qdo _ (by omega)
theorem qs2 (n:Int):∃ c t,Lib.itoa n=c::t∧(c=45∨digB c=true)∧∀ x ∈ t,digB x=true:=by
 unfold Lib.itoa
 split
 ·exact ⟨45,_,rfl,.inl rfl,(qdk _ _ (Nat.le_refl _)).1⟩
 ·obtain ⟨h1,h2⟩:=qdk n.toNat n.toNat (Nat.le_refl _)
  cases h:Lib.decDigits n.toNat with
  | nil=>exact absurd h h2
  | cons c t =>
   rw[h]at h1
   exact ⟨c,t,rfl,.inr (h1 c List.mem_cons_self),fun x hx=>h1 x (List.mem_cons_of_mem _ hx)⟩
theorem qgb:∀ {t:List UInt8} (r:List UInt8),(∀ x ∈ t,digB x=true)→Stop r→(t++r).takeWhile digB=t∧(t++r).dropWhile digB=r
 | [],[],_,_=>⟨rfl,rfl⟩
 | [],c::r,_,h=>⟨List.takeWhile_cons_of_neg (by rw[show digB c=false from h]; decide),List.dropWhile_cons_of_neg (by rw[show digB c=false from h]; decide)⟩
 | x::t,r,h,hr=>by
  obtain ⟨a,b⟩:=qgb r (fun y hy=>h y (List.mem_cons_of_mem _ hy)) hr
  have hx:=h x List.mem_cons_self
  exact ⟨by rw[List.cons_append,List.takeWhile_cons_of_pos hx,a],by rw[List.cons_append,List.dropWhile_cons_of_pos hx,b]⟩
theorem quq (n:Int) (h:NumPlain.validB n=true):NumPlain.parseB (bS (Lib.itoa n))=(n,0):=by
 obtain ⟨h1,h2⟩:=NumPlain.itoa_canon n
 have:NumPlain.parseB (bS (Lib.itoa n))=NumPlain.right n:=by simp[NumPlain.parseB,NumPlain.parse,bS,h1,h2]
 rw[this]
 unfold NumPlain.right
 rw[h]; rfl
theorem qqd:∀ c:Fin 256,digB (UInt8.ofNat c.val)=true→isBl (UInt8.ofNat c.val)=false∧UInt8.ofNat c.val≠91∧UInt8.ofNat c.val≠123∧UInt8.ofNat c.val≠34:=by decide +kernel
theorem qth {c:UInt8} (h:c=45∨digB c=true):isBl c=false∧c≠91∧c≠123∧c≠34:=by
 rcases h with rfl | h
 ·decide
 ·have:=qqd ⟨c.toNat,c.toNat_lt⟩
  simp only[UInt8.ofNat_toNat]at this
  exact this h
theorem q83 (d:Nat) (c:UInt8) (r:List UInt8) (hb:isBl c=false) (h1:c≠91) (h2:c≠123):qg finV d (c::r)=if c=34 then (match q1d (c::r) with | .inl p=>.inl p | .inr (t,l1)=>.inr (.mk 3 0 t [] [],l1)) else if c=45∨digB c=true then numS c r else q20 (c::r):=by
 have hbl:qc (c::r)=c::r:=by rw[q1i,if_neg (by rw[hb]; decide)]
 cases d with
 | zero =>
  unfold qg
  rw[hbl]
  simp only
  rw[if_neg (fun q=>q.elim h1 h2)]
  by_cases h34:c=34
  ·rw[if_pos h34,if_pos h34]; cases q1d (c::r) <;> rfl
  ·rw[if_neg h34,if_neg h34]
 | succ d =>
  unfold qg
  rw[hbl]
  simp only
  rw[if_neg h1,if_neg h2]
  by_cases h34:c=34
  ·rw[if_pos h34,if_pos h34]; cases q1d (c::r) <;> rfl
  ·rw[if_neg h34,if_neg h34]
theorem qti (d:Nat) (n:Int) (h:NumPlain.validB n=true):Rds d (.mk 2 n eS [] []) (Lib.itoa n):=fun r hr=>by
 obtain ⟨c,t,e,hc,ht⟩:=qs2 n
 obtain ⟨a1,a2,a3,a4⟩:=qth hc
 have hp:=quq n h
 rw[e]at hp ⊢
 rw[List.cons_append,q83 d c (t++r) a1 a2 a3,if_neg a4,if_pos hc]
 obtain ⟨b1,b2⟩:=qgb r ht hr
 unfold numS
 rw[b1,b2,hp,if_pos rfl]
theorem qwc (d:Nat) {s:ByteArray} (h:vtext s=0):Rds d (.mk 3 0 s [] []) (q12 (bL s)):=fun r _=>by
 have ht:=qnv h r
 have hq:q12 (bL s)++r=34::((bL s).flatMap escB++[34]++r):=by unfold q12; simp
 rw[hq]at ht ⊢
 rw[q83 d 34 _ (by decide) (by decide) (by decide),if_pos rfl,ht]
theorem qxa (d:Nat):Rds d (.mk 0 0 eS [] []) [110,117,108,108]∧Rds d (.mk 1 1 eS [] []) [116,114,117,101]∧Rds d (.mk 1 0 eS [] []) [102,97,108,115,101]∧Rds d (.mk 6 0 eS [] []) [40,117,110,107,110,111,119,110,41]:=by
 refine ⟨fun r _=>?_,fun r _=>?_,fun r _=>?_,fun r _=>?_⟩
 all_goals
  rw[List.cons_append,q83 d _ _ (by decide) (by decide) (by decide),if_neg (by decide),if_neg (by decide)]
  simp[q20]
end Abs
end Go.Proofs.YtpidpioifnnllaaGreatDoor
namespace Go.Proofs.YtpidpioifnnllaaGreatDoor
set_option linter.unusedSimpArgs false
set_option linter.unusedVariables false
open Go.RowKit Go.Lib
namespace Abs
set_option maxRecDepth 100000
theorem qfr (l r:List UInt8):q12 l++r=34::(l.flatMap escB++[34]++r):=by unfold q12; simp
theorem qk6 {k:ByteArray} (h:vtext k=0) {b:List UInt8} (hb:q27 b):RdK k (b++(q12 (bL k)++[58])):=fun r=>by
 have ht:=qnv h (58::r)
 have hq:=qfr (bL k) (58::r)
 rw[hq]at ht
 have e:b++(q12 (bL k)++[58])++r=b++34::((bL k).flatMap escB++[34]++58::r):=by
  rw[List.append_assoc,List.append_assoc,← hq]; rfl
 have hbl:qc (b++34::((bL k).flatMap escB++[34]++58::r))=34::((bL k).flatMap escB++[34]++58::r):=by
  rw[q58 _ hb,q1i,if_neg (by decide)]
 have hbl2:qc (58::r)=58::r:=by rw[q1i,if_neg (by decide)]
 rw[e]
 unfold keyS
 rw[hbl]
 simp only
 rw[if_pos trivial,ht]
 simp only
 rw[if_neg (show ¬ hasK [] k=true by simp[hasK]),hbl2]
 simp only
 rw[if_pos trivial]
def elems (k:Int) (keys:List ByteArray):Nat→List Val→List (List UInt8)
 | _,[]=>[]
 | i,x::r=>((if i=0 then [] else [32])++qj k keys i++fmtV x)::elems k keys (i+1) r
theorem qdy (k:Int) (keys:List ByteArray):∀ (r:List Val) (i:Nat) (x:Val),fmtL k keys i (x::r)=(if i=0 then [] else [44])++jn (elems k keys i (x::r))
 | [],i,x=>by
  simp only[fmtL,elems,jn,List.append_nil]
  by_cases h:i=0
  ·simp[h]
  ·simp[h]
 | y::r,i,x=>by
  have ih:=qdy k keys r (i+1) y
  rw[if_neg (by omega)]at ih
  have e:fmtL k keys i (x::y::r)=(if i=0 then [] else [44,32])++qj k keys i++fmtV x++fmtL k keys (i+1) (y::r):=by simp only[fmtL]
  have e2:jn (elems k keys i (x::y::r))=((if i=0 then [] else [32])++qj k keys i++fmtV x)++(44::jn (elems k keys (i+1) (y::r))):=by simp only[elems,jn]
  rw[e,e2,ih]
  by_cases h:i=0
  ·simp[h]
  ·simp[h]
theorem qdr (k:Int) (keys:List ByteArray):∀ (l:List Val) (i:Nat),(elems k keys i l).length=l.length
 | [],_=>rfl
 | x::r,i=>by simp only[elems,List.length_cons,qdr k keys r (i+1)]
theorem qin (k:Int) (keys:List ByteArray):∀ (l:List Val) (i j:Nat) (e:List UInt8) (x:Val),(elems k keys i l)[j]?=some e→l[j]?=some x→e=(if i+j=0 then [] else [32])++qj k keys (i+j)++fmtV x
 | [],_,j,e,x,h,_=>by simp[elems]at h
 | y::r,i,0,e,x,h,h2=>by
  simp only[elems,List.getElem?_cons_zero,Option.some.injEq]at h h2
  subst h2; rw[← h]; rfl
 | y::r,i,j+1,e,x,h,h2=>by
  simp only[elems,List.getElem?_cons_succ]at h h2
  have:=qin k keys r (i+1) j e x h h2
  rw[this,show i+1+j=i+(j+1) by omega]
theorem qlv (i:Nat):q27 (if i=0 then ([]:List UInt8) else [32]):=by
 split
 ·exact fun c hc=>absurd hc List.not_mem_nil
 ·intro c hc; rw[List.mem_singleton.1 hc]; decide
theorem q90:∀ es:List (List UInt8),es.length≤(jn es).length+1
 | []=>by simp
 | [e]=>by simp
 | e::e2::t=>by
  have:=q90 (e2::t)
  simp only[jn,List.length_append,List.length_cons]at this ⊢
  omega
theorem qmq {d:Nat} {R r1:List UInt8} {x:Val} (h:qg finV d R=.inr (x,r1)) (e:UInt8) (he:e=93∨e=125):∃ c t,qc R=c::t∧c≠e:=by
 cases hb:qc R with
 | nil=>rw[qcf finV d R hb]at h; cases h
 | cons c t =>
  refine ⟨c,t,rfl,fun q=>?_⟩
  have hnb:=qd9 hb
  rw[← q4j,hb,q83 d c t hnb (by rcases he with rfl | rfl <;> rw[q] <;> decide) (by rcases he with rfl | rfl <;> rw[q] <;> decide)]at h
  rw[if_neg (by rcases he with rfl | rfl <;> rw[q] <;> decide),if_neg (by rcases he with rfl | rfl <;> rw[q] <;> decide)]at h
  have:q20 (c::t)=.inl (2,c::t):=by
   rcases he with rfl | rfl <;> subst q <;> simp[q20]
  rw[this]at h
  cases h
theorem qso {d:Nat} {items:List Val} (hne:items≠[]) (h:∀ y ∈ items,Rds d y (fmtV y)):Rds (d+1) (.mk 4 0 eS items []) (fmtV (.mk 4 0 eS items [])):=fun r hr=>by
 obtain ⟨x,t,rfl⟩:∃ x t,items=x::t:=by
  cases items with
  | nil=>exact absurd rfl hne
  | cons x t=>exact ⟨x,t,rfl⟩
 have hl:∀ i,qj 4 [] i=[]:=fun i=>by unfold qj; rw[if_neg (by decide)]
 have hfmt:fmtV (.mk 4 0 eS (x::t) [])++r=91::(jn (elems 4 [] 0 (x::t))++([]++93::r)):=by
  rw[q5e,if_neg (show ¬ (Val.mk 4 0 eS (x::t) []).items=[] from hne)]
  show q1h _++fmtL 4 [] 0 (x::t)++endS _++r=_
  rw[qdy,if_pos rfl]
  show [91]++([]++jn _)++[93]++r=_
  simp
 have hx:=h x List.mem_cons_self
 have hread:=qer (d:=d) (b:=[]) (fun c hc=>absurd hc List.not_mem_nil) r (elems 4 [] 0 (x::t)) (x::t) ((jn (elems 4 [] 0 (x::t))++([]++93::r)).length+1) [] (by simp[elems]) (by
   have h1:=q90 (elems 4 [] 0 (x::t))
   simp only[List.length_append,List.length_cons]at h1 ⊢
   omega) (qdr _ _ _ _) (fun j e y h1 h2=>by
   have:=qin 4 [] (x::t) 0 j e y h1 h2
   rw[this,hl,List.append_nil]
   exact (h y (List.mem_of_getElem? h2)).blanks (qlv _))
 have hfirst:∃ r1,qg finV d (jn (elems 4 [] 0 (x::t))++([]++93::r))=.inr (x,r1):=by
  cases t with
  | nil =>
   have:=hx ([]++93::r) (qc6 (b:=[]) (fun c hc=>absurd hc List.not_mem_nil) (by decide) r)
   refine ⟨[]++93::r,?_⟩
   show qg finV d ((([]:List UInt8)++qj 4 [] 0++fmtV x)++_)=_
   rw[hl]
   exact this
  | cons y t =>
   have:=hx (44::(jn (elems 4 [] 1 (y::t))++([]++93::r))) (stop44 _)
   refine ⟨44::(jn (elems 4 [] 1 (y::t))++([]++93::r)),?_⟩
   show qg finV d (((([]:List UInt8)++qj 4 [] 0++fmtV x)++(44::jn (elems 4 [] 1 (y::t))))++_)=_
   rw[hl,List.append_assoc]
   exact this
 obtain ⟨r1,hfirst⟩:=hfirst
 obtain ⟨c,t2,hb,hc⟩:=qmq hfirst 93 (.inl rfl)
 rw[hfmt]
 generalize jn (elems 4 [] 0 (x::t))++([]++93::r)=R at *
 have hsame:q1r (qg finV d) (R.length+1) (qc R) []=q1r (qg finV d) (R.length+1) R []:=by unfold q1r; rw[q4j]
 unfold qg
 rw[q1i,if_neg (by decide)]
 simp only
 rw[if_pos trivial]
 unfold q3c
 rw[hb]at hsame ⊢
 simp only
 rw[if_neg hc,hsame,hread]
 rfl
end Abs
end Go.Proofs.YtpidpioifnnllaaGreatDoor
namespace Go.Proofs.YtpidpioifnnllaaGreatDoor
set_option linter.unusedSimpArgs false
set_option linter.unusedVariables false
open Go.RowKit Go.Lib
namespace Abs
set_option maxRecDepth 100000
theorem qj0 {keys:List ByteArray} {items:List Val} (hl:keys.length=items.length) (hs:keys.Pairwise fun a b=>Op.bytesLess a.toList b.toList=true):finV keys items=.mk 5 0 eS items keys:=by
 have hnd:keys.Nodup:=hs.imp fun {a b} h e=>by subst e; rw[q7d]at h; cases h
 have hk1:(keys.zip items).map (·.1)=keys:=List.map_fst_zip (by omega)
 have hk2:(keys.zip items).map (·.2)=items:=List.map_snd_zip (by omega)
 obtain ⟨h1,h2,_⟩:=qax hl hnd
 have hsp:SP (keys.zip items):=by
  have:((keys.zip items).map (·.1)).Pairwise fun a b=>Op.bytesLess a.toList b.toList=true:=by rw[hk1]; exact hs
  exact List.pairwise_map.1 this
 have:=qg4 h1 hsp h2
 unfold finV
 rw[this]
 unfold q34
 rw[hk1,hk2]
def kelems (keys:List ByteArray):Nat→List Val→List (List UInt8×List UInt8)
 | _,[]=>[]
 | i,x::r=>((if i=0 then [] else [32])++(q12 (bL (keys.getD i eS))++[58]),[32]++fmtV x)::kelems keys (i+1) r
theorem qk3 (keys:List ByteArray):∀ (l:List Val) (i:Nat),i+l.length≤keys.length→elems 5 keys i l=(kelems keys i l).map fun e=>e.1++e.2
 | [],_,_=>rfl
 | x::r,i,h=>by
  simp only[List.length_cons]at h
  simp only[elems,kelems,List.map_cons]
  rw[qk3 keys r (i+1) (by omega)]
  have hi:i < keys.length:=by omega
  have e:qj 5 keys i=q12 (bL (keys.getD i eS))++[58,32]:=by
   unfold qj
   rw[if_pos rfl,List.getD_eq_getElem?_getD,List.getElem?_eq_getElem hi]; rfl
  rw[e]
  simp
theorem q91 (keys:List ByteArray):∀ (l:List Val) (i:Nat),(kelems keys i l).length=l.length
 | [],_=>rfl
 | x::r,i=>by simp only[kelems,List.length_cons,q91 keys r (i+1)]
theorem qeh (keys:List ByteArray):∀ (l:List Val) (i j:Nat) (e:List UInt8×List UInt8) (x:Val),(kelems keys i l)[j]?=some e→l[j]?=some x→e=((if i+j=0 then [] else [32])++(q12 (bL (keys.getD (i+j) eS))++[58]),[32]++fmtV x)
 | [],_,j,e,x,h,_=>by simp[kelems]at h
 | y::r,i,0,e,x,h,h2=>by
  simp only[kelems,List.getElem?_cons_zero,Option.some.injEq]at h h2
  subst h2; rw[← h]; rfl
 | y::r,i,j+1,e,x,h,h2=>by
  simp only[kelems,List.getElem?_cons_succ]at h h2
  have:=qeh keys r (i+1) j e x h h2
  rw[this,show i+1+j=i+(j+1) by omega]
theorem qt3 {d:Nat} {items:List Val} {keys:List ByteArray} (hne:items≠[]) (hl:keys.length=items.length) (hs:keys.Pairwise fun a b=>Op.bytesLess a.toList b.toList=true) (hk:∀ k ∈ keys,vtext k=0) (h:∀ y ∈ items,Rds d y (fmtV y)) :
  Rds (d+1) (.mk 5 0 eS items keys) (fmtV (.mk 5 0 eS items keys)):=fun r hr=>by
 have hnd:keys.Nodup:=hs.imp fun {a b} h e=>by subst e; rw[q7d]at h; cases h
 obtain ⟨x,t,hit⟩:∃ x t,items=x::t:=by
  cases items with
  | nil=>exact absurd rfl hne
  | cons x t=>exact ⟨x,t,rfl⟩
 have hmap:=qk3 keys items 0 (by omega)
 have hfmt:fmtV (.mk 5 0 eS items keys)++r=123::(jn (elems 5 keys 0 items)++([]++125::r)):=by
  rw[q5e,if_neg (show ¬ (Val.mk 5 0 eS items keys).items=[] from hne)]
  show q1h _++fmtL 5 keys 0 items++endS _++r=_
  rw[hit,qdy,if_pos rfl]
  show [123]++([]++jn _)++[125]++r=_
  simp
 have hread:=qf1 (d:=d) (b:=[]) (fun c hc=>absurd hc List.not_mem_nil) r (kelems keys 0 items) keys items ((jn (elems 5 keys 0 items)++([]++125::r)).length+1) [] [] (by rw[hit]; simp[kelems]) (by
   have h1:=q90 (elems 5 keys 0 items)
   rw[qdr]at h1
   rw[q91]
   simp only[List.length_append,List.length_cons]at h1 ⊢
   omega) (q91 _ _ _) (by rw[q91,hl]) hnd (fun j e y h1 h2=>by
   have:=qeh keys items 0 j e y h1 h2
   rw[this]
   exact (h y (List.mem_of_getElem? h2)).blanks (fun c hc=>by rw[List.mem_singleton.1 hc]; decide)) (fun j e n h1 h2=>by
   have hj:=(List.getElem?_eq_some_iff.1 h1).1
   rw[q91]at hj
   have:=qeh keys items 0 j e _ h1 (List.getElem?_eq_getElem hj)
   rw[this]
   have hn:keys.getD (0+j) eS=n:=by rw[Nat.zero_add,List.getD_eq_getElem?_getD,h2]; rfl
   simp only
   rw[hn]
   exact qk6 (hk n (List.mem_of_getElem? h2)) (qlv _))
 rw[hfmt]
 have hb:∃ c t2,qc (jn (elems 5 keys 0 items)++([]++125::r))=c::t2∧c≠125:=by
  have h0:(kelems keys 0 items)[0]?=some ([]++(q12 (bL (keys.getD 0 eS))++[58]),[32]++fmtV x):=by rw[hit]; rfl
  rw[hmap]
  cases hke:kelems keys 0 items with
  | nil=>rw[hke]at h0; cases h0
  | cons e0 et =>
   rw[hke]at h0
   have e0e:=Option.some.inj h0
   have hhead:∃ u,jn ((e0::et).map fun e=>e.1++e.2)=34::u:=by
    rw[e0e]
    cases et with
    | nil=>exact ⟨_,by simp only[List.map_cons,List.map_nil,jn,List.nil_append,List.append_assoc]; rw[qfr]⟩
    | cons e1 et=>exact ⟨_,by simp only[List.map_cons,jn,List.nil_append,List.append_assoc]; rw[qfr]⟩
   obtain ⟨u,hu⟩:=hhead
   rw[hu,List.cons_append,q1i,if_neg (by decide)]
   exact ⟨34,_,rfl,by decide⟩
 obtain ⟨c,t2,hb,hc⟩:=hb
 rw[← hmap]at hread
 generalize jn (elems 5 keys 0 items)++([]++125::r)=R at *
 have hsame:mapF (qg finV d) finV (R.length+1) (qc R) [] []=mapF (qg finV d) finV (R.length+1) R [] []:=by unfold mapF; rw[qei]
 unfold qg
 rw[q1i,if_neg (by decide)]
 simp only
 rw[if_neg (by decide),if_pos trivial]
 unfold mapS
 rw[hb]at hsame ⊢
 simp only
 rw[if_neg hc,hsame,hread]
 simp only[List.nil_append]
 rw[qj0 hl hs]
end Abs
end Go.Proofs.YtpidpioifnnllaaGreatDoor
namespace Go.Proofs.YtpidpioifnnllaaGreatDoor
set_option linter.unusedSimpArgs false
set_option linter.unusedVariables false
open Go.RowKit Go.Lib
namespace Abs
set_option maxRecDepth 100000
theorem qel:∀ (l:List ByteArray) (p:Option ByteArray),q1f p l=0→∀ k ∈ l,vtext k=0
 | [],_,_,k,hk=>absurd hk List.not_mem_nil
 | s::r,p,h,k,hk=>by
  unfold q1f at h
  by_cases hv:vtext s=0
  ·rw[if_neg (by simp[hv])]at h
   have hr:q1f (some s) r=0:=by
    cases p with
    | none=>simpa using h
    | some q =>
     cases hb:ltB q s with
     | true=>simpa [hb] using h
     | false=>simp[hb]at h
   rcases List.mem_cons.1 hk with rfl | hk
   ·exact hv
   ·exact qel r (some s) hr k hk
  ·rw[if_pos hv]at h; exact absurd h hv
theorem qio (d:Nat):Rds (d+1) (.mk 4 0 eS [] []) [91,93]∧Rds (d+1) (.mk 5 0 eS [] []) [123,125]:=by
 refine ⟨fun r _=>?_,fun r _=>?_⟩
 ·show qg finV (d+1) (91::93::r)=_
  unfold qg
  rw[q1i,if_neg (by decide)]
  simp only
  rw[if_pos trivial]
  unfold q3c
  rw[q1i,if_neg (by decide)]
  simp
 ·show qg finV (d+1) (123::125::r)=_
  unfold qg
  rw[q1i,if_neg (by decide)]
  simp only
  rw[if_neg (by decide),if_pos trivial]
  unfold mapS
  rw[q1i,if_neg (by decide)]
  simp
theorem qdz:∀ (d e:Nat) (x:Val),Good e x→e≤d→Rds d x (fmtV x)
 | 0,e,x,hg,he=>by
  obtain ⟨e',h,_⟩:=hg.item
  omega
 | d+1,e,x,hg,he=>by
  obtain ⟨hsh,hnum,htx,hke⟩:=q99 hg.node
  obtain ⟨k0,k6,s1,s2,s3,s4,s5,s6⟩:=q7x hsh
  obtain ⟨e',he',hit⟩:=hg.item
  have hkt:=qel _ _ hke
  have hpw:=(qek _ _ hke).2
  have hin:∀ y ∈ x.items,Rds d y (fmtV y):=fun y hy=>qdz d e' y (hit y hy) (by omega)
  obtain ⟨k,n,s,items,keys⟩:=x
  simp only[Val.kind,Val.num,Val.str,Val.items,Val.keys]at k0 k6 s1 s2 s3 s4 s5 s6 hnum htx hkt hpw hin
  have hk:k=0∨k=1∨k=2∨k=3∨k=4∨k=5∨k=6:=by omega
  obtain ⟨w0,w1,w2,w6⟩:=qxa (d+1)
  rcases hk with rfl | rfl | rfl | rfl | rfl | rfl | rfl
  ·obtain rfl:=s1 (by decide) (by decide)
   obtain rfl:=s3 (by decide)
   obtain rfl:=s4 (by decide) (by decide)
   obtain rfl:=s6 (by decide)
   exact w0
  ·obtain rfl:=s3 (by decide)
   obtain rfl:=s4 (by decide) (by decide)
   obtain rfl:=s6 (by decide)
   rcases s2 rfl with rfl | rfl
   ·exact w2
   ·exact w1
  ·obtain rfl:=s3 (by decide)
   obtain rfl:=s4 (by decide) (by decide)
   obtain rfl:=s6 (by decide)
   exact qti (d+1) n (hnum rfl)
  ·obtain rfl:=s1 (by decide) (by decide)
   obtain rfl:=s4 (by decide) (by decide)
   obtain rfl:=s6 (by decide)
   exact qwc (d+1) htx
  ·obtain rfl:=s1 (by decide) (by decide)
   obtain rfl:=s3 (by decide)
   obtain rfl:=s6 (by decide)
   by_cases hnil:items=[]
   ·subst hnil; exact (qio d).1
   ·exact qso hnil hin
  ·obtain rfl:=s1 (by decide) (by decide)
   obtain rfl:=s3 (by decide)
   have hl:=s5 rfl
   by_cases hnil:items=[]
   ·subst hnil
    obtain rfl:keys=[]:=List.length_eq_zero_iff.1 hl
    exact (qio d).2
   ·exact qt3 hnil hl hpw hkt hin
  ·obtain rfl:=s1 (by decide) (by decide)
   obtain rfl:=s3 (by decide)
   obtain rfl:=s4 (by decide) (by decide)
   obtain rfl:=s6 (by decide)
   exact w6
theorem qm3 {v:Val} {t b:List UInt8} (hc:q1y v=0) (h:Rds 32 v t) (hb:q27 b) (hs:t.length+b.length≤65536):q2b (bS (t++b))=(v,⟨0,0,eS⟩):=by
 have hbl:qc b=[]:=by have:=q58 (b:=b) [] hb; rwa [List.append_nil]at this
 have hst:Stop b:=by
  cases b with
  | nil=>trivial
  | cons c r=>exact qd5 (hb c List.mem_cons_self)
 unfold q2b
 rw[if_neg (by rw[q26,List.length_append]; omega),q4l,h b hst]
 simp only
 unfold q5c
 rw[if_pos hbl,if_pos hc]
theorem qsa (v:Val) (hf:v.Fits):gQ00 v=some true:=by
 obtain ⟨b,hb,hc⟩:=qdw v hf
 unfold gQ00
 rw[hb,Option.bind_some,awake]
 cases b with
 | false=>rfl
 | true =>
  have hck:=hc rfl
  rw[qgl hf hck]
  simp only[Bool.not_true,cond_false,Option.bind_some]
  rw[q50,q26]
  by_cases h:65536 < (fmtV v).length
  ·have:q2b (bS (fmtV v))=(vZ,⟨3,0,eS⟩):=by unfold q2b; rw[if_pos (by rw[q26]; exact h)]
   rw[this,decide_eq_true (show ((fmtV v).length:Int) > 65536 by omega)]
   rfl
  ·have:=qm3 (b:=[]) hck (qdz 32 32 v (q75 hck) (Nat.le_refl _)) (fun c hc=>absurd hc List.not_mem_nil) (by simp only[List.length_nil]; omega)
   rw[List.append_nil]at this
   rw[this,decide_eq_false (show ¬ ((fmtV v).length:Int) > 65536 by omega)]
   simp only[Option.bind_some,cond_false]
   rw[q9i hf]
   rfl
end Abs
end Go.Proofs.YtpidpioifnnllaaGreatDoor
