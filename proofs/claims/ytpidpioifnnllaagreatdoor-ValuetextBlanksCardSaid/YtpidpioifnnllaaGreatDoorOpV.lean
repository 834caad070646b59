/-
  From what the form says of an argument (data that is read from memory) to plain values.
  Arguments that are values and types of the configuration language.
-/
import Derived.Test.YtpidpioifnnllaaGreatDoorFlA
import Derived.ChangeArms
import Derived.DataReads
import Derived.OpenShut
import Derived.SizedLaws
import Derived.Carry
namespace Go.Proofs.YtpidpioifnnllaaGreatDoor
set_option linter.unusedSimpArgs false
set_option linter.unusedVariables false
namespace Abs
open Go.RowKit
theorem qkx {α:Type} {p:Nat→α→Prop}:∀ n,(∀ i,i < n→∃ x,p i x)→∃ l:List α,l.length=n∧∀ i x,l[i]?=some x→p i x
 | 0,_=>⟨[],rfl,fun i x h=>by simp at h⟩
 | n+1,h=>by
  obtain ⟨l,h1,h2⟩:=qkx n fun i hi=>h i (Nat.lt_succ_of_lt hi)
  obtain ⟨x,hx⟩:=h n (Nat.lt_succ_self n)
  refine ⟨l++[x],by simp[h1],fun i y hy=>?_⟩
  rcases Nat.lt_or_ge i n with k | k
  ·rw[List.getElem?_append_left (by omega)]at hy; exact h2 i y hy
  ·rw[List.getElem?_append_right (by omega)]at hy
   have:i=n:=by
    rcases Nat.eq_or_lt_of_le k with e | e
    ·exact e.symm
    ·rw[List.getElem?_eq_none (by simp; omega)]at hy; cases hy
   subst this
   simp[h1]at hy; subst hy; exact hx
section
variable {H : Type} {enc : TypeId × Value → H} {P : Program} {W : World}
def oldB (W:World) (b _o:Nat):Prop:=b < W.heap.size
theorem qtl {b o:Nat} {v:Value} (h:W.cell? ⟨b,o,none⟩=some v):oldB W b o:=by
 unfold World.cell? at h
 unfold oldB
 rcases Nat.lt_or_ge b W.heap.size with k | k
 ·exact k
 ·simp[Array.getElem?_eq_none k]at h
def q5z {α:Type} (enc:TypeId×Value→H) (P:Program) (W:World) (n:Nat) (t:TypeId) (F:Fl α) (good:α→Prop):Prop :=
 ∀ cs d ps,DataW.trod enc P W 0 (fun _=>true) true n t cs=some (d,ps)→(∀ m ∈ d.weights P t,m≤reachBytes)→∃ x,good x∧All2 (PRep (oldB W) W) (F.c x) cs
theorem qmo:reachBytes=140737488351232:=by decide
theorem qff {n:Nat} {t:TypeId} (ht:P.underlying t=some .string):q5z enc P W n t flS fun s=>s.size≤140737488351232:=by
 intro cs d ps h hw
 obtain ⟨s,rfl,hx,hm⟩:=DataW.trod_string ht h
 cases hx
 refine ⟨s,?_,⟨rfl,rfl⟩,trivial⟩
 have:=hw s.data.toList.length (by simp[DataW.weights])
 rw[qmo,Array.length_toList,ByteArray.size_data]at this
 exact this
theorem qob {e:TypeId} {m:Nat}:∀ {ds:List (DataW H)} {d:DataW H},d ∈ ds→m ∈ d.weights P e→m ∈ DataW.weightsAll P e ds
 | [],d,h,_=>absurd h List.not_mem_nil
 | a::r,d,h,hm=>by
  rw[DataW.weightsAll,List.mem_append]
  rcases List.mem_cons.1 h with rfl | h
  ·exact .inl hm
  ·exact .inr (qob h hm)
theorem qh1 {α β:Type} {R:α→β→Prop}:∀ {l:List α} {m:List β},All2 R l m→∀ (i:Nat) (a:α),l[i]?=some a→∃ b,m[i]?=some b∧R a b
 | [],[],_,i,a,h=>by simp at h
 | a::l,b::m,h,0,x,hx=>by simp at hx; subst hx; exact ⟨b,rfl,h.1⟩
 | a::l,b::m,h,i+1,x,hx=>qh1 (l:=l) (m:=m) h.2 i x (by simpa using hx)
 | [],_::_,h,_,_,_=>h.elim
 | _::_,[],h,_,_,_=>h.elim
theorem qm5 {prot:Nat→Nat→Prop} {w:World} {b:Nat}:∀ {off:Nat} {cs ds:List PV},qh prot w b off cs→qh prot w b (off+cs.length) ds→qh prot w b off (cs++ds)
 | off,[],ds,_,h=>by simpa using h
 | off,c::r,ds,h,k=>by
  unfold qh at h
  rw[List.cons_append]
  unfold qh
  refine ⟨h.1,qm5 h.2 ?_⟩
  rw[List.length_cons]at k
  rwa [show off+1+r.length=off+(r.length+1) by omega]
theorem qlz {α:Type} {F:Fl α} {good:α→Prop} {t e:TypeId} (ht:P.underlying t=some (.slice e)) (hc:P.cellsOf e=F.sz) {N:Nat} (he:∀ n,n < N→q5z enc P W n e F good)
  {cs:List Value} {d:DataW H} {ps:List MemPlace} (h:DataW.trod enc P W 0 (fun _=>true) true N t cs=some (d,ps)) (hw:∀ m ∈ d.weights P t,m≤reachBytes) :
  ∃ l u,cs=[u]∧(∀ x ∈ l,good x)∧l.length*P.bytesOf e≤140737488351232∧PRep (oldB W) W (pL F l) u:=by
 rcases DataW.trod_slice ht h with ⟨rfl,_⟩ | ⟨a,len,cap,elems,rest,n,rfl,rfl,hx,hb,hl,hm,hlen,hel,_,_⟩
 ·exact ⟨[],_,rfl,fun _ h=>absurd h List.not_mem_nil,by simp,by unfold pL PRep; exact .inl ⟨rfl,rfl,F.nil⟩⟩
 cases hx
 have hwt:DataW.weights P t (.slice (elems.map (·.1)) (rest.map (·.1)))=((elems.map (·.1)).length+(rest.map (·.1)).length)*P.bytesOf e::(DataW.weightsAll P e (elems.map (·.1))++DataW.weightsAll P e (rest.map (·.1))):=by
  rw[DataW.weights,ht]
 rw[hwt]at hw
 have key:∀ i,i < len→∃ x,good x∧∃ cs',W.cells? 0 (a.add (i*P.cellsOf e)) (P.cellsOf e)=some cs'∧All2 (PRep (oldB W) W) (F.c x) cs':=by
  intro i hi
  have h1:=hel i hi
  have hie:i < elems.length:=by omega
  rw[List.getElem?_eq_getElem hie]at h1
  obtain ⟨cs',h2,h3⟩:=Option.bind_eq_some_iff.1 h1
  obtain ⟨x,g1,g2⟩:=he n (Nat.lt_succ_self n) cs' elems[i].1 elems[i].2 h3 (fun m hm=>hw m (List.mem_cons_of_mem _ (List.mem_append.2 (.inl (qob (List.mem_map.2 ⟨_,List.getElem_mem hie,rfl⟩) hm)))))
  exact ⟨x,g1,cs',h2,g2⟩
 obtain ⟨l,l1,l2⟩:=qkx len key
 have hbytes:=hw _ (List.mem_cons_self ..)
 rw[List.length_map,qmo]at hbytes
 have hlb:l.length*P.bytesOf e≤140737488351232:=by
  refine Nat.le_trans (Nat.mul_le_mul_right _ ?_) hbytes
  omega
 refine ⟨l,_,rfl,fun x hx=>?_,hlb,?_⟩
 ·obtain ⟨i,hi⟩:=List.getElem?_of_mem hx
  exact (l2 i x hi).1
 ·unfold pL PRep
  rcases Nat.eq_zero_or_pos len with h0 | h0
  ·subst h0
   obtain rfl:l=[]:=List.length_eq_zero_iff.1 l1
   exact .inr (.inr ⟨rfl,F.nil,a,cap,rfl,fun h=>by cases h⟩)
  ·have hpos:=F.pos
   have hspot:a.spot=none:=by
    obtain ⟨x,hx⟩:∃ x,l[0]?=some x:=⟨_,List.getElem?_eq_getElem (by omega)⟩
    obtain ⟨_,cs',c1,c2⟩:=l2 0 x hx
    obtain ⟨_,c3,c4⟩:=World.cells?_some c1
    have c5:=c4 0 (by rw[hc]; exact hpos)
    rw[List.getElem?_eq_getElem (by rw[c3,hc]; exact hpos),show (a.add (0*P.cellsOf e)).add 0=a by simp[Addr.add]]at c5
    exact World.cell?_spot c5
   obtain ⟨b,off,sp⟩:=a
   simp only at hspot
   subst hspot
   refine .inr (.inl ⟨b,off,cap,by rw[l1],by omega,(fun h=>by cases h),?_⟩)
   have hadd:∀ i j:Nat,(Addr.add ⟨b,off,none⟩ (i*P.cellsOf e)).add j=⟨b,off+i*P.cellsOf e+j,none⟩:=by
    intro i j
    unfold Addr.add
    by_cases hi:i*P.cellsOf e=0 <;> by_cases hj:j=0 <;> simp[hi,hj]
   have step:∀ k,k≤l.length→qh (oldB W) W b (off+(l.length - k)*P.cellsOf e) (F.f (l.drop (l.length - k))):=by
    intro k
    induction k with
    | zero =>
     intro _
     rw[Nat.sub_zero,List.drop_length,F.nil]
     unfold qh; trivial
    | succ k ih =>
     intro hk
     have hi:l.length - (k+1) < l.length:=by omega
     generalize hI:l.length - (k+1)=i at hi
     have hnext:l.length - k=i+1:=by omega
     rw[hnext]at ih
     have hx:=List.getElem?_eq_getElem hi
     rw[List.drop_eq_getElem_cons hi,F.cons]
     obtain ⟨_,cs',c1,c2⟩:=l2 i _ hx
     obtain ⟨_,c3,c4⟩:=World.cells?_some c1
     refine qm5 (qh.of_get fun j c hj=>?_) ?_
     ·obtain ⟨u,u1,u2⟩:=qh1 c2 j c hj
      have hjl:j < P.cellsOf e:=by rw[← c3]; exact (List.getElem?_eq_some_iff.1 u1).1
      have:=c4 j hjl
      rw[hadd,u1]at this
      exact ⟨u,this,qtl this,u2⟩
     ·have:=ih (by omega)
      rw[F.len,← hc]
      rwa [show off+i*P.cellsOf e+P.cellsOf e=off+(i+1)*P.cellsOf e by rw[Nat.succ_mul]; omega]
   have:=step l.length (Nat.le_refl _)
   simpa using this
end
end Abs
end Go.Proofs.YtpidpioifnnllaaGreatDoor
namespace Go.Proofs.YtpidpioifnnllaaGreatDoor
namespace Abs
set_option maxRecDepth 1000000
open Go.RowKit
theorem qi3:Tryz.prog.cellsOf 26=5:=by kernel_rfl
theorem qpx:Tryz.prog.cellsOf 9=1:=by kernel_rfl
theorem qpv:Tryz.prog.bytesOf 26=80:=by kernel_rfl
theorem qpu:Tryz.prog.bytesOf 9=16:=by kernel_rfl
theorem qsn {α:Type} {l:List α} (h:l.length=5):∃ a b c d e,l=[a,b,c,d,e]:=by
 match l,h with
 | [a,b,c,d,e],_=>exact ⟨a,b,c,d,e,rfl⟩
section
variable {H : Type} {enc : TypeId × Value → H} {W : World}
theorem q8r {P:Program} {fs:Array Field} {n:Nat} {cs:List Value} {xs:List (DataW H×List MemPlace)}
  (h:∀ (i:Nat) (f:Field),fs[i]?=some f→DataW.trod enc P W 0 (fun _=>true) true n f.type ((cs.drop f.offset).take (P.cellsOf f.type))=xs[i]?)
  (hl:xs.length=fs.size) (hw:∀ m ∈ DataW.weightsEach P (fs.toList.map (·.type)) (xs.map (·.1)),m≤reachBytes) {i:Nat} {f:Field} (hf:fs[i]?=some f) {c:Nat} (hc:P.cellsOf f.type=c) :
  ∃ d ps,DataW.trod enc P W 0 (fun _=>true) true n f.type ((cs.drop f.offset).take c)=some (d,ps)∧∀ m ∈ d.weights P f.type,m≤reachBytes:=by
 have hi:i < xs.length:=by rw[hl]; exact (Array.getElem?_eq_some_iff.1 hf).1
 have h1:=h i f hf
 rw[List.getElem?_eq_getElem hi,hc]at h1
 refine ⟨_,_,h1,fun m hm=>hw m (DataW.weights_mem_each (j:=i) (t:=f.type) (d:=xs[i].1) ?_ ?_ m hm)⟩
 ·rw[List.getElem?_map,Array.getElem?_toList,hf]; rfl
 ·rw[List.getElem?_map,List.getElem?_eq_getElem hi]; rfl
theorem qfg (n:Nat):q5z enc Tryz.prog W n 26 flV Val.Fits:=by
 induction n using Nat.strongRecOn with
 | _ n ih =>
  intro cs d ps h hw
  obtain ⟨xs,n,rfl,hx,hlen,hxl,hxs⟩:=DataW.trod_struct Tryz.underlying26 h
  cases hx
  have hwt:DataW.weights Tryz.prog 26 (.agg (xs.map (·.1)))=DataW.weightsEach Tryz.prog ([22,3,9,23,24]) (xs.map (·.1)):=by
   rw[DataW.weights,Tryz.underlying26]; rfl
  rw[hwt]at hw
  rw[qi3]at hlen
  obtain ⟨v0,v1,v2,v3,v4,rfl⟩:=qsn hlen
  clear hlen hwt
  obtain ⟨d0,p0,t0,_⟩:=q8r hxs hxl hw (i:=0) rfl (c:=1) (by kernel_rfl)
  obtain ⟨d1,p1,t1,_⟩:=q8r hxs hxl hw (i:=1) rfl (c:=1) (by kernel_rfl)
  obtain ⟨d2,p2,t2,w2⟩:=q8r hxs hxl hw (i:=2) rfl (c:=1) (by kernel_rfl)
  obtain ⟨d3,p3,t3,w3⟩:=q8r hxs hxl hw (i:=3) rfl (c:=1) (by kernel_rfl)
  obtain ⟨d4,p4,t4,w4⟩:=q8r hxs hxl hw (i:=4) rfl (c:=1) (by kernel_rfl)
  obtain ⟨k,e0,_,b0⟩:=DataW.trod_int Tryz.underlying22 t0
  obtain ⟨m,e1,_,b1⟩:=DataW.trod_int Tryz.underlying3 t1
  obtain ⟨s,hs,e2⟩:=qff (n:=n) Tryz.underlying9 _ _ _ t2 w2
  obtain ⟨items,u3,e3,g3,n3,r3⟩:=qlz (F:=flV) Tryz.underlying23 qi3 (N:=n) (fun j hj=>ih j (by omega)) t3 w3
  obtain ⟨keys,u4,e4,g4,n4,r4⟩:=qlz (F:=flS) Tryz.underlying24 qpx (N:=n) (fun j _=>qff Tryz.underlying9) t4 w4
  have q0:v0=.int .i64 k:=by simpa using e0
  have q1:v1=.int .i64 m:=by simpa using e1
  have q3:v3=u3:=by simpa using e3
  have q4:v4=u4:=by simpa using e4
  subst q0 q1 q3 q4
  rw[qpv]at n3
  rw[qpu]at n4
  exact ⟨.mk k m s items keys,.mk (bounds_i64 b0) (bounds_i64 b1) hs n3 n4 g4 g3,by unfold PRep; exact ⟨rfl,rfl⟩,by unfold PRep; exact ⟨rfl,rfl⟩,e2.1,r3,r4,trivial⟩
theorem qoy {X:Cx} {cs:List PV} {us:List Value} (hp:∀ b o,oldB W b o→X.prot b o) (h:All2 (PRep (oldB W) W) cs us):All2 (CRep X W) (cs.map AC.pv) us:=by
 induction cs generalizing us with
 | nil=>cases us with
  | nil=>trivial
  | cons _ _=>exact h.elim
 | cons c r ih=>cases us with
  | nil=>exact h.elim
  | cons u us=>exact ⟨PRep.mono (fun b o hb=>⟨hp b o hb,rfl⟩) h.1,ih h.2⟩
theorem qfd {α:Type} {F:Fl α} {good:α→Prop} {t:TypeId} {fs:Array Field} (ht:Tryz.prog.underlying t=some (.struct fs)) (ho:∀ n,q5z enc Tryz.prog W n t F good)
  {v:Value} {d:DataW H} {ps:List MemPlace} (hval:Value.okWide Tryz.prog W .any 0 t v) (hd:DataW.Trod enc Tryz.prog W 0 (fun _=>true) true t v d ps) (hw:∀ m ∈ d.weights Tryz.prog t,m≤reachBytes) :
  ∃ x,good x∧q9 (Cx.bare W.heap.size W.heap.size fun _ _=>True) W (.agg ((F.c x).map AC.pv)) v:=by
 unfold Value.okWide at hval
 rw[ht]at hval
 obtain ⟨cs,rfl,_,_⟩:=hval
 obtain ⟨fuel,hf⟩:=hd
 obtain ⟨x,hx,hr⟩:=ho fuel _ _ _ hf hw
 exact ⟨x,hx,cs,rfl,qoy (fun b o hb=>.inl ⟨hb,trivial⟩) hr⟩
end
end Abs
end Go.Proofs.YtpidpioifnnllaaGreatDoor
