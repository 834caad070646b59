/-
  slices.SortFunc at an array of one's own, elements of one cell.
-/
import Derived.Test.YtpidpioifnnllaaGreatDoorAbsN
import Derived.Shelf.SlSortCmp.NoneTotal
namespace Go.Proofs.YtpidpioifnnllaaGreatDoor
set_option linter.unusedSimpArgs false
set_option linter.unusedVariables false
namespace Abs
open Go.RowKit Go.Shelf Go.Lib Go.Sort
def OkQ (E:World→Prop) (E0:Nat) (P:Program) (f:FuncId) (args:List AV) (σ:Sto) (v:Value):Prop :=
 ∀ (X:Cx) (w:World) (vs:List Value),X.σ=σ→(∀ id,¬ X.pend id)→Inv E E0 X w→All2 (q9 X w) args vs →
  Calls P f vs.toArray w fun e w'=>e=.returned v∧∃ q os,w'=Sort.grow (w.drewN q) os
def q5u {α:Type} [Inhabited α] (cf:α→α→Int) (ds:List α):List α:=(pdq (ltOf cf) ds.toArray 0 ds.length (Lib.bitLen ds.length) true true).toList
section
variable {α : Type} [Inhabited α] {cf : α → α → Int}
theorem q7y (hO:SWO (ltOf cf)) (ds:List α):(q5u cf ds).Perm ds∧(q5u cf ds).Pairwise fun x y=>ltOf cf y x=false:=by
 have h:=pdq_sorts (ltOf cf) hO ds.toArray 0 ds.toArray.size (Lib.bitLen ds.toArray.size) true true (Nat.zero_le _) (Nat.le_refl _) (Or.inl rfl)
 have hz:ds.toArray.size=ds.length:=by simp
 rw[hz]at h
 unfold q5u
 generalize pdq (ltOf cf) ds.toArray 0 ds.length (Lib.bitLen ds.length) true true=D at h ⊢
 obtain ⟨⟨h1,_,h2⟩,h3⟩:=h
 have hD:D.size=ds.length:=h1.trans hz
 have e1:D.extract 0 ds.length=D:=by rw[← hD]; exact Array.extract_size
 have e2:ds.toArray.extract 0 ds.length=ds.toArray:=by rw[← hz]; exact Array.extract_size
 rw[e1,e2]at h2
 refine ⟨h2,?_⟩
 rw[List.pairwise_iff_getElem]
 intro i j hi hj hij
 have hi':i < D.size:=by simpa using hi
 have hj':j < D.size:=by simpa using hj
 have:=h3 i j (Nat.zero_le _) hij (by omega)
 rw[getElem!_pos _ j hj',getElem!_pos _ i hi']at this
 simpa using this
end
def rowC {α:Type} (enc:α→Value) (d:List α):List PV:=d.map fun x=>.sc (enc x)
theorem qbw {α:Type} (enc:α→Value) (d:List α):(rowC enc d).length=d.length:=by simp[rowC]
section
variable {α : Type} [Inhabited α] {E : World → Prop} {E0 : Nat} {P : Program} {X : Cx} {w : World} {enc : α → Value} {ds : List α} {id : Nat} {l : Nat × Nat}
theorem qug (hi:Inv E E0 X w) (ho:X.σ[id]?=some (some (.arr (rowC enc ds) 1 0))) (hp:¬ X.pend id) (hl:X.loc id=some l):Holds enc w l.1 0 ds.toArray:=by
 obtain ⟨l0,hl0,hB,cs,Ty,hg,hz,hr⟩:=hi.ob id _ ho hp rfl
 rw[hl]at hl0
 obtain rfl:l=l0:=by simpa using hl0
 intro j hj
 have hj':j < ds.length:=by simpa using hj
 obtain ⟨u,hu,hcr⟩:=hr j (.pv (.sc (enc ds[j]))) (by simp[AObj.cells,rowC,hj'])
 obtain rfl:u=enc ds[j]:=hcr.1
 refine ⟨?_,?_⟩
 ·unfold World.cell?
  simp only
  rw[hg]
  simp only[Nat.zero_add]
  rw[hu,getElem!_pos _ j hj]; rfl
 ·unfold World.frozen?
  simp only
  rw[hg]
  simp
theorem qv2 (w:World) (b:Nat) (d:Array α) {cs:Array Value} {Ty:TypeId} {f:Nat×Nat} (hg:w.heap[b]?=some (.cells cs Ty f)):(putRow enc w b 0 d).heap[b]?=some (.cells (putCells enc 0 d cs) Ty f):=by
 unfold putRow mapBlock
 simp only[Array.getElem?_modify,if_true,hg,Option.map_some,onCells]
theorem qv3 (w:World) (b:Nat) (d:Array α) {k:Nat} (h:k≠b):(putRow enc w b 0 d).heap[k]?=w.heap[k]?:=by
 unfold putRow mapBlock
 simp only[Array.getElem?_modify,if_neg (Ne.symm h)]
def qbz (X:Cx) (id:Nat) (enc:α→Value) (d:List α) (n:Nat):Cx:={ X with σ:=X.σ.set id (some (.arr (rowC enc d) 1 0)),hs:=n }
theorem qnf (hi:Inv E E0 X w) (hE:∀ w w',E w→Below E0 w w'→E w') (h1:OneCell enc) (ho:X.σ[id]?=some (some (.arr (rowC enc ds) 1 0))) (hp:¬ X.pend id) (hl:X.loc id=some l) (n:Nat) (os:Array Obj) (d:Array α) (hs:d.size=ds.length) :
  Inv E E0 (qbz X id enc d.toList (sortWorld enc w l.1 0 n d os).heap.size) (sortWorld enc w l.1 0 n d os)∧Ext X w (qbz X id enc d.toList (sortWorld enc w l.1 0 n d os).heap.size) (sortWorld enc w l.1 0 n d os):=by
 obtain ⟨l0,hl0,hB,cs,Ty,hg,hz,hr⟩:=hi.ob id _ ho hp rfl
 rw[hl]at hl0
 obtain rfl:l=l0:=by simpa using hl0
 have g1:(putRow enc (Sort.ahead w n) l.1 0 d).heap[l.1]?=some (.cells (putCells enc 0 d cs) Ty (0,0)):=qv2 _ _ _ hg
 have g2:∀ k,k≠l.1→(putRow enc (Sort.ahead w n) l.1 0 d).heap[k]?=w.heap[k]?:=fun k h=>qv3 _ _ _ h
 have hz1:(putRow enc (Sort.ahead w n) l.1 0 d).heap.size=w.heap.size:=by rw[size_putRow]; rfl
 have hBel:∀ B,B≤l.1→Below B w (putRow enc (Sort.ahead w n) l.1 0 d):=fun B h=>⟨rfl,rfl,rfl,Nat.le_of_eq hz1.symm,fun k hk=>g2 k (by omega)⟩
 have hlen:d.toList.length=ds.length:=by simpa using hs
 have hx:=q85 (w':=putRow enc (Sort.ahead w n) l.1 0 d) hi ho hp hl (ob':=.arr (rowC enc d.toList) 1 0) (by simp[AObj.ver,qbw,hs]) rfl (fun _=>by simp[AObj.cells,qbw,hs]) (Nat.le_refl _) (Below.o (hBel _ (hB.ge rfl))) (fun b o hbo=>by
  unfold World.cell?
  simp only
  rw[g2 b (hbo.resolve_right (Nat.not_lt_zero _))])
 have hi1:=q86 hi ho hp hl (ob':=.arr (rowC enc d.toList) 1 0) rfl hx (hE _ _ hi.env (hBel _ (Nat.le_trans hi.e0 (hB.ge rfl)))) hz1 g2 (putCells enc 0 d cs) Ty g1 (by simp[putCells,hz]) (fun i c hc=>by
  simp only[AObj.cells,rowC,List.map_map,List.getElem?_map,Option.map_eq_some_iff,Function.comp]at hc
  obtain ⟨x,hx1,rfl⟩:=hc
  have hid:i < d.toList.length:=(List.getElem?_eq_some_iff.1 hx1).1
  have hids:i < ds.length:=by omega
  obtain ⟨u,hu,_⟩:=hr i (.pv (.sc (enc ds[i]))) (by simp[AObj.cells,rowC,hids])
  refine ⟨enc x,?_,rfl,h1 x⟩
  unfold putCells
  rw[Array.getElem?_mapIdx,hu,Option.map_some,if_pos ⟨Nat.zero_le _,by simp at hid; omega⟩,Nat.sub_zero]
  congr 2
  have hid':i < d.size:=by simpa using hid
  rw[getElem!_pos _ i hid']
  simpa [hid'] using hx1)
 have hgr:Below (putRow enc (Sort.ahead w n) l.1 0 d).heap.size (putRow enc (Sort.ahead w n) l.1 0 d) (sortWorld enc w l.1 0 n d os):=by
  unfold sortWorld
  exact ⟨rfl,rfl,rfl,by rw[size_grow]; omega,fun k hk=>heap_grow_old _ _ hk⟩
 have hE2:E (sortWorld enc w l.1 0 n d os):=hE _ _ hi1.env (hgr.mono (by rw[hz1]; exact Nat.le_trans hi.e0 hi.b0))
 exact ⟨q3p hi1 hgr hE2,hx.trans (q2p hi1 hgr)⟩
omit [Inhabited α] in
theorem quh (ho:X.σ[id]?=some (some (.arr (rowC enc ds) 1 0))) {u:Value} (h:CRep X w (.own id ds.length 0 ds.length) u) (hne:ds≠[]):∃ l cap,X.loc id=some l∧u=.slice (some ⟨l.1,0,none⟩) ds.length cap:=by
 obtain ⟨k0,k1,k2,k3⟩:=h
 obtain ⟨k4,k5⟩:=k3 _ ho
 obtain ⟨l,hl,hle,a,cap,hu,hcap,hsp,hat⟩:=k5 (by simp[AObj.ver,qbw])
 have hpos:0 < ds.length:=List.length_pos_iff.2 hne
 obtain ⟨a1,a2,a3⟩:=hat (by omega)
 obtain ⟨b,o,s⟩:=a
 simp only at a1 a2 hsp
 subst a1; subst a2; subst hsp
 exact ⟨l,cap,hl,hu⟩
omit [Inhabited α] in
theorem qui (ho:X.σ[id]?=some (some (.arr (rowC enc ([]:List α)) 1 0))) {u:Value} (h:CRep X w (.own id 0 0 0) u):∃ p cap,u=.slice p 0 cap:=by
 obtain ⟨k0,k1,k2,k3⟩:=h
 obtain ⟨k4,k5⟩:=k3 _ ho
 obtain ⟨l,hl,hle,a,cap,hu,hcap,hsp,hat⟩:=k5 (by simp[AObj.ver,qbw])
 exact ⟨_,cap,hu⟩
end
def cmpC (g:FuncId) (caps:List (Nat×Nat×Nat)):AC:=match caps with | []=>.pv (.sc (.func (.func g) #[] #[])) | caps=>.fn g caps
section
variable {α : Type} [Inhabited α] {E : World → Prop} {E0 : Nat} {P : Program} {ρ : Ren} {G : Nat → Option (List PV)}
theorem qib {X:Cx} {w:World} {g:FuncId} {caps:List (Nat×Nat×Nat)} {u:Value} (h:CRep X w (cmpC g caps) u):∃ us,u=.func (.func g) #[] us∧All2 (q9 X w) (q4p caps) us.toList:=by
 cases caps with
 | nil =>
  obtain ⟨rfl,_⟩:u=.func (.func g) #[] #[]∧_:=h
  exact ⟨#[],rfl,trivial⟩
 | cons c r =>
  obtain ⟨us,hu,ha⟩:=h
  refine ⟨us,hu,?_⟩
  unfold q4p
  revert ha
  generalize us.toList=ul
  generalize c::r=cs
  induction cs generalizing ul with
  | nil=>intro ha; cases ul with | nil=>trivial | cons _ _=>exact ha.elim
  | cons x t ih=>intro ha; cases ul with | nil=>exact ha.elim | cons _ _=>exact ⟨ha.1,ih _ ha.2⟩
theorem qw3 (L:SlLaysF.n6 P ρ) (hb:Base E E0 G) {enc:α→Value} (h1:OneCell enc) {cf:α→α→Int} (hO:SWO (ltOf cf)) {g:FuncId} {caps:List (Nat×Nat×Nat)} {σ:Sto} {id:Nat} {ds:List α}
  (eg:∀ args w,(callFunc g args).run P w=.ok (.enter g args) w) (ho:σ[id]?=some (some (.arr (rowC enc ds) 1 0))) (hsz:ds.length < 4611686018427387904)
  (hc:∀ d:List α,d.length=ds.length→∀ x y,OkQ E E0 P g (.cell (.pv (.sc (enc x)))::.cell (.pv (.sc (enc y)))::q4p caps) (σ.set id (some (.arr (rowC enc d) 1 0))) (.int .i64 (cf x y))) :
  Ok E E0 P (ρ.f 6) [.cell (.own id ds.length 0 ds.length),.cell (cmpC g caps)] σ (.tup []) (σ.set id (some (.arr (rowC enc (q5u cf ds)) 1 0))):=by
 intro X w vs hσ hn hi hv
 subst hσ
 match vs,hv with
 | [u,v],⟨hu,hv,_⟩ =>
 obtain ⟨us,rfl,hus⟩:=qib hv
 by_cases hne:ds=[]
 ·subst hne
  obtain ⟨p,cap,rfl⟩:=qui (w:=w) ho hu
  refine (AnyF.slices_SortFunc_none { L with } p cap _ w).mono ?_
  rintro e w' ⟨rfl,rfl⟩
  refine ⟨X,.tuple #[],rfl,?_,hn,hi,Ext.refl _ _,#[],rfl,trivial⟩
  rw[(q7y hO []).1.eq_nil]
  exact (q7w ho).symm
 ·obtain ⟨l,cap,hl,rfl⟩:=quh (w:=w) ho hu hne
  have hp:=hn id
  have hH:=qug hi ho hp hl
  have hblk:l.1 < w.heap.size:=by
   obtain ⟨l0,hl0,hB,cs,Ty,hg,hz,hr⟩:=hi.ob id _ ho hp rfl
   rw[hl]at hl0
   obtain rfl:l=l0:=by simpa using hl0
   rcases Nat.lt_or_ge l.1 w.heap.size with h' | h'
   ·exact h'
   ·simp[Array.getElem?_eq_none h']at hg
  have hsz':ds.toArray.size=ds.length:=by simp
  have hcmp:CmpLays1 P g us enc cf l.1 0 ds.toArray.size w:=by
   intro n os d hd x y
   have hd':d.size=ds.length:=by simpa using hd
   obtain ⟨q1,q2⟩:=qnf hi hb.step h1 ho hp hl n os d hd'
   have:=hc d.toList (by simpa using hd') x y (qbz X id enc d.toList (sortWorld enc w l.1 0 n d os).heap.size) (sortWorld enc w l.1 0 n d os) (enc x::enc y::us.toList) rfl hn q1 ⟨⟨rfl,h1 x⟩,⟨rfl,h1 y⟩,(hus.imp fun _ _ k=>q9.ext q2 k)⟩
   have harr:(enc x::enc y::us.toList).toArray=#[enc x,enc y]++us:=by apply Array.ext'; simp
   rw[harr]at this
   exact this
  have hS:=Any.slices_SortFunc_eq L enc h1 cf hO g us l.1 0 cap ds.toArray w eg hcmp hH hblk (by simpa using hsz)
  rw[hsz']at hS
  refine hS.mono ?_
  rintro e w' ⟨rfl,n,os,rfl⟩
  have hlen:(pdq (ltOf cf) ds.toArray 0 ds.length (Lib.bitLen ds.length) true true).size=ds.length:=by
   have:=(q7y hO ds).1.length_eq
   simpa [q5u] using this
  obtain ⟨q1,q2⟩:=qnf hi hb.step h1 ho hp hl n os _ hlen
  exact ⟨qbz X id enc (pdq (ltOf cf) ds.toArray 0 ds.length (Lib.bitLen ds.length) true true).toList (sortWorld enc w l.1 0 n (pdq (ltOf cf) ds.toArray 0 ds.length (Lib.bitLen ds.length) true true) os).heap.size,.tuple #[],rfl,rfl,hn,q1,q2,#[],rfl,trivial⟩
theorem qcy {nb:Bool} {sz fr:Nat} {cs:List PV} (h:cs≠[]):arO nb sz fr cs=.arr cs sz fr:=(q2r nb sz fr cs).resolve_right fun k=>h k.1
theorem qng (L:SlLaysF.n6 P ρ) {g:FuncId} {caps:List (Nat×Nat×Nat)} {σ:Sto} {id:Nat} {nb:Bool} (ho:σ[id]?=some (some (arO nb 1 0 []))) :
  Ok E E0 P (ρ.f 6) [.cell (.own id 0 0 0),.cell (cmpC g caps)] σ (.tup []) σ:=by
 intro X w vs hσ hn hi hv
 subst hσ
 match vs,hv with
 | [u,v],⟨hu,hv,_⟩ =>
 obtain ⟨us,rfl,hus⟩:=qib hv
 have hslice:∃ p cap,u=.slice p 0 cap:=by
  obtain ⟨k0,k1,k2,k3⟩:=hu
  obtain ⟨k4,k5⟩:=k3 _ ho
  have k6:=k5 (by rw[qha]; rfl)
  rcases q2r nb 1 0 [] with e | ⟨_,e⟩
  ·rw[e]at k6
   obtain ⟨l,hl,hle,a,cap,hu,_⟩:=k6
   exact ⟨_,cap,hu⟩
  ·rw[e]at k6
   exact ⟨none,0,k6.1⟩
 obtain ⟨p,cap,rfl⟩:=hslice
 refine (AnyF.slices_SortFunc_none { L with } p cap _ w).mono ?_
 rintro e w' ⟨rfl,rfl⟩
 exact ⟨X,.tuple #[],rfl,rfl,hn,hi,Ext.refl _ _,#[],rfl,trivial⟩
theorem qw2 (L:SlLaysF.n6 P ρ) (hb:Base E E0 G) {enc:α→Value} (h1:OneCell enc) {cf:α→α→Int} (hO:SWO (ltOf cf)) {g:FuncId} {caps:List (Nat×Nat×Nat)} {σ:Sto} {id:Nat} {nb:Bool} {ds:List α}
  (eg:∀ args w,(callFunc g args).run P w=.ok (.enter g args) w) (ho:σ[id]?=some (some (arO nb 1 0 (rowC enc ds)))) (hsz:ds.length < 4611686018427387904)
  (hc:∀ d:List α,d.length=ds.length→∀ x y,OkQ E E0 P g (.cell (.pv (.sc (enc x)))::.cell (.pv (.sc (enc y)))::q4p caps) (σ.set id (some (arO nb 1 0 (rowC enc d)))) (.int .i64 (cf x y))) :
  Ok E E0 P (ρ.f 6) [.cell (.own id ds.length 0 ds.length),.cell (cmpC g caps)] σ (.tup []) (σ.set id (some (arO nb 1 0 (rowC enc (q5u cf ds))))):=by
 have ne:∀ {d:List α},d≠[]→rowC enc d≠[]:=fun h k=>h (by simpa [rowC] using k)
 by_cases hne:ds=[]
 ·subst hne
  rw[(q7y hO []).1.eq_nil,q7w ho]
  exact qng L ho
 ·have hs:q5u cf ds≠[]:=fun k=>hne (by have:=(q7y hO ds).1; rw[k]at this; exact this.nil_eq.symm)
  rw[qcy (ne hs)]
  rw[qcy (ne hne)]at ho
  exact qw3 L hb h1 hO eg ho hsz fun d hd x y=>by
   have hd0:d≠[]:=fun k=>hne (by rw[k]at hd; exact List.length_eq_zero_iff.1 hd.symm)
   have:=hc d hd x y
   rwa [qcy (ne hd0)]at this
end
section
variable {E : World → Prop} {E0 : Nat} {P : Program} {G : Nat → Option (List PV)} {m : Nat} {K : Ex → List TV → Sto → Prop} {s : MS} {ρ β : Type} {e : Option β} {kk : β → Option ρ} {x : ρ}
theorem qam {σ:Sto} {c c':AC} (h:c=c'):Conv E E0 σ c c':=by subst h; exact fun _ _ _ _ _ k=>k
theorem qcd {α:Type} (F:Fl α) {id:Nat} {xs ys:List α} (h:ys.length=xs.length):vO F id xs=vO F id ys:=by
 unfold vO
 rw[F.length,F.length,h]
theorem qcc {α:Type} (xs:List α) (i:Int) (z:α):(upd xs i z).length=xs.length:=by unfold upd; simp
theorem qhw (hb:Base E E0 G) (n:Nat) {g:FuncId} {ws:List AV} {σ1:β→Sto} {enc:β→TV} (hq:e.bind kk=some x) (hp:∀ y,e=some y→Ok E E0 P g ws (adv P G n s).σ (enc y) (σ1 y)) (k:∀ y,e=some y→kk y=some x→J E E0 P G m K (mSto (adv P G n s) (enc y) (σ1 y)))
  (h:mPre (q66 P G) (adv P G n s)=some (false,g,ws):=by kernel_rfl):J E E0 P G m K s:=by
 obtain ⟨y,hy,hk⟩:=Option.bind_eq_some_iff.1 hq
 obtain ⟨D,ops,l,l2,hr,h⟩:=q23 h
 obtain ⟨rfl,o,h1,h2⟩:=qak h
 exact q28 hb n hr h1 (fun R=>qht h2 (hp y hy)) (k y hy hk)
end
end Abs
end Go.Proofs.YtpidpioifnnllaaGreatDoor
