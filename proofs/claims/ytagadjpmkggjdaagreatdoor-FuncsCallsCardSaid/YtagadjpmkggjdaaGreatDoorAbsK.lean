import Derived.Test.YtagadjpmkggjdaaGreatDoorAbsN
import Derived.Test.YtagadjpmkggjdaaGreatDoorAbsS
import Derived.Shelf.SlSortCmp.WholeK
set_option linter.unusedVariables false
set_option linter.unusedSimpArgs false
namespace Go.Proofs.YtagadjpmkggjdaaGreatDoor
set_option linter.unusedSimpArgs false
set_option linter.unusedVariables false
namespace Abs
open Go.RowKit Go.Shelf Go.Lib Go.Sort
theorem qz0 {γ:Type} {lt:γ->γ->Bool} (ha:∀a b,lt a b=false->lt b a=false->a=b) {l l':List γ} (hp:l.Perm l') (h:l.Pairwise fun x y=>lt y x=false) (h':l'.Pairwise fun x y=>lt y x=false):l=l' :=
 hp.eq_of_pairwise (fun a b _ _ h1 h2=>(ha b a h1 h2).symm) h h'
section
variable {E : World -> Prop} {E0 : Nat} {P : Program} {X : Cx} {w : World} {id : Nat} {l : Nat × Nat}
theorem qrt (hi:Inv E E0 X w) {cs:List PV} {sz:Nat} (ho:X.σ[id]?=some (some (.arr cs sz 0))) (hp:¬X.pend id) (hl:X.loc id=some l) :
  ∃us:Array Value,us.size=cs.length/\All2 (PRep X.prot w) cs us.toList/\Holds (fun v:Value=>v) w l.1 0 us:=by
 obtain ⟨l0,hl0,hB,vs,Ty,hg,hz,hr⟩:=hi.ob id _ ho hp rfl
 rw[hl]at hl0
 obtain rfl:l=l0:=by simpa using hl0
 have hle:cs.length<=vs.size:=by
  rcases Nat.eq_zero_or_pos cs.length with h|h
  .omega
  .obtain ⟨u,hu,_⟩:=hr (cs.length - 1) (.pv (cs[cs.length - 1]'(by omega))) (by simp[AObj.cells])
   have:=(Array.getElem?_eq_some_iff.1 hu).1
   omega
 refine ⟨vs.extract 0 cs.length,by simp;omega,All2.of_get (by simp;omega) fun i c u hc hu=>?_,fun j hj=>?_⟩
 .have hil:i<cs.length:=(List.getElem?_eq_some_iff.1 hc).1
  obtain ⟨u',h1,h2⟩:=hr i (.pv c) (by simp[AObj.cells,hc])
  have:u=u':=by
   have hu2:(vs.extract 0 cs.length)[i]?=some u:=by rw[←Array.getElem?_toList];exact hu
   rw[Array.getElem?_extract]at hu2
   simp only[Nat.zero_add]at hu2
   rw[if_pos (by omega),h1]at hu2
   simpa using hu2.symm
  subst this
  exact h2
 .have hj':j<cs.length:=by simp at hj;omega
  obtain ⟨u',h1,h2⟩:=hr j (.pv (cs[j]'hj')) (by simp[AObj.cells])
  refine ⟨?_,?_⟩
  .unfold World.cell?
   simp only
   rw[hg]
   simp only[Nat.zero_add]
   rw[h1,getElem!_pos _ j hj]
   simp only[Array.getElem_extract,Nat.zero_add]
   have:=(Array.getElem?_eq_some_iff.1 h1)
   obtain ⟨q1,q2⟩:=this
   simp[q2]
  .unfold World.frozen?
   simp only
   rw[hg]
   simp
theorem qrr (hi:Inv E E0 X w) (hE:∀w w',E w->Below E0 w w'->E w') {cs cs':List PV} {sz:Nat} (ho:X.σ[id]?=some (some (.arr cs sz 0))) (hp:¬X.pend id) (hl:X.loc id=some l) (n:Nat) (os:Array Obj) (d:Array Value) (hs:d.size=cs.length) (hs':cs'.length=cs.length)
  (hr':∀(i:Nat) (c:PV),cs'[i]?=some c->∃u:Value,d[i]?=some u/\∀(Y:Cx) (w1:World),PRep Y.prot w1 c u) :
  ∃X':Cx,X'.σ=X.σ.set id (some (.arr cs' sz 0))/\X'.pend=X.pend/\Inv E E0 X' (grow (putRow (fun v:Value=>v) (Sort.ahead w n) l.1 0 d) os)/\Ext X w X' (grow (putRow (fun v:Value=>v) (Sort.ahead w n) l.1 0 d) os):=by
 obtain ⟨l0,hl0,hB,vs,Ty,hg,hz,hr⟩:=hi.ob id _ ho hp rfl
 rw[hl]at hl0
 obtain rfl:l=l0:=by simpa using hl0
 have g1:(putRow (fun v:Value=>v) (Sort.ahead w n) l.1 0 d).heap[l.1]?=some (.cells (putCells (fun v:Value=>v) 0 d vs) Ty (0,0)):=qlw _ _ _ hg
 have g2:∀k,k≠l.1->(putRow (fun v:Value=>v) (Sort.ahead w n) l.1 0 d).heap[k]?=w.heap[k]?:=fun k h=>qlx _ _ _ h
 have hz1:(putRow (fun v:Value=>v) (Sort.ahead w n) l.1 0 d).heap.size=w.heap.size:=by rw[size_putRow];rfl
 have hBel:∀B,B<=l.1->Below B w (putRow (fun v:Value=>v) (Sort.ahead w n) l.1 0 d):=fun B h=>⟨rfl,rfl,rfl,Nat.le_of_eq hz1.symm,fun k hk=>g2 k (by omega)⟩
 have hx:=q7c (w':=putRow (fun v:Value=>v) (Sort.ahead w n) l.1 0 d) hi ho hp hl (ob':=.arr cs' sz 0) (by simp[AObj.ver,hs']) rfl (fun _=>by simp[AObj.cells,hs']) (Nat.le_refl _) (hBel _ hB) (fun b o hbo=>by
  unfold World.cell?
  simp only
  rw[g2 b (hbo.resolve_right (Nat.not_lt_zero _))])
 have hi1:=q7d hi ho hp hl (ob':=.arr cs' sz 0) rfl hx (hE _ _ hi.env (hBel _ (Nat.le_trans hi.e0 hB))) hz1 g2 (putCells (fun v:Value=>v) 0 d vs) Ty g1 (by simp[putCells,hz]) (fun i c hc=>by
  simp only[AObj.cells,List.getElem?_map,Option.map_eq_some_iff]at hc
  obtain ⟨x,hx1,rfl⟩:=hc
  have hid:i<cs'.length:=(List.getElem?_eq_some_iff.1 hx1).1
  obtain ⟨u,hu,hur⟩:=hr' i x hx1
  obtain ⟨u0,hu0,_⟩:=hr i (.pv (cs[i]'(by omega))) (by simp[AObj.cells])
  refine ⟨u,?_,hur _ _⟩
  unfold putCells
  rw[Array.getElem?_mapIdx,hu0,Option.map_some,if_pos ⟨Nat.zero_le _,by omega⟩,Nat.sub_zero]
  obtain ⟨q1,q2⟩:=Array.getElem?_eq_some_iff.1 hu
  rw[getElem!_pos _ i q1,q2])
 have hgr:Below (putRow (fun v:Value=>v) (Sort.ahead w n) l.1 0 d).heap.size (putRow (fun v:Value=>v) (Sort.ahead w n) l.1 0 d) (grow (putRow (fun v:Value=>v) (Sort.ahead w n) l.1 0 d) os) :=
  ⟨rfl,rfl,rfl,by rw[size_grow];omega,fun k hk=>heap_grow_old _ _ hk⟩
 have hE2:E (grow (putRow (fun v:Value=>v) (Sort.ahead w n) l.1 0 d) os):=hE _ _ hi1.env (hgr.mono (by rw[hz1];exact Nat.le_trans hi.e0 hi.b0))
 exact ⟨{ X with σ:=X.σ.set id (some (.arr cs' sz 0)),hs:=(grow (putRow (fun v:Value=>v) (Sort.ahead w n) l.1 0 d) os).heap.size },rfl,rfl,q45 hi1 hgr hE2,hx.trans (q2u hi1 hgr)⟩
theorem qrw {cs:List PV} {sz n:Nat} (ho:X.σ[id]?=some (some (.arr cs sz 0))) {u:Value} (h:CRep X w (.own id cs.length 0 n) u) (hn:n≠0):∃l cap,X.loc id=some l/\u=.slice (some ⟨l.1,0,none⟩) n cap:=by
 obtain ⟨k0,k1,k2,k3⟩:=h
 obtain ⟨k4,k5⟩:=k3 _ ho
 obtain ⟨l,hl,hle,a,cap,hu,hcap,hsp,hat⟩:=k5 rfl
 have hc0:cap≠0:=fun h=>hn (Nat.le_zero.1 (h ▸ hcap))
 obtain ⟨a1,a2,a3⟩:=hat hc0
 obtain ⟨b,o,s⟩:=a
 simp only at a1 a2 hsp
 subst a1;subst a2;subst hsp
 exact ⟨l,cap,hl,hu⟩
end
section
variable {E : World -> Prop} {E0 : Nat} {P : Program} {ρ : Ren} {G : Nat -> Option (List PV)}
theorem qgu {α β γ:Type} {R:β->γ->Prop} {f:α->List β} {k:Nat} (hk:∀a,(f a).length=k):∀{xs:List α} {us:List γ},All2 R (xs.map f).flatten us->∃d:List (List γ),us=d.flatten/\All2 (fun a u=>All2 R (f a) u) xs d
 | [],us,h=>by
  cases us with
  | nil=>exact ⟨[],rfl,trivial⟩
  | cons _ _=>exact h.elim
 | x::xs,us,h=>by
  have h':All2 R (f x++(xs.map f).flatten) us:=by simpa using h
  have h1:=h'.take (f x).length
  have h2:=h'.drop (f x).length
  rw[List.take_left'  rfl]at h1
  rw[List.drop_left' rfl]at h2
  obtain ⟨d,hd,ha⟩:=qgu hk h2
  exact ⟨us.take (f x).length::d,by rw[List.flatten_cons,←hd,List.take_append_drop],h1,ha⟩
theorem qix {α:Type} [Inhabited α] {enc:α->List Value} {k:Nat} (hk:∀x,(enc x).length=k) (d:Array α):(flatK enc k d).toList=(d.toList.map enc).flatten:=by
 have key:∀(l:List α) (t:Nat) (v:Value),(l.map enc).flatten[t]?=some v->(∃x,l[t / k]?=some x/\(enc x)[t % k]?=some v):=by
  intro l
  induction l with
  | nil=>intro t v h;simp at h
  | cons x l ih =>
   intro t v h
   simp only[List.map_cons,List.flatten_cons]at h
   by_cases ht:t<k
   .rw[List.getElem?_append_left (by rw[hk];exact ht)]at h
    exact ⟨x,by rw[Nat.div_eq_of_lt ht];rfl,by rw[Nat.mod_eq_of_lt ht];exact h⟩
   .rw[List.getElem?_append_right (by rw[hk];omega),hk]at h
    obtain ⟨y,h1,h2⟩:=ih _ _ h
    have hk0:0<k:=by
     rcases Nat.eq_zero_or_pos k with h0|h0
     .exfalso
      have:(enc y).length=0:=by rw[hk y,h0]
      rw[List.length_eq_zero_iff.1 this]at h2;simp at h2
     .exact h0
    have e1:t / k=(t-k) / k+1:=by rw[←Nat.add_div_right _ hk0];congr 1;omega
    have e2:t % k=(t-k) % k:=by conv=>lhs;rw[show t=t-k+k by omega];rw[Nat.add_mod_right]
    exact ⟨y,by rw[e1];exact h1,by rw[e2];exact h2⟩
 have hlen:((d.toList.map enc).flatten).length=d.size*k:=by
  have:∀l:List α,((l.map enc).flatten).length=l.length*k:=by
   intro l
   induction l with
   | nil=>simp
   | cons x l ih=>simp only[List.map_cons,List.flatten_cons,List.length_append,ih,hk,List.length_cons,Nat.succ_mul];omega
  rw[this];simp
 refine List.ext_getElem? fun t=>?_
 by_cases ht:t<d.size*k
 .have hg:(d.toList.map enc).flatten[t]?=some ((d.toList.map enc).flatten[t]'(by omega)):=List.getElem?_eq_getElem _
  obtain ⟨x,h1,h2⟩:=key d.toList t _ hg
  rw[hg]
  have h3:(flatK enc k d)[t]?=some ((enc d[t / k]!)[t % k]!):=by
   have hts:t<(flatK enc k d).size:=by simpa using ht
   rw[←get_flatK enc k d t ht,getElem!_pos (flatK enc k d) t hts]
   exact Array.getElem?_eq_getElem hts
  rw[Array.getElem?_toList,h3]
  have hx:d[t / k]! = x:=by
   have h1':d[t / k]?=some x:=by simpa using h1
   obtain ⟨q1,q2⟩:=Array.getElem?_eq_some_iff.1 h1'
   rw[getElem!_pos d _ q1,q2]
  rw[hx]
  obtain ⟨q1,q2⟩:=List.getElem?_eq_some_iff.1 h2
  rw[getElem!_pos (enc x) _ q1,q2]
 .rw[List.getElem?_eq_none (by simp;omega),List.getElem?_eq_none (by omega)]
theorem qip {β γ:Type} (F:Fl β) (Enc:γ->List Value->Prop) (ofK:γ->β) (h1:∀g us (Y:Cx) (w:World),All2 (PRep Y.prot w) (F.c (ofK g)) us->Enc g us) {X:Cx} {w:World} :
  ∀{gs:List γ} {d0:List (List Value)},All2 (fun a u=>All2 (PRep X.prot w) (F.c a) u) (gs.map ofK) d0->∃d:List { p:γ×List Value // Enc p.1 p.2 },d.map (fun x=>x.1.1)=gs/\d.map (fun x=>x.1.2)=d0
 | [],[],_=>⟨[],rfl,rfl⟩
 | [],_::_,h=>h.elim
 | _::_,[],h=>h.elim
 | g::gs,u::r,h=>by
  obtain ⟨d,e1,e2⟩:=qip F Enc ofK h1 h.2
  exact ⟨⟨(g,u),h1 g u X w h.1⟩::d,by simp[e1],by simp[e2]⟩
theorem qyx (L:SlLaysF0.n6 P ρ) (hb:Base E E0 G) {β γ:Type} [Inhabited γ] (F:Fl β) (hfl:∀xs,F.f xs=(xs.map F.c).flatten) {cf:γ->γ->Int} (hO:SWO (ltOf cf)) (hA:∀a b,ltOf cf a b=false->ltOf cf b a=false->a=b)
  (aE:∀w,(isAgg (ρ.t 24)).run P w=.ok true w) (zE:∀w,(Go.sizeOf (ρ.t 24)).run P w=.ok F.sz w) (Enc:γ->List Value->Prop) (ofK:γ->β) (hd:∃us,Enc default us)
  (h3:∀g us,Enc g us->us.length=F.sz/\∀v∈us,v.oneCell'=true) (h2:∀g us,Enc g us->∀(Y:Cx) (w:World),All2 (PRep Y.prot w) (F.c (ofK g)) us)
  (h1:∀g us (Y:Cx) (w:World),All2 (PRep Y.prot w) (F.c (ofK g)) us->Enc g us) {f:FuncId}
  (eg:∀args w,(callFunc f args).run P w=.ok (.enter f args) w) (hcmp:∀g1 us1 g2 us2 w,Enc g1 us1->Enc g2 us2->Calls P f #[.agg us1.toArray,.agg us2.toArray] w fun e w'=>e=.returned (.int .i64 (cf g1 g2))/\∃q os,w'=grow (w.drewN q) os)
  {σ:Sto} {id:Nat} {nb:Bool} {gs:List γ} (ho:σ[id]?=some (some (arO nb F.sz 0 (F.f (gs.map ofK))))) (hsz:gs.length<4611686018427387904) :
  Ok E E0 P (ρ.f 6) [.cell (vO F id (gs.map ofK)),.cell (.pv (.sc (.func (.func f) #[] #[])))] σ (.tup []) (σ.set id (some (arO nb F.sz 0 (F.f ((q2o cf gs).map ofK))))):=by
 obtain ⟨us0,hus0⟩:=hd
 intro X w vs hσ hn hi hv
 subst hσ
 match vs,hv with
 | [u,v],⟨hu,hv,_⟩ =>
 obtain ⟨rfl,-⟩:v=.func (.func f) #[] #[]/\_:=hv
 by_cases hne:gs=[]
 .subst hne
  have hs:q2o cf []=[]:=(q3k hO []).1.eq_nil
  rw[hs,q76 ho]
  have hslice:∃p cap,u=.slice p 0 cap:=by
   have hu':q5d X id (F.f ([]:List β)).length 0 0 u:=hu
   simp only[List.map_nil,F.nil]at ho
   rw[F.nil]at hu'
   obtain ⟨k0,k1,k2,k3⟩:=hu'
   obtain ⟨k4,k5⟩:=k3 _ ho
   have k6:=k5 (by rw[qcx])
   rcases q31 nb F.sz 0 [] with e|⟨_,e⟩
   .rw[e]at k6
    obtain ⟨l,hl,hle,a,cap,hu,_⟩:=k6
    exact ⟨_,cap,hu⟩
   .rw[e]at k6
    exact ⟨none,0,k6.1⟩
  obtain ⟨p,cap,rfl⟩:=hslice
  refine (AnyF.slices_SortFunc_none L p cap _ w).mono ?_
  rintro e w' ⟨rfl,rfl⟩
  exact ⟨X,.tuple #[],rfl,rfl,hn,hi,Ext.refl _ _,#[],rfl,trivial⟩
 .have hpos:=F.pos
  have hlen:∀xs:List β,(F.f xs).length=xs.length*F.sz:=F.length
  have hne':∀{xs:List γ},xs≠[]->F.f (xs.map ofK)≠[]:=fun {xs} h k=>by
   have:=hlen (xs.map ofK)
   rw[k]at this
   rcases Nat.mul_eq_zero.1 this.symm with h'|h'
   .rw[List.length_map]at h';exact h (List.length_eq_zero_iff.1 h')
   .rw[h']at hpos;cases hpos
  have hnes:q2o cf gs≠[]:=fun k=>hne (by have:=(q3k hO gs).1;rw[k]at this;exact this.nil_eq.symm)
  rw[q8x (hne' hne)]at ho
  rw[q8x (hne' hnes)]
  have hu':CRep X w (.own id (F.f (gs.map ofK)).length 0 gs.length) u:=by
   have hu0:CRep X w (vO F id (gs.map ofK)) u:=hu
   unfold vO at hu0
   rw[List.length_map]at hu0
   exact hu0
  obtain ⟨l,cap,hl,rfl⟩:=qrw ho hu' (fun h=>hne (List.length_eq_zero_iff.1 h))
  have hp:=hn id
  obtain ⟨uv,huv,hrep,hH⟩:=qrt hi ho hp hl
  have hblk:l.1<w.heap.size:=qai hi ho hp hl
  -- the elements' cells as they lie
  rw[hfl]at hrep
  obtain ⟨d0,hd0,hda⟩:=qgu F.len hrep
  let α:={ p:γ×List Value // Enc p.1 p.2 }
  let inh:Inhabited α:=⟨⟨(default,us0),hus0⟩⟩
  obtain ⟨d,hdg,hdu⟩:=qip F Enc ofK h1 hda
  let enc:α->List Value:=fun x=>x.1.2
  let cf':α->α->Int:=fun a b=>cf a.1.1 b.1.1
  have hk:∀x:α,(enc x).length=F.sz:=fun x=>(h3 _ _ x.2).1
  have hO':SWO (ltOf cf'):=⟨fun x=>hO.irrefl x.1.1,fun x y z h k=>hO.trans x.1.1 y.1.1 z.1.1 h k,fun x y z h k=>hO.ntrans x.1.1 y.1.1 z.1.1 h k⟩
  have hdl:d.length=gs.length:=by rw[←hdg];simp
  have hflat:flatK enc F.sz d.toArray=uv:=by
   apply Array.ext'
   rw[qix hk,hd0,←hdu]
  have hHK:HoldsK enc F.sz w l.1 0 d.toArray:=by
   unfold HoldsK
   rw[hflat]
   exact hH
  have hsz':d.toArray.size=gs.length:=by simpa using hdl
  have hcmp':CmpLays P f #[] enc F.sz cf' l.1 0 d.toArray.size w:=by
   intro n os dk _ x y
   exact hcmp _ _ _ _ _ x.2 y.2
  have hS:=AnyQ.slices_SortFunc_eq L F.sz aE zE enc hk (fun x=>(h3 _ _ x.2).2) cf' hO' f #[] l.1 0 cap d.toArray w eg hcmp' hHK hblk (by rw[hsz'];exact hsz)
  rw[hsz']at hS
  refine hS.mono ?_
  rintro e w' ⟨rfl,n,os,rfl⟩
  have hso:=q3k hO' d
  unfold q2o at hso
  rw[hdl]at hso
  generalize hD:pdq (ltOf cf') d.toArray 0 gs.length (Lib.bitLen gs.length) true true=D at hso ⊢
  have hDk:D.toList.map (fun x=>x.1.1)=q2o cf gs:=by
   refine qz0 hA ?_ ?_ (q3k hO gs).2
   .have:=hso.1.map (fun x:α=>x.1.1)
    rw[hdg]at this
    exact this.trans (q3k hO gs).1.symm
   .rw[List.pairwise_map];exact hso.2
  have hDs:D.size=gs.length:=by have:=hso.1.length_eq;simpa [hdl] using this
  have hfD:(flatK enc F.sz D).toList=(D.toList.map enc).flatten:=qix hk D
  have hrD:All2 (fun c u=>∀(Y:Cx) (w1:World),PRep Y.prot w1 c u) (F.f ((q2o cf gs).map ofK)) (flatK enc F.sz D).toList:=by
   rw[hfD,hfl,←hDk]
   generalize D.toList=dl
   clear hfD hDk hDs hso hD
   induction dl with
   | nil=>trivial
   | cons x r ih =>
    simp only[List.map_cons,List.flatten_cons]
    refine All2.append ?_ ih
    have:=fun Y w1=>h2 _ _ x.2 Y w1
    refine All2.of_get (by have:=(this X w).length;exact this) fun i c u hc hu Y w1=>?_
    obtain ⟨u',q1,q2⟩:=(this Y w1).get i c hc
    rw[show (enc x)[i]?=some u from hu]at q1
    obtain rfl:u=u':=by simpa using q1
    exact q2
  obtain ⟨X',q1,q2,q3,q4⟩:=qrr (cs':=F.f ((q2o cf gs).map ofK)) hi hb.step ho hp hl n os (flatK enc F.sz D) (by rw[size_flatK,hDs,hlen];simp) (by
   rw[hlen,hlen];simp[(q3k hO gs).1.length_eq]) (fun i c hc=>by
   obtain ⟨u,g1,g2⟩:=hrD.get i c hc
   exact ⟨u,by simpa using g1,g2⟩)
  exact ⟨X',.tuple #[],rfl,q1,by rw[q2];exact hn,q3,q4,#[],rfl,trivial⟩
end
end Abs
end Go.Proofs.YtagadjpmkggjdaaGreatDoor
