/-
  A variable of two cells that is lent to a call by its address; calls that end with a panic.
-/
import Derived.Test.YtpidpioifnnllaaGreatDoorAbsV
namespace Go.Proofs.YtpidpioifnnllaaGreatDoor
set_option linter.unusedVariables false
set_option linter.unusedSimpArgs false
namespace Abs
open Go.RowKit
section
variable {E : World → Prop} {E0 : Nat} {P : Program} {X : Cx} {w : World}
def AC.pure:AC→Bool
 | .pv _=>true
 | _=>false
def AV.pure (v:AV):Bool:=v.cells.all AC.pure
def TV.pure:TV→Bool
 | .one v=>v.pure
 | .tup vs=>vs.all AV.pure
 | .dead _=>false
theorem q9f {X Y:Cx} {w w':World} (hY:∀ b o,X.prot b o→Y.prot b o∧w'.cell? ⟨b,o,none⟩=w.cell? ⟨b,o,none⟩) {c:AC} {u:Value} (hp:c.pure=true) (h:CRep X w c u):CRep Y w' c u:=by
 cases c with
 | pv x=>exact PRep.mono hY h
 | _=>cases hp
theorem q9g {X Y:Cx} {w w':World} (hY:∀ b o,X.prot b o→Y.prot b o∧w'.cell? ⟨b,o,none⟩=w.cell? ⟨b,o,none⟩) {v:AV} {u:Value} (hp:v.pure=true) (h:q9 X w v u):q9 Y w' v u:=by
 cases v with
 | cell c =>
  refine q9f hY ?_ h
  simpa [AV.pure,AV.cells] using hp
 | agg cs =>
  obtain ⟨us,hu,ha⟩:=h
  refine ⟨us,hu,All2.of_get ha.length fun i c u h1 h2=>?_⟩
  obtain ⟨u',h3,h4⟩:=ha.get i c h1
  rw[h2]at h3
  obtain rfl:u=u':=by simpa using h3
  exact q9f hY (by
   have hp':cs.all AC.pure=true:=hp
   exact List.all_eq_true.1 hp' c (List.mem_of_getElem? h1)) h4
theorem qbs {X Y:Cx} {w w':World} (hY:∀ b o,X.prot b o→Y.prot b o∧w'.cell? ⟨b,o,none⟩=w.cell? ⟨b,o,none⟩):∀ {vs:List AV} {us:List Value},vs.all AV.pure=true→All2 (q9 X w) vs us→All2 (q9 Y w') vs us
 | [],[],_,_=>trivial
 | v::r,u::us,hp,h=>by
  simp only[List.all_cons,Bool.and_eq_true]at hp
  exact ⟨q9g hY hp.1 h.1,qbs hY hp.2 h.2⟩
 | [],_::_,_,h=>h.elim
 | _::_,[],_,h=>h.elim
theorem quz {X Y:Cx} {w w':World} (hY:∀ b o,X.prot b o→Y.prot b o∧w'.cell? ⟨b,o,none⟩=w.cell? ⟨b,o,none⟩) {v:TV} {u:Value} (hp:v.pure=true) (h:TRep X w v u):TRep Y w' v u:=by
 cases v with
 | one v=>exact q9g hY hp h
 | tup vs=>obtain ⟨us,hu,ha⟩:=h; exact ⟨us,hu,qbs hY hp ha⟩
 | dead v=>cases hp
def Cx.lend (X:Cx) (n:Nat) (l:Nat×Nat) (cs:List AC):Cx :=
 { B0:=n,hs:=n,old:=X.prot,loc:=fun i=>if i=0 then some l else none,pend:=fun _=>False,σ:=[some (.box cs)],low:=fun k=>k=l.1 }
theorem qkn (hi:Inv E E0 X w) {id:Nat} {cs:List AC} (ho:X.σ[id]?=some (some (.box cs))) (hp:¬ X.pend id) {l:Nat×Nat} (hl:X.loc id=some l) (h2:(AObj.box cs).two=true) (hc:cs.all AC.pure=true):Inv E E0 (X.lend w.heap.size l cs) w:=by
 have hlt:=q2w hi ho hp hl
 obtain ⟨l0,hl0,hB,us,T,hg,hz,hr⟩:=hi.ob id _ ho hp rfl
 rw[hl]at hl0
 obtain rfl:l=l0:=by simpa using hl0
 have hY:∀ b o,X.prot b o→(X.lend w.heap.size l cs).prot b o∧w.cell? ⟨b,o,none⟩=w.cell? ⟨b,o,none⟩:=fun b o k=>⟨.inl ⟨q35 hi k,k⟩,rfl⟩
 have one:∀ {i:Nat} {ob:AObj},(X.lend w.heap.size l cs).σ[i]?=some (some ob)→i=0∧ob=.box cs:=fun {i ob} e=>by
  match i,e with
  | 0,e=>simp[Cx.lend]at e; exact ⟨rfl,e.symm⟩
  | i+1,e=>simp[Cx.lend]at e
 refine ⟨rfl,Nat.le_refl _,Nat.le_trans hi.e0 hi.b0,hi.env,fun i ob e _ _=>?_,fun i i' ob ob' l1 l2 e e' _ _ _ _ _=>?_,fun b o h=>q74 hi h,fun i ob e _ hb=>?_,⟨fun i ag es e=>?_,fun i i' ag ag' es es' r e=>?_⟩,fun k hk=>?_⟩
 ·obtain ⟨rfl,rfl⟩:=one e
  exact ⟨l,rfl,.inr ⟨h2,rfl⟩,us,T,hg,hz,fun j c hj=>by
   obtain ⟨u,q1,q2⟩:=hr j c hj
   exact ⟨u,q1,q9f hY (List.all_eq_true.1 hc c (List.mem_of_getElem? hj)) q2⟩⟩
 ·rw[(one e).1,(one e').1]
 ·obtain ⟨rfl,rfl⟩:=one e; cases hb
 ·obtain ⟨_,q⟩:=one e; cases q
 ·obtain ⟨_,q⟩:=one e; cases q
 ·have hk':k=l.1:=hk
  subst hk'
  refine ⟨hi.in_e0 hB,hlt,fun o h=>?_⟩
  have h':X.prot l.1 o:=h
  rcases h' with h' | ⟨_,_,h3⟩
  ·exact hi.in_ne hB h' rfl
  ·exact Nat.not_lt_zero _ (h3 id _ l ho hp hl rfl)
theorem qkm (hi:Inv E E0 X w) (hn:∀ id,¬ X.pend id) {id:Nat} {cs:List AC} (ho:X.σ[id]?=some (some (.box cs))) {l:Nat×Nat} (hl:X.loc id=some l) {X1:Cx} {w':World} (h1:Inv E E0 X1 w') (hx:Ext (X.lend w.heap.size l cs) w X1 w')
  (ob:Option AObj) (hob:∀ o,ob=some o→∃ cs',o=.box cs'∧cs'.length=cs.length∧cs'.all AC.pure=true∧X1.σ[0]?=some (some (.box cs'))∧¬ X1.pend 0) :
  Inv E E0 { X with σ:=X.σ.set id ob,hs:=w'.heap.size } w'∧Ext X w { X with σ:=X.σ.set id ob,hs:=w'.heap.size } w'∧∀ b o,X1.prot b o→({ X with σ:=X.σ.set id ob,hs:=w'.heap.size }:Cx).prot b o:=by
 have hlt:=q2w hi ho (hn id) hl
 obtain ⟨l0,hl0,hB,us,T,hg,hz,hr⟩:=hi.ob id _ ho (hn id) rfl
 rw[hl]at hl0
 obtain rfl:l=l0:=by simpa using hl0
 have hsz:w.heap.size≤w'.heap.size:=hx.below.size
 have keep:∀ k,k < w.heap.size→k≠l.1→w'.heap[k]?=w.heap[k]?:=fun k hk hne=>hx.below.block k hk hne
 have get:∀ {j:Nat} {o:AObj},(X.σ.set id ob)[j]?=some (some o)→(j=id∧ob=some o)∨(j≠id∧X.σ[j]?=some (some o)):=fun {j o} e=>by
  rcases q1p e with ⟨a,b⟩ | ⟨a,b⟩
  ·exact .inl ⟨a,b.symm⟩
  ·exact .inr ⟨a,b⟩
 have elder:∀ {j:Nat} {o:AObj},(X.σ.set id ob)[j]?=some (some o)→∃ o',X.σ[j]?=some (some o'):=fun {j o} e=>by
  rcases get e with ⟨rfl,_⟩ | ⟨_,k⟩
  ·exact ⟨_,ho⟩
  ·exact ⟨_,k⟩
 have low1:∀ {j:Nat} {o:AObj} {l':Nat×Nat},(X.σ.set id ob)[j]?=some (some o)→X.loc j=some l'→l'.1 < w.heap.size:=fun {j o l'} e q=>by
  obtain ⟨o',k⟩:=elder e
  exact q2w hi k (hn j) q
 have back:∀ b o,X1.prot b o→({ X with σ:=X.σ.set id ob,hs:=w'.heap.size }:Cx).prot b o:=by
  intro b o h
  rcases h with ⟨k1,k2⟩ | ⟨k1,k2,k3⟩
  ·have k2':X.prot b o:=by
    have:X1.old=X.prot:=hx.old
    rw[this]at k2; exact k2
   have k1':b < w.heap.size:=by
    have:X1.B0=w.heap.size:=hx.b0
    omega
   rcases k2' with q | ⟨q1,q2,q3⟩
   ·exact .inl q
   ·refine .inr ⟨q1,by show b < w'.heap.size; omega,fun j o' l' e hp hl' hb=>?_⟩
    rcases get e with ⟨rfl,_⟩ | ⟨_,e1⟩
    ·exact absurd (q3 j _ l' ho (hn j) hl' hb) (Nat.not_lt_zero _)
    ·exact q3 j o' l' e1 (hn j) hl' hb
  ·have k1':w.heap.size≤b:=by
    have:X1.B0=w.heap.size:=hx.b0
    omega
   refine .inr ⟨Nat.le_trans hi.b0 k1',by show b < w'.heap.size; rw[← h1.hs]; exact k2,fun j o' l' e hp hl' hb=>?_⟩
   have:=low1 e hl'
   omega
 have fwd:∀ b o,X.prot b o→({ X with σ:=X.σ.set id ob,hs:=w'.heap.size }:Cx).prot b o∧w'.cell? ⟨b,o,none⟩=w.cell? ⟨b,o,none⟩:=fun b o h=>by
  obtain ⟨q1,q2⟩:=hx.prot b o (.inl ⟨q35 hi h,h⟩)
  exact ⟨back b o q1,q2⟩
 have hext:Ext X w { X with σ:=X.σ.set id ob,hs:=w'.heap.size } w':=by
  refine ⟨rfl,rfl,⟨hx.below.os,hx.below.tape,hx.below.output,hsz,fun k hk hlk=>?_⟩,by simp,fwd,fun _ _ h=>h,fun j o' hj hp e=>?_,fun _ _ _ _ h=>h,rfl⟩
  ·refine keep k (Nat.lt_of_lt_of_le hk hi.b0) fun e=>?_
   subst e
   rcases hB with h | h
   ·omega
   ·exact hlk h.2
  ·rcases get e with ⟨rfl,e1⟩ | ⟨_,e1⟩
   ·obtain ⟨cs',rfl,q1,_⟩:=hob _ e1
    exact ⟨_,ho,Nat.le_refl _,fun _=>⟨rfl,rfl,q1.symm⟩⟩
   ·exact ⟨o',e1,Nat.le_refl _,fun _=>⟨rfl,rfl,rfl⟩⟩
 refine ⟨⟨rfl,Nat.le_trans hi.b0 hsz,hi.e0,h1.env,fun j o' e _ hbr=>?_,fun j j' o1 o2 l1 l2 e e' _ _ g g' hb=>?_,hi.glob,fun j o' e _ hbr=>?_,hi.maps.carry hext (fun r arr k hr0 h=>?_) fun j ag es e _=>?_,hi.low⟩,hext,back⟩
 ·rcases get e with ⟨rfl,e1⟩ | ⟨hj,e1⟩
  ·obtain ⟨cs',rfl,q1,q2,q3,q4⟩:=hob _ e1
   obtain ⟨l1,g1,_,us',T',g2,g3,g4⟩:=h1.ob 0 _ q3 q4 rfl
   obtain ⟨o0,f1,_,f3⟩:=hx.ids 0 _ (by simp[Cx.lend]) (fun h=>h) q3
   have f1':o0=.box cs:=by simp[Cx.lend]at f1; exact f1.symm
   subst f1'
   have hloc:X1.loc 0=some l:=(f3 rfl).1
   rw[hloc]at g1
   obtain rfl:l=l1:=by simpa using g1
   refine ⟨l,hl,hB.kind rfl fun _=>q1,us',T',g2,g3,fun i c hc=>?_⟩
   obtain ⟨u,z1,z2⟩:=g4 i c hc
   exact ⟨u,z1,q9f (fun b o k=>⟨back b o k,rfl⟩) (List.all_eq_true.1 q2 c (List.mem_of_getElem? hc)) z2⟩
  ·obtain ⟨l1,g1,g2,us',T',g3,g4,g5⟩:=hi.ob j o' e1 (hn j) hbr
   have hne:l1.1≠l.1:=fun k=>hj (hi.inj j id o' _ l1 l e1 ho (hn j) (hn id) g1 hl k)
   exact ⟨l1,g1,g2,us',T',(keep _ (q2w hi e1 (hn j) g1) hne).trans g3,g4,fun i c hc=>(g5 i c hc).imp fun u hu=>⟨hu.1,CRep.ext hext hu.2⟩⟩
 ·obtain ⟨o3,k1⟩:=elder e
  obtain ⟨o4,k2⟩:=elder e'
  exact hi.inj j j' o3 o4 l1 l2 k1 k2 (hn j) (hn j') g g' hb
 ·rcases get e with ⟨rfl,e1⟩ | ⟨_,e1⟩
  ·obtain ⟨cs',rfl,_⟩:=hob _ e1; cases hbr
  ·exact hi.bare j o' e1 (hn j) hbr
 ·refine (keep r (q5g h) fun q=>?_).trans h
  rw[q,hg]at h; cases h
 ·rcases get e with ⟨rfl,e1⟩ | ⟨_,e1⟩
  ·obtain ⟨cs',q,_⟩:=hob _ e1; cases q
  ·exact ⟨e1,hn j⟩
def OkR (E:World→Prop) (E0:Nat) (P:Program) (f:FuncId) (rest:List AV) (cs:List AC) {π β:Type} (D:π→Value) (enc:β→TV) (bc:β→List AC):π⊕β→Prop
 | .inl p=>Dies E E0 P [some (.box cs)] f (.cell (.ptr 0 0 0)::rest) (D p)
 | .inr y=>Ok E E0 P f (.cell (.ptr 0 0 0)::rest) [some (.box cs)] (enc y) [some (.box (bc y))]
theorem qkl (hi:Inv E E0 X w) (hn:∀ id,¬ X.pend id) {id:Nat} {cs:List AC} (ho:X.σ[id]?=some (some (.box cs))) {rest:List AV} (hr:rest.all AV.pure=true) {vs:List Value} (hv:All2 (q9 X w) (.cell (.ptr id 0 0)::rest) vs) :
  ∃ l,X.loc id=some l∧All2 (q9 (X.lend w.heap.size l cs) w) (.cell (.ptr 0 0 0)::rest) vs:=by
 cases vs with
 | nil=>exact hv.elim
 | cons u us =>
  obtain ⟨h1,h2⟩:=hv
  have h1':q2e X id 0 0 u:=h1
  have hlv:live X.σ id 0=some (.box cs):=by unfold live; rw[ho]; rfl
  obtain ⟨_,_,l,hl,hu⟩:=q5r h1' hlv
  refine ⟨l,hl,?_,qbs (fun b o k=>⟨.inl ⟨q35 hi k,k⟩,rfl⟩) hr h2⟩
  show q2e (X.lend w.heap.size l cs) 0 0 0 u
  refine ⟨h1'.1,fun k=>k,by simp[Cx.lend],fun ob e=>⟨Nat.zero_le _,fun _=>⟨l,rfl,hu⟩⟩⟩
theorem qdn {f:FuncId} {rest:List AV} {cs:List AC} {v:Value} {σ:Sto} {id:Nat} (h:Dies E E0 P [some (.box cs)] f (.cell (.ptr 0 0 0)::rest) v) (ho:σ[id]?=some (some (.box cs))) (h2:(AObj.box cs).two=true) (hc:cs.all AC.pure=true) (hr:rest.all AV.pure=true) :
  Dies E E0 P σ f (.cell (.ptr id 0 0)::rest) v:=by
 intro X w vs h1 hn hi hv
 subst h1
 obtain ⟨l,hl,ha⟩:=qkl hi hn ho hr hv
 refine (h (X.lend w.heap.size l cs) w vs rfl (fun _ k=>k) (qkn hi ho (hn id) hl h2 hc) ha).mono ?_
 rintro e w' ⟨he,X1,_,q2,q3⟩
 obtain ⟨z1,z2,_⟩:=qkm hi hn ho hl q2 q3 none fun o e=>by cases e
 exact ⟨he,{ X with σ:=X.σ.set id none,hs:=w'.heap.size },hn,z1,z2⟩
theorem qlu {f:FuncId} {rest:List AV} {cs cs':List AC} {r:TV} {σ:Sto} {id:Nat} (h:Ok E E0 P f (.cell (.ptr 0 0 0)::rest) [some (.box cs)] r [some (.box cs')]) (ho:σ[id]?=some (some (.box cs))) (h2:(AObj.box cs).two=true) (h2':(AObj.box cs').two=true) (hc:cs.all AC.pure=true) (hc':cs'.all AC.pure=true) (hr:rest.all AV.pure=true) (hp:r.pure=true) :
  Ok E E0 P f (.cell (.ptr id 0 0)::rest) σ r (σ.set id (some (.box cs'))):=by
 intro X w vs h1 hn hi hv
 subst h1
 obtain ⟨l,hl,ha⟩:=qkl hi hn ho hr hv
 refine (h (X.lend w.heap.size l cs) w vs rfl (fun _ k=>k) (qkn hi ho (hn id) hl h2 hc) ha).mono ?_
 rintro e w' ⟨X1,v,he,q1,q2,q3,q4,q5⟩
 have two_len:∀ {x:List AC},(AObj.box x).two=true→x.length=2:=fun {x} h=>by
  match x,h with
  | [_,_],_=>rfl
 obtain ⟨z1,z2,z3⟩:=qkm hi hn ho hl q3 q4 (some (.box cs')) fun o e=>by
  simp at e; subst e
  exact ⟨cs',rfl,(two_len h2').trans (two_len h2).symm,hc',by rw[q1]; rfl,q2 0⟩
 exact ⟨{ X with σ:=X.σ.set id (some (.box cs')),hs:=w'.heap.size },v,he,rfl,hn,z1,z2,quz (fun b o k=>⟨z3 b o k,rfl⟩) hp q5⟩
theorem qqc {f:FuncId} {fn:Func} {c:Code} {args:List AV} {σ:Sto} {v:Value} (hf:P.funcs[f]?=some fn) (hc:fn.body=some c)
  (h:awp E E0 P σ.length c (q3o args fn.ntmps) σ fun ex _ _=>ex=.pan v):Dies E E0 P σ f args v:=by
 intro X w vs h1 h2 h3 h4
 refine calls_of_wp hf hc (wp_mono (h X w _ h1 (Nat.le_refl _) h2 h3 (qas h4 _)) ?_)
 subst h1
 rintro e a' w' ⟨ex,T',X',rfl,rfl,g3,g4,g5,g6⟩
 exact ⟨g6.defers,rfl,X',g3,g4,g5.ext g3⟩
end
section
variable {E : World → Prop} {E0 : Nat} {P : Program} {G : Nat → Option (List PV)} {m : Nat} {K : Ex → List TV → Sto → Prop} {s : MS} {π β ρ : Type}
theorem callRE (hb:Base E E0 G) (n id:Nat) {g:FuncId} {rest:List AV} {cs:List AC} {D:π→Value} {enc:β→TV} {bc:β→List AC} {e:Option (π⊕β)} {kk:π⊕β→Option ρ} {x:ρ} (hq:e.bind kk=some x) (hp:∀ y,e=some y→OkR E E0 P g rest cs D enc bc y)
  (k1:∀ p,e=some (.inl p)→kk (.inl p)=some x→∀ T σ,K (.pan (D p)) T σ)
  (k2:∀ y,e=some (.inr y)→kk (.inr y)=some x→J E E0 P G m K (mSto (adv P G n s) (enc y) ((adv P G n s).σ.set id (some (.box (bc y))))))
  (h:mPre (q66 P G) (adv P G n s)=some (false,g,.cell (.ptr id 0 0)::rest):=by kernel_rfl) (ho:(adv P G n s).σ[id]?=some (some (.box cs)):=by kernel_rfl)
  (hr:rest.all AV.pure=true:=by rfl) (h2:(AObj.box cs).two=true:=by rfl) (hc:cs.all AC.pure=true:=by rfl) (h2':∀ y,(AObj.box (bc y)).two=true:=by exact fun _=>rfl) (hc':∀ y,(bc y).all AC.pure=true:=by exact fun _=>rfl) (he:∀ y,(enc y).pure=true:=by exact fun _=>rfl):J E E0 P G m K s:=by
 obtain ⟨y,hy,hk⟩:=Option.bind_eq_some_iff.1 hq
 obtain ⟨D',ops,l,l2,hr',hA⟩:=q23 h
 obtain ⟨rfl,o,h1,hB⟩:=qak hA
 cases y with
 | inl p =>
  refine q2q hb n ?_
  have hK:=k1 p hy hk
  have hd:=qdn (hp _ hy) ho h2 hc hr
  generalize adv P G n s=t at *
  obtain ⟨reg,c,ctx,T,σ⟩:=t
  simp only at hr'; subst hr'
  intro R hR hD
  exact qhs hB hd (hD _ fun T σ=>q9w hK ctx T σ)
 | inr y =>
  exact q28 hb n hr' h1 (fun R=>qht hB (qlu (hp _ hy) ho h2 (h2' y) hc (hc' y) hr (he y))) (k2 y hy hk)
theorem q38 (hb:Base E E0 G) (n id:Nat) {g:FuncId} {rest:List AV} {cs:List AC} {v:Value} (hp:Dies E E0 P [some (.box cs)] g (.cell (.ptr 0 0 0)::rest) v) (k:∀ T σ,K (.pan v) T σ)
  (h:mPre (q66 P G) (adv P G n s)=some (false,g,.cell (.ptr id 0 0)::rest):=by kernel_rfl) (ho:(adv P G n s).σ[id]?=some (some (.box cs)):=by kernel_rfl)
  (hr:rest.all AV.pure=true:=by rfl) (h2:(AObj.box cs).two=true:=by rfl) (hc:cs.all AC.pure=true:=by rfl):J E E0 P G m K s:=by
 obtain ⟨D',ops,l,l2,hr',hA⟩:=q23 h
 obtain ⟨rfl,o,h1,hB⟩:=qak hA
 refine q2q hb n ?_
 have hd:=qdn hp ho h2 hc hr
 generalize adv P G n s=t at *
 obtain ⟨reg,c,ctx,T,σ⟩:=t
 simp only at hr'; subst hr'
 intro R hR hD
 exact qhs hB hd (hD _ fun T σ=>q9w k ctx T σ)
end
section
variable {E : World → Prop} {E0 : Nat} {P : Program} {G : Nat → Option (List PV)} {m : Nat} {K : Ex → List TV → Sto → Prop} {s : MS} {π β ρ : Type}
def valF (P:Program) (G:Nat→Option (List PV)) (ops:Array Oper):List Oper→List TV→Sto→Option (List TV)
 | [],T,_=>some T
 | o::r,T,σ=>match qz ops T o with
  | some true=>match aop P (evT G T) σ o.op with
   | some (.val v)=>valF P G ops r (putT T o.dst v) σ
   | _=>none
  | some false=>valF P G ops r (putT T o.dst qw) σ
  | none=>none
theorem valS {β0:Sto} {ids:List Nat} {c:Nat} {ops:Array Oper} {R:List TV→Sto→Prop} {rest:List Oper} {σ:Sto} (hS:SB β0 ids σ):∀ {mid:List Oper} {i:Nat} {T T':List TV},valF P G ops mid T σ=some T'→asqS E E0 P G β0 ids c ops (i+mid.length) rest T' σ R→asqS E E0 P G β0 ids c ops i (mid++rest) T σ R
 | [],i,T,T',h,k=>by simp[valF]at h; subst h; exact k
 | o::r,i,T,T',h,k=>by
  rw[List.cons_append]
  unfold valF at h
  unfold asqS
  have hi:i+(o::r).length=i+1+r.length:=by simp; omega
  rw[hi]at k
  split at h
  ·rename_i hw
   rw[hw]
   split at h
   ·rename_i v ha
    exact .inl (qfc ha ⟨fun _=>hS,valS hS h k⟩)
   ·cases h
  ·rename_i hw
   rw[hw]
   exact valS hS h k
  ·cases h
def fdep (ids:List Nat) (ρ':Operand→TV):Op→Bool
 | .move _=>true
 | .assign _=>true
 | .fieldAddr _ x _=>match q11 (ρ' x) with
  | some (.ptr id _ _)=>ids.contains id
  | _=>false
 | .load _ x=>match q11 (ρ' x) with
  | some (.ptr id _ _)=>ids.contains id
  | _=>false
 | _=>false
theorem qr1 {ids:List Nat} {ρ':Operand→TV} {o:Op} {β0 σ:Sto} (h:fdep ids ρ' o=true) (hS:SB β0 ids σ):aop P ρ' σ o=aop P ρ' β0 o:=by
 have hl:∀ id ver,ids.contains id=true→live σ id ver=live β0 id ver:=fun id ver k=>by
  unfold live
  rw[hS id (List.contains_iff_mem.1 k)]
 cases o with
 | move x=>rfl
 | assign x=>rfl
 | fieldAddr t x f =>
  simp only[fdep]at h
  split at h
  ·rename_i id ver off e
   simp only[aop,e]
   cases hf:field? P t f with
   | none=>rfl
   | some q=>simp only[hl id ver h]
  ·cases h
 | load t x =>
  simp only[fdep]at h
  split at h
  ·rename_i id ver off e
   simp only[aop,e]
   cases hs:size? P t with
   | none=>rfl
   | some n =>
    cases ha:isAgg? P t with
    | none=>rfl
    | some b=>simp only[hl id ver h]
  ·cases h
 | _=>cases h
def qj2 (P:Program) (G:Nat→Option (List PV)) (fl ids:List Nat) (ops:Array Oper) (T:List TV) (σ:Sto):Bool :=
 fl.all fun k=>match ops[k]? with
  | none=>true
  | some o=>match qz ops T o with
   | some false=>true
   | some true=>fdep ids (evT G T) o.op && (match aop P (evT G T) σ o.op with
    | some (.val _)=>true
    | _=>false)
   | none=>false
theorem qr4 {fl ids:List Nat} {ops:List Oper} {n1:Nat} {T:List TV} {σ:Sto} (h:qj2 P G fl ids ops.toArray T σ=true):q6o P G fl ops n1 T σ ids:=by
 intro k o hk ho hf
 unfold q1u at hf
 obtain ⟨k',hm,hb⟩:=List.any_eq_true.1 hf
 obtain rfl:k=k':=Nat.eq_of_beq_eq_true hb
 have:=List.all_eq_true.1 h k hm
 rw[show ops.toArray[k]?=some o by simpa using ho]at this
 simp only at this
 split at this
 ·exact .inl (by assumption)
 ·rw[Bool.and_eq_true]at this
  obtain ⟨h1,h2⟩:=this
  split at h2
  ·rename_i v e
   exact .inr ⟨v,fun σ' hs=>(qr1 h1 hs).trans e⟩
  ·cases h2
 ·cases this
def preS (P:Program) (G:Nat→Option (List PV)) (n1:Nat) (fl ids:List Nat) (c id:Nat) (t:MS):Option (FuncId×List AV×List AC) :=
 match t.reg,t.c with
 | none,.region _ ops true::_ =>
  if Nat.ble n1 ops.toList.length && Nat.ble c ops.toList.length && q5b fl ops.toList n1 && Nat.blt n1 c && ((List.range ops.toList.length).all fun j=>Nat.blt j c || fl.all fun k=>Nat.ble n1 k || reach ops.toList ops.toList.length k j) && (ids.all fun i=>Nat.blt i t.σ.length) && !ids.contains id then
   match asqF true P G ops (ops.toList.take n1) t.T t.σ with
   | some (T1,σ1)=>if qj2 P G fl ids ops T1 σ1 then
     match q3j P G ops (ops.toList.drop n1) T1 with
     | some (g,.cell (.ptr j 0 0)::rest,_)=>if Nat.beq j id then match σ1[id]? with
      | some (some (.box cs))=>some (g,rest,cs)
      | _=>none
      else none
     | _=>none
    else none
   | none=>none
  else none
 | _,_=>none
def opsS (t:MS):Array Oper:=match t.c with | .region _ ops _::_=>ops | _=>#[]
def ranS (P:Program) (G:Nat→Option (List PV)) (n1:Nat) (t:MS):List TV×Sto:=match asqF true P G (opsS t) ((opsS t).toList.take n1) t.T t.σ with | some q=>q | none=>(t.T,t.σ)
def qdf (n1:Nat) (t:MS):Option Tmp:=match (opsS t).toList.drop n1 with | o::_=>o.dst | []=>none
def midS (P:Program) (G:Nat→Option (List PV)) (n1 c id:Nat) (t:MS) (v:TV) (bc:List AC):Option (List TV) :=
 valF P G (opsS t) (((opsS t).toList.drop (n1+1)).take (c - n1 - 1)) (putT (ranS P G n1 t).1 (qdf n1 t) v) ((ranS P G n1 t).2.set id (some (.box bc)))
def aftS (P:Program) (G:Nat→Option (List PV)) (n1 c id:Nat) (t:MS) (v:TV) (bc:List AC):MS :=
 ⟨some (false,opsS t,(opsS t).toList.drop c,[],[]),t.c.tail,t.ctx,(midS P G n1 c id t v bc).getD [],(ranS P G n1 t).2.set id (some (.box bc))⟩
theorem drawSE (hb:Base E E0 G) (hmix:P.follows .mixedOrders=true) (n n1:Nat) (fl ids:List Nat) (c id:Nat) {g:FuncId} {rest:List AV} {cs:List AC} {D:π→Value} {enc:β→TV} {bc:β→List AC} {e:Option (π⊕β)} {kk:π⊕β→Option ρ} {x:ρ} (hq:e.bind kk=some x) (hp:∀ y,e=some y→OkR E E0 P g rest cs D enc bc y)
  (k1:∀ p,e=some (.inl p)→kk (.inl p)=some x→∀ T σ,K (.pan (D p)) T σ)
  (k2:∀ y,e=some (.inr y)→kk (.inr y)=some x→J E E0 P G m K (aftS P G n1 c id (adv P G n s) (enc y) (bc y)))
  (h:preS P G n1 fl ids c id (adv P G n s)=some (g,rest,cs):=by kernel_rfl) (hmid:∀ y,(midS P G n1 c id (adv P G n s) (enc y) (bc y)).isSome=true:=by intro _; kernel_rfl)
  (hr:rest.all AV.pure=true:=by rfl) (h2:(AObj.box cs).two=true:=by rfl) (hc:cs.all AC.pure=true:=by rfl) (h2':∀ y,(AObj.box (bc y)).two=true:=by exact fun _=>rfl) (hc':∀ y,(bc y).all AC.pure=true:=by exact fun _=>rfl) (he:∀ y,(enc y).pure=true:=by exact fun _=>rfl):J E E0 P G m K s:=by
 obtain ⟨y,hy,hk⟩:=Option.bind_eq_some_iff.1 hq
 refine q2q hb n ?_
 generalize adv P G n s=t at *
 obtain ⟨reg,cd,ctx,T,σ⟩:=t
 unfold preS at h
 split at h
 ·rename_i i ops r e1 e2
  simp only at e1 e2; subst e1 e2
  split at h
  ·rename_i hchk
   simp only[Bool.and_eq_true]at hchk
   obtain ⟨⟨⟨⟨⟨⟨q1,q7⟩,q2⟩,q3⟩,q4⟩,q5⟩,q6⟩:=hchk
   have hn1:n1≤ops.toList.length:=Nat.le_of_ble_eq_true q1
   have hlt:n1 < c:=by
    have:=q3
    unfold Nat.blt at this
    have:=Nat.le_of_ble_eq_true this
    omega
   have hcc:∀ j,c≤j→j < ops.toList.length→∀ k,k < n1→q1u fl k=true→reach ops.toList ops.toList.length k j=true:=by
    intro j hj hjl k hk hf
    have:=List.all_eq_true.1 q4 j (List.mem_range.2 hjl)
    rw[Bool.or_eq_true]at this
    rcases this with z | z
    ·unfold Nat.blt at z; have:=Nat.le_of_ble_eq_true z; omega
    ·unfold q1u at hf
     obtain ⟨k',hm,hb'⟩:=List.any_eq_true.1 hf
     obtain rfl:k=k':=Nat.eq_of_beq_eq_true hb'
     have:=List.all_eq_true.1 z k hm
     rw[Bool.or_eq_true]at this
     rcases this with z | z
     ·have:=Nat.le_of_ble_eq_true z; omega
     ·exact z
   have hids:∀ j ∈ ids,j < σ.length:=fun j hj=>by
    have:=List.all_eq_true.1 q5 j hj
    unfold Nat.blt at this
    exact Nat.le_of_ble_eq_true this
   have hid:id ∉ ids:=fun k=>by
    have:=List.contains_iff_mem.2 k
    rw[this]at q6; cases q6
   split at h
   ·rename_i T1 σ1 hA
    split at h
    ·rename_i hF
     split at h
     ·rename_i g' j rest' d hcall
      split at h
      ·rename_i hj
       obtain rfl:j=id:=Nat.eq_of_beq_eq_true hj
       split at h
       ·rename_i cs' hbox
        simp only[Option.some.injEq,Prod.mk.injEq]at h
        obtain ⟨rfl,rfl,rfl⟩:=h
        have hran:ranS P G n1 ⟨none,.region i ops true::r,ctx,T,σ⟩=(T1,σ1):=by unfold ranS opsS; simp only[hA]
        -- the call's operation
        obtain ⟨o,ho,hd⟩:∃ o,hd ops (ops.toList.drop n1) T1=some o∧d=o.dst:=by
         have h':=hcall; unfold q3j at h'
         obtain ⟨o,ho,h'⟩:=Option.bind_eq_some_iff.1 h'
         refine ⟨o,ho,?_⟩
         split at h'
         ·split at h'
          ·rename_i g0 caps vs h1 h2
           cases hb0:enters P g0 with
           | false=>rw[hb0]at h'; cases h'
           | true=>rw[hb0]at h'; simp at h'; exact h'.2.2.symm
          ·cases h'
         ·cases h'
        subst hd
        obtain ⟨tl,htl,hw⟩:=q4u ho
        have hdr:ops.toList.drop (n1+1)=tl:=by rw[← List.drop_drop,htl]; rfl
        have hcallS:qdf n1 ⟨none,.region i ops true::r,ctx,T,σ⟩=o.dst:=by unfold qdf opsS; simp only[htl]
        have key:∀ R:List TV→Sto→Prop,(∀ T' σ',(∀ v,T'≠[.dead v])→awpL E E0 P m r T' σ' (KJ E E0 P m K ctx)→R T' σ')→(∀ v,(∀ T' σ',KJ E E0 P m K ctx (.pan v) T' σ')→R [.dead v] [])→asqS E E0 P G σ1 ids c ops n1 (ops.toList.drop n1) T1 σ1 R:=by
         intro R hR hD
         have hcall':=hcall
         unfold q3j at hcall'
         rw[ho]at hcall'
         simp only[Option.bind_some]at hcall'
         split at hcall'
         ·rename_i f args tys eop
          split at hcall'
          ·rename_i g0 caps vs z1 z2
           cases hen:enters P g0 with
           | false=>rw[hen]at hcall'; cases hcall'
           | true =>
            rw[hen]at hcall'
            simp only[cond_true,Option.some.injEq,Prod.mk.injEq]at hcall'
            obtain ⟨rfl,z3,_⟩:=hcall'
            rw[htl]
            unfold asqS
            rw[hw,eop]
            cases y with
            | inl p =>
             right; left
             unfold q5x
             simp only[z1,z2]
             exact ⟨_,hen,by rw[z3]; exact qdn (hp _ hy) hbox h2 hc hr,hD _ (q9w (k1 p hy hk) ctx)⟩
            | inr y =>
             left
             unfold OpA
             simp only[z1,z2]
             refine ⟨_,.share hen (by rw[z3]; exact qlu (hp _ hy) hbox h2 (h2' y) hc (hc' y) hr (he y)),?_⟩
             have hS2:SB σ1 ids (σ1.set j (some (.box (bc y)))):=fun k hk=>List.getElem?_set_ne fun e=>hid (by rw[e]; exact hk)
             refine ⟨fun _=>hS2,?_⟩
             have hm:=hmid y
             have hk2:=k2 y hy hk
             unfold aftS at hk2
             unfold midS at hm hk2
             rw[hran,hcallS]at hm hk2
             simp only[show opsS ⟨none,.region i ops true::r,ctx,T,σ⟩=ops from rfl,hdr]at hm hk2
             have hsp:tl=tl.take (c - n1 - 1)++ops.toList.drop c:=by
              have:ops.toList.drop c=tl.drop (c - n1 - 1):=by
               rw[← hdr,List.drop_drop]; congr 1; omega
              rw[this,List.take_append_drop]
             cases hv:valF P G ops (tl.take (c - n1 - 1)) (putT T1 o.dst (enc y)) (σ1.set j (some (.box (bc y)))) with
             | none=>rw[hv]at hm; cases hm
             | some T3 =>
              rw[hv]at hk2
              simp only[effσ,effV]
              rw[hsp]
              refine valS hS2 hv (q8f _ _ _ _ ?_ (hk2 R hR hD))
              have hcl:c≤ops.toList.length:=Nat.le_of_ble_eq_true q7
              have hlen:tl.length=ops.toList.length - (n1+1):=by rw[← hdr]; simp
              left; rw[List.length_take,Nat.min_eq_left (by omega)]; omega
          ·cases hcall'
         ·cases hcall'
        have hwp:=qh5 (m:=m) (E:=E) (E0:=E0) (P:=P) (G:=G) (T:=T) (σ:=σ) (K:=fun ex T' σ'=>match ex with | .normal=>awpL E E0 P m r T' σ' (KJ E E0 P m K ctx) | ex=>KJ E E0 P m K ctx ex T' σ') hb (ops:=ops.toList) fl n1 ids c hn1 q2 hcc hids (by
         have:=q6w (E:=E) (E0:=E0) (D:=true) (P:=P) (G:=G) (ops:=ops) (l:=ops.toList.take n1) (l':=[]) (R:=fun T1 σ1=>q6o P G fl ops.toList n1 T1 σ1 ids∧asqS E E0 P G σ1 ids c ops n1 (ops.toList.drop n1) T1 σ1 (KD fun ex T' σ'=>match ex with | .normal=>awpL E E0 P m r T' σ' (KJ E E0 P m K ctx) | ex=>KJ E E0 P m K ctx ex T' σ')) hA (qd0 ⟨qr4 (by rw[Array.toArray_toList]; exact hF),key _ (fun T' σ' q k=>q87 (K:=fun ex T' σ'=>match ex with | .normal=>awpL E E0 P m r T' σ' (KJ E E0 P m K ctx) | ex=>KJ E E0 P m K ctx ex T' σ') k fun v e=>q v e) fun v k=>k⟩)
         rw[List.append_nil]at this
         simpa [Array.toArray_toList,asqX] using this)
        exact fun X w a h1 h2 h3 h4 h5=>wp_region_any hmix (by have q:=hwp X w a h1 h2 h3 h4 h5; simp[Array.toArray_toList]at q ⊢; exact q)
       ·cases h
      ·cases h
     ·cases h
    ·cases h
   ·cases h
  ·cases h
 ·cases h
end
end Abs
end Go.Proofs.YtpidpioifnnllaaGreatDoor
