/-
  Each operation of the evaluator is what the model does: slices built, stores, appends.
  append; and all operations together.
  All operations together.
  Regions in the order of the text are what the model does.
-/
import Derived.Test.YtpidpioifnnllaaGreatDoorAbsJ
import Derived.Laws.IdiomStrings
set_option linter.unusedVariables false
set_option linter.unusedSimpArgs false
namespace Go.Proofs.YtpidpioifnnllaaGreatDoor
namespace Abs
open Go.RowKit
variable {E : World → Prop} {E0 : Nat} {P : Program} {X : Cx} {w : World} {ρ : Operand → TV} {ev : Operand → Value}
theorem q2w (hi:Inv E E0 X w) {id:Nat} {ob:AObj} (ho:X.σ[id]?=some (some ob)) (hp:¬ X.pend id) {l:Nat×Nat} (hl:X.loc id=some l):l.1 < w.heap.size:=by
 obtain ⟨l',hl',_,cs,T,hg,_,_⟩:=hi.ob id ob ho hp (hi.not_bare ho hp hl)
 rw[hl]at hl'
 obtain rfl:l=l':=by simpa using hl'
 rcases Nat.lt_or_ge l.1 w.heap.size with h | h
 ·exact h
 ·simp[Array.getElem?_eq_none h]at hg
theorem qrh (hi:Inv E E0 X w) {ps:List PV} {us:Array Value} (h:All2 (PRep X.prot w) ps us.toList) (T:TypeId) :
  qh ({ X with hs:=(w.alloc (.cells us T (0,0))).heap.size }:Cx).prot (w.alloc (.cells us T (0,0))) w.heap.size 0 ps:=by
 have hb:Below w.heap.size w (w.alloc (.cells us T (0,0))):=(Below.refl _ _).alloc (Nat.le_refl _) _
 refine qh.of_get fun i c e=>?_
 obtain ⟨u,h1,h2⟩:=h.get i c e
 have hg:(w.alloc (.cells us T (0,0))).heap[w.heap.size]?=some (.cells us T (0,0)):=by
  show (w.heap.push _)[w.heap.size]?=_
  simp
 refine ⟨u,by unfold World.cell?; simp only; rw[hg]; simpa using h1,.inr ⟨hi.b0,by simp,fun id ob l e' hp hl hbl=>?_⟩,PRep.mono (q2p hi hb).prot h2⟩
 have:=q2w hi (X:=X) e' hp hl
 omega
theorem qbu {α:Type} (zs:List α):∀ n,(replic zs n).length=n*zs.length
 | 0=>by simp[replic]
 | n+1=>by simp[replic,qbu zs n,Nat.add_mul,Nat.add_comm]
theorem qmv {α:Type} (zs:List α) (hz:0 < zs.length):∀ (n i:Nat),i < n*zs.length→(replic zs n)[i]?=zs[i % zs.length]?
 | 0,i,h=>by simp at h
 | n+1,i,h=>by
  rw[replic,List.getElem?_append]
  split
  ·rename_i hlt; rw[Nat.mod_eq_of_lt hlt]
  ·rename_i hge
   rw[qmv zs hz n (i - zs.length) (by rw[Nat.add_mul]at h; omega)]
   congr 1
   exact (Nat.mod_eq_sub_mod (by omega)).symm
theorem qft {zs:List AC} {us:Array Value} (h:All2 (CRep X w) zs us.toList) (hz:0 < zs.length) (n:Nat):All2 (CRep X w) (replic zs n) ((Array.range (n*zs.length)).map fun i=>us[i % us.size]!).toList:=by
 have hl:us.size=zs.length:=by have:=h.length; simp at this; exact this.symm
 refine All2.of_get (by simp[qbu]) fun i c u hc hu=>?_
 have hi:i < n*zs.length:=by
  rcases Nat.lt_or_ge i (n*zs.length) with k | k
  ·exact k
  ·rw[List.getElem?_eq_none (by rw[qbu]; exact k)]at hc; cases hc
 rw[qmv zs hz n i hi]at hc
 obtain ⟨x,h1,h2⟩:=h.get _ _ hc
 simp[hi]at hu
 have hlt:i % zs.length < us.size:=by rw[hl]; exact Nat.mod_lt _ hz
 have:us[i % us.size]! = x:=by
  rw[hl]
  have h1':us[i % zs.length]?=some x:=by simpa using h1
  simp[getElem!_def,h1']
 rw[← hu,this]; exact h2
theorem qts {o : Oper} {t : TypeId} {len : Nat} {parts : Array (Nat × Operand)} (ho : o.op = .buildSlice t len parts) (hi : Inv E E0 X w) (hE : ∀ w w', E w → Below E0 w w' → E w') (hx : ∀ x ∈ parts.toList, TRep X w (ρ x.2) (ev x.2)) {eff : Eff}
    (h : aop P ρ X.σ (.buildSlice t len parts) = some eff) : Got E E0 P X w (execOp ev o) eff := by
  simp only [aop] at h
  split at h
  · rename_i e sz by_ l he hl
    split at h
    · rename_i h0
      simp at h; subst h
      obtain ⟨h01, h02⟩ := h0
      subst h01
      obtain ⟨inf, hu, hi1, hi2, _⟩ := q4r he
      have hsz : size? P e = some sz := by simp [size?, hi1, hi2]
      have hp0 : parts.toList = [] := by
        cases hpl : parts.toList with
        | nil => rfl
        | cons x r =>
          rw [hpl] at hl
          simp only [q41, Option.bind_eq_some_iff, Option.map_eq_some_iff] at hl
          obtain ⟨v, _, l', _, rfl⟩ := hl
          simp at h02
      have hp1 : parts = #[] := by cases parts; simp at hp0; simp [hp0]
      have hb : Below w.heap.size w (w.alloc (.cells #[] e (0, 0))) := (Below.refl _ _).alloc (Nat.le_refl _) _
      refine ⟨.slice (some ⟨w.heap.size, 0, none⟩) 0 0, w.alloc (.cells #[] e (0, 0)), .inl ?_, hb, ?_⟩
      · simp [execOp, ho, hp1, Instr.buildSlice, run_underlying hu, run_sizeOf' hsz, Instr.fill, newRow]
        congr 2
        apply Array.ext'; simp [Array.range]
      · show PRep _ _ (.sl true 0 []) _
        unfold PRep
        exact .inr (.inl ⟨_, _, _, rfl, Nat.le_refl _, fun _ => rfl, by simp [qh]⟩)
    split at h
    · rename_i z hz
      split at h
      · rename_i hcond
        obtain ⟨hc1, hc2, hc3⟩ := hcond
        simp only [Option.bind_eq_some_iff, Option.map_eq_some_iff] at h
        obtain ⟨cs, hf, ps, hps, h⟩ := h
        obtain ⟨inf, hu, hi1, hi2, _⟩ := q4r he
        have hsz : size? P e = some sz := by simp [size?, hi1, hi2]
        obtain ⟨inf', v, hi1', hv, rfl⟩ := q6n hz
        have hzr := q4z (X := X) (w := w) v
        have hzc : All2 (CRep X w) (q4y v).cells v.cells.toList := by
          cases v with
          | agg cs => obtain ⟨us, e, hc⟩ := hzr; obtain rfl : cs = us := by simpa using e
                      exact hc
          | _ => exact ⟨hzr, trivial⟩
        have hpr := qbp hx hl
        have h0 : 0 < sz := Nat.pos_of_mul_pos_left hc2
        have hrr := qft hzc (by rw [hc3]; exact h0) len
        rw [hc3] at hrr
        obtain ⟨us', h1, h2⟩ := q8s (pl' := fun i => some (i * sz, sz)) rfl hf hrr hpr
        obtain ⟨m1, m2, m3, m4⟩ := q97 cs hi h2
        have hps' : frzL (q2u X.σ cs) cs = some ps := by rw [q8t m3]; exact hps
        have hpp := q73 m1 hps' (h2.imp fun _ _ => CRep.ext m2) m4
        have hb : Below w.heap.size w (w.alloc (.cells us' e (0, 0))) := (Below.refl _ _).alloc (Nat.le_refl _) _
        have hfc := qrh m1 hpp e
        have hE' : E (w.alloc (.cells us' e (0, 0))) := hE _ _ hi.env (hb.mono (Nat.le_trans hi.e0 hi.b0))
        have hrun : (execOp ev o).run P w = .ok (.value (.slice (some ⟨w.heap.size, 0, none⟩) len len)) (w.alloc (.cells us' e (0, 0))) := by
          have hn1 : ¬ (16777216 < len * sz) := by omega
          have hn2 : ¬ (len * sz = 0) := by omega
          simp [execOp, ho, Instr.buildSlice, run_underlying hu, run_sizeOf' hsz, hn1, q7u hi1' hv, hn2]
          rw [h1]
          simp [newRow]
        have hval : TRep ({ X with σ := q2u X.σ cs, hs := (w.alloc (.cells us' e (0, 0))).heap.size } : Cx) (w.alloc (.cells us' e (0, 0))) (.one (.cell (.pv (.sl true len ps)))) (.slice (some ⟨w.heap.size, 0, none⟩) len len) := by
          show PRep _ _ (.sl true len ps) _
          unfold PRep
          exact .inr (.inl ⟨_, _, _, rfl, Nat.le_refl _, fun _ => rfl, hfc⟩)
        split at h
        · subst h
          exact fun _ => ⟨_, _, { X with σ := q2u X.σ cs, hs := (w.alloc (.cells us' e (0, 0))).heap.size }, .inl hrun, rfl, rfl, q3p m1 hb hE', m2.trans (q2p m1 hb), hval⟩
        · rename_i hown
          subst h
          rw [qbk (by simpa using hown)] at hval
          exact ⟨_, _, .inl hrun, hb, hval⟩
      · cases h
    · cases h
  · cases h
theorem qn6 (w:World) (g:Nat) (cs:Array Value) {B:Nat} (h:B≤g):Below B w (w.setRow g cs) :=
 ⟨rfl,rfl,rfl,by simp,fun k hk=>setRow_other w g k cs (by omega)⟩
theorem qn7 (w:World) (g:Nat) (cs:Array Value) {ob:AObj} (h:X.In ob g):BelowO X.B0 X.low w (w.setRow g cs) :=
 ⟨rfl,rfl,rfl,by simp,fun k hk hl=>setRow_other w g k cs (by
  rintro rfl
  rcases h with h | h
  ·omega
  ·exact hl h.2)⟩
theorem qn8 (w:World) (g:Nat) (old cs:Array Value) (T:TypeId) (hg:w.heap[g]?=some (.cells old T (0,0))) (b o:Nat) (h:b≠g∨cs[o]?=old[o]?):(w.setRow g cs).cell? ⟨b,o,none⟩=w.cell? ⟨b,o,none⟩:=by
 by_cases hb:b=g
 ·subst hb
  have:=setRow_heap w b old cs T (0,0) hg
  rcases h with h | h
  ·exact absurd rfl h
  ·simp[World.cell?,this,hg,h]
 ·simp[World.cell?,setRow_other w g b cs hb]
theorem spliced {α:Type} {cs vs cs':List α} {off:Nat} (h:splice cs off vs=some cs'):off+vs.length≤cs.length∧cs'=cs.take off++vs++cs.drop (off+vs.length)∧cs'.length=cs.length:=by
 unfold splice at h
 split at h
 ·simp only[Option.some.injEq]at h
  refine ⟨by assumption,h.symm,?_⟩
  rw[← h]; simp; omega
 ·cases h
theorem qg5 {α:Type} (cs vs:List α) (off:Nat) (h:off+vs.length≤cs.length) (i:Nat):(cs.take off++vs++cs.drop (off+vs.length))[i]?=if i < off then cs[i]? else if i < off+vs.length then vs[i - off]? else cs[i]?:=by
 rw[List.getElem?_append,List.getElem?_append]
 simp only[List.length_append,List.length_take,Nat.min_eq_left (show off≤cs.length by omega)]
 split
 ·split
  ·rw[List.getElem?_take,if_pos (by assumption)]
  ·rfl
 ·rw[if_neg (by omega),List.getElem?_drop]
  congr 1; omega
theorem quw (hi:Inv E E0 X w) (hE:∀ w w',E w→Below E0 w w'→E w') {id:Nat} {ob ob':AObj} {off:Nat} {vs:List AC} {us:List Value} (ho:X.σ[id]?=some (some ob)) (hp:¬ X.pend id) {l:Nat×Nat} (hl:X.loc id=some l)
  (h:pokes X.σ ob off vs=some ob') (hv:All2 (CRep X w) vs us) :
  ∃ cur T,w.heap[l.1]?=some (.cells cur T (0,0))∧off+us.length≤cur.size ∧
   Inv E E0 { X with σ:=X.σ.set id (some ob') } (w.setRow l.1 (cur.toList.take off++us++cur.toList.drop (off+us.length)).toArray) ∧
   Ext X w { X with σ:=X.σ.set id (some ob') } (w.setRow l.1 (cur.toList.take off++us++cur.toList.drop (off+us.length)).toArray):=by
 obtain ⟨l',hl',hB,cur,T,hg,hz,hr⟩:=hi.ob id ob ho hp (hi.not_bare ho hp hl)
 rw[hl]at hl'
 obtain rfl:l=l':=by simpa using hl'
 -- the new object's cells
 have key:∃ ws,splice ob.cells off ws=some ob'.cells∧All2 (CRep X w) ws us∧ob'.kind=ob.kind∧ob'.fr=ob.fr∧ob.fr≤off∧ob'.ver=ob.ver:=by
  unfold pokes at h
  split at h
  ·split at h
   ·rename_i cs
    simp only[Option.map_eq_some_iff]at h
    obtain ⟨cs',h1,rfl⟩:=h
    exact ⟨vs,h1,hv,rfl,rfl,Nat.zero_le _,rfl⟩
   ·rename_i cs sz fr
    split at h
    ·rename_i hc
     simp only[Option.bind_eq_some_iff,Option.map_eq_some_iff]at h
     obtain ⟨ps,h1,cs',h2,rfl⟩:=h
     have hm:∀ c ∈ vs,∀ id ver off len,c=AC.own id ver off len→Marked X.σ id:=by
      intro c hcv id ver off len e
      subst e
      have:=hc.2
      simp at this
      have:=this _ hcv
      simp[AC.owns]at this
     have hpp:=q73 hi h1 hv hm
     obtain ⟨g1,g2,g3⟩:=spliced h2
     refine ⟨ps.map .pv,?_,?_,rfl,rfl,hc.1,?_⟩
     ·unfold splice
      simp only[AObj.cells,List.length_map]
      rw[if_pos g1,g2]
      simp
     ·refine All2.of_get (by simp[hpp.length]) fun i c u hic hu=>?_
      simp at hic
      obtain ⟨p,hip,rfl⟩:=hic
      obtain ⟨u',hu',hpr⟩:=hpp.get i p hip
      rw[hu]at hu'
      obtain rfl:u=u':=by simpa using hu'
      exact hpr
     ·simp only[AObj.ver]; exact g3
    ·cases h
   ·cases h
   ·cases h
  ·cases h
 obtain ⟨ws,k1,k2,k3,k4,k5,k6⟩:=key
 obtain ⟨s1,s2,s3⟩:=spliced k1
 have hlen:ws.length=us.length:=k2.length
 have hcur:off+us.length≤cur.size:=by
  rcases Nat.eq_zero_or_pos us.length with h0 | h0
  ·rcases Nat.eq_zero_or_pos off with h1 | h1
   ·omega
   ·obtain ⟨u,hu,_⟩:=hr (off - 1) (ob.cells[off - 1]'(by omega)) (List.getElem?_eq_getElem _)
    have:off - 1 < cur.size:=by
     rcases Nat.lt_or_ge (off - 1) cur.size with k | k
     ·exact k
     ·rw[Array.getElem?_eq_none k]at hu; cases hu
    omega
  ·obtain ⟨u,hu,_⟩:=hr (off+us.length - 1) (ob.cells[off+us.length - 1]'(by omega)) (List.getElem?_eq_getElem _)
   have:off+us.length - 1 < cur.size:=by
    rcases Nat.lt_or_ge (off+us.length - 1) cur.size with k | k
    ·exact k
    ·rw[Array.getElem?_eq_none k]at hu; cases hu
   omega
 have hgetA:∀ i,(cur.toList.take off++us++cur.toList.drop (off+us.length)).toArray[i]?=if i < off then cur[i]? else if i < off+us.length then us[i - off]? else cur[i]?:=by
  intro i
  have:=qg5 cur.toList us off (by simpa using hcur) i
  simpa using this
 have hx:Ext X w { X with σ:=X.σ.set id (some ob') } (w.setRow l.1 (cur.toList.take off++us++cur.toList.drop (off+us.length)).toArray):=by
  refine q85 hi ho hp hl (by omega) k3 (fun _=>by rw[s3]) (by omega) (qn7 w l.1 _ hB) (fun b o hbo=>qn8 w l.1 cur _ T hg b o ?_)
  rcases hbo with hbo | hbo
  ·exact .inl hbo
  ·right; rw[hgetA,if_pos (by omega)]
 refine ⟨cur,T,hg,hcur,q86 hi ho hp hl k3 hx (hE _ _ hi.env (qn6 w l.1 _ (hi.in_e0 hB))) (by simp) (fun b hb=>setRow_other w l.1 b _ hb) _ T (setRow_heap w l.1 cur _ T (0,0) hg) (by simp; omega) (fun i c hc=>?_),hx⟩
 rw[hgetA]
 rw[s2,qg5 ob.cells ws off s1,hlen]at hc
 split
 ·rename_i h1
  rw[if_pos h1]at hc
  exact (hr i c hc).imp fun u hu=>⟨hu.1,CRep.ext hx hu.2⟩
 ·rename_i h1
  rw[if_neg h1]at hc
  split
  ·rename_i h2
   rw[if_pos h2]at hc
   obtain ⟨u,g1,g2⟩:=k2.get _ _ hc
   exact ⟨u,g1,CRep.ext hx g2⟩
  ·rename_i h2
   rw[if_neg h2]at hc
   exact (hr i c hc).imp fun u hu=>⟨hu.1,CRep.ext hx hu.2⟩
theorem qua {o:Oper} {t:TypeId} {a x:Operand} (ho:o.op=.store t a x) (hi:Inv E E0 X w) (hE:∀ w w',E w→Below E0 w w'→E w') (ha:TRep X w (ρ a) (ev a)) (hx:TRep X w (ρ x) (ev x)) {eff:Eff} (h:aop P ρ X.σ (.store t a x)=some eff):Got E E0 P X w (execOp ev o) eff:=by
 simp only[aop]at h
 split at h
 ·rename_i id ver off v n h1 h2 h3
  rw[q1a h1]at ha
  rw[q64 h2]at hx
  split at h
  ·rename_i ob hl
   split at h
   ·rename_i hn
    simp only[Option.map_eq_some_iff]at h
    obtain ⟨ob',hpk,rfl⟩:=h
    obtain ⟨hp,hob,l,hloc,hu⟩:=q5r (X:=X) ha hl
    have hok:v.cells.all AC.ok=true:=by
     unfold pokes at hpk
     split at hpk
     ·assumption
     ·cases hpk
    obtain ⟨hvc,hone⟩:=q9.cells (v:=v) hx hok
    obtain ⟨cur,T,hg,hle,hinv,hext⟩:=quw hi hE hob hp hloc hpk hvc
    refine fun _=>⟨undef,_,{ X with σ:=X.σ.set id (some ob') },.inr ⟨?_,rfl⟩,rfl,rfl,hinv,hext,rfl⟩
    have hst:=run_storeCells_at P l.1 off T (ev x).cells.toList 0 cur w hg (by simpa using hle) hone
    simp only[Nat.add_zero]at hst
    have hsz:(ev x).cells.size=n:=by have:=hvc.length; simp at this; omega
    have hsz':¬ ((ev x).cells.size≠n):=by omega
    simp[execOp,ho,hu,Instr.storeAt,Instr.sureAddr,storeVar,run_sizeOf' h3,hsz,hst]
   ·cases h
  ·cases h
 ·cases h
end Abs
end Go.Proofs.YtpidpioifnnllaaGreatDoor
namespace Go.Proofs.YtpidpioifnnllaaGreatDoor
namespace Abs
open Go.RowKit
variable {E : World → Prop} {E0 : Nat} {P : Program} {X : Cx} {w : World} {ρ : Operand → TV} {ev : Operand → Value}
theorem qfl {prot:Nat→Nat→Prop}:∀ {cs:List PV} {b o:Nat},qh prot w b o cs→∃ us,All2 (PRep prot w) cs us∧∀ (j:Nat) (v:Value),us[j]?=some v→w.cell? ⟨b,o+j,none⟩=some v
 | [],_,_,_=>⟨[],trivial,by simp⟩
 | c::r,b,o,h=>by
  unfold qh at h
  obtain ⟨⟨u,hu,_,hc⟩,hr⟩:=h
  obtain ⟨us,h1,h2⟩:=qfl hr
  refine ⟨u::us,⟨hc,h1⟩,fun j v e=>?_⟩
  cases j with
  | zero=>simp at e; subst e; exact hu
  | succ j =>
   have:=h2 j v (by simpa using e)
   rwa [show o+1+j=o+(j+1) by omega]at this
theorem qm2 (hi:Inv E E0 X w) {id ver off len:Nat} {u:Value} (h:q3t X id ver off len u) {cells:List PV} {sz fr:Nat} (hl:live X.σ id ver=some (.arr cells sz fr)) :
  ∃ a cap us,u=.slice (some a) len cap∧len≤cap∧All2 (PRep X.prot w) ((cells.drop off).take (len*sz)) us∧∀ (j:Nat) (v:Value),us[j]?=some v→w.cell? (a.add j)=some v:=by
 obtain ⟨hp,hob,l,hloc,hbd,a,cap,hu,hn,hsp,hcap⟩:=q7o h hl
 have hrow:=((q7m hi hob hp hloc).drop off).take (len*sz)
 obtain ⟨us,h1,h2⟩:=hrow.vals
 have h3:All2 (PRep X.prot w) ((cells.drop off).take (len*sz)) us:=by
  refine All2.of_get ?_ fun i p u hp hu=>?_
  ·have:=h1.length; simpa [AObj.cells] using this
  ·obtain ⟨u',e,r⟩:=h1.get i (.pv p) (by simp only[AObj.cells,← List.map_drop,← List.map_take,List.getElem?_map,hp]; rfl)
   rw[hu]at e
   obtain rfl:u=u':=by simpa using e
   exact r
 refine ⟨a,cap,us,hu,hn,h3,fun j v e=>?_⟩
 by_cases h0:cap=0
 ·have:len=0:=by omega
  subst this
  have:=h3.length
  simp at this
  rw[List.eq_nil_of_length_eq_zero this.symm]at e
  simp at e
 ·obtain ⟨b1,b2,_⟩:=hcap h0
  have:=h2 j v e
  rw[show a=⟨l.1,off,none⟩ by cases a; simp_all,q45]
  simpa using this
theorem qni (hi:Inv E E0 X w) {s:AC} {n:Nat} {xs:List PV} {u:Value} (h:q36 X.σ s=some (n,xs)) (hs:CRep X w s u) :
  (u=.slice none 0 0∧n=0∧xs=[])∨∃ a c us,u=.slice (some a) n c∧All2 (PRep X.prot w) xs us∧∀ (j:Nat) (v:Value),us[j]?=some v→w.cell? (a.add j)=some v:=by
 unfold q36 at h
 split at h
 ·rename_i v
  split at h
  ·rename_i hn
   simp at h
   obtain ⟨rfl,rfl⟩:=h
   have hs':PRep X.prot w (.sc v) u:=hs
   unfold PRep at hs'
   exact .inl ⟨by rw[hs'.1,qb4 hn],rfl,rfl⟩
  ·cases h
 ·rename_i full m cs
  simp at h
  obtain ⟨rfl,rfl⟩:=h
  have hs':PRep X.prot w (.sl full m cs) u:=hs
  unfold PRep at hs'
  rcases hs' with h | ⟨b,off,cap,h1,_,_,h4⟩ | ⟨rfl,rfl,a,cap,h1,_⟩
  ·exact .inl h
  ·obtain ⟨us,g1,g2⟩:=qfl h4
   exact .inr ⟨_,_,us,h1,g1,fun j v e=>by rw[q45]; exact g2 j v e⟩
  ·exact .inr ⟨a,cap,[],h1,trivial,fun j v e=>by simp at e⟩
 ·rename_i id ver off len
  split at h
  ·rename_i cells sz fr hl
   simp at h
   obtain ⟨rfl,rfl⟩:=h
   obtain ⟨a,cap,us,h1,_,h3,h4⟩:=qm2 hi (X:=X) hs hl
   exact .inr ⟨a,cap,us,h1,h3,h4⟩
  ·rename_i sz hl
   obtain ⟨_,_,hu,rfl⟩:=qbn (X:=X) hs hl
   simp at h
   obtain ⟨rfl,rfl⟩:=h
   exact .inl ⟨hu,rfl,rfl⟩
  ·cases h
 ·cases h
theorem quy {prot:Nat→Nat→Prop} {p:PV} {u:Value} (h:PRep prot w p u):u.oneCell'=true:=by
 cases p with
 | sc v=>unfold PRep at h; rw[h.1]; exact h.2
 | sl full n cs =>
  unfold PRep at h
  rcases h with ⟨rfl,_⟩ | ⟨b,off,cap,rfl,_⟩ | ⟨_,_,a,cap,rfl,_⟩ <;> rfl
 | pp cs=>unfold PRep at h; obtain ⟨b,off,rfl,_⟩:=h; rfl
theorem qoz {prot:Nat→Nat→Prop} {ps:List PV} {us:List Value} (h:All2 (PRep prot w) ps us):∀ u ∈ us,u.oneCell'=true:=fun u hu=>by
 obtain ⟨p,_,r⟩:=h.mem u hu
 exact quy r
theorem run_append_room' (t ty e T:TypeId) (i:TypeInfo) (ht:P.underlying t=some (.slice e)) (hi:P.info? e=some i)
  (g sLen sCap:Nat) (cur:Array Value) (hg:w.heap[g]?=some (.cells cur T (0,0)))
  (a:Addr) (m c:Nat) (news:List Value) (hl:news.length=m*i.size) (hnews:∀ j u,news[j]?=some u→w.cell? (a.add j)=some u) (h1:∀ u ∈ news,u.oneCell'=true)
  (hroom:sLen+m≤sCap) (hfit:sLen*i.size+news.length≤cur.size) :
  (Builtin.append_ #[t,t] ty #[.slice (some ⟨g,0,none⟩) sLen sCap,.slice (some a) m c]).run P w =
   .ok (.slice (some ⟨g,0,none⟩) (sLen+m) sCap) (w.setRow g (cur.toList.take (sLen*i.size)++news++cur.toList.drop (sLen*i.size+news.length)).toArray):=by
 have hf:=run_firstCells_some (P:=P) w i.size m a m c news hl hnews
 have hst:=run_storeCells_at P g (sLen*i.size) T news 0 cur w hg (by simpa using hfit) h1
 simp only[Nat.add_zero]at hst
 simp[Builtin.append_,run_underlying ht,sizeOf,typeInfo,hi,Builtin.lenOf,hroom,hf,Addr.add_lit,hst]
theorem qvw (t ty e:TypeId) (i:TypeInfo) (ht:P.underlying t=some (.slice e)) (hi:P.info? e=some i) (b:Option Addr) (m cap:Nat) (hm:m≤cap) {x:Value} (hx:x=.slice none 0 0∨∃ a c,x=.slice (some a) 0 c) :
  (Builtin.append_ #[t,t] ty #[.slice b m cap,x]).run P w=.ok (.slice b m cap) w:=by
 rcases hx with rfl | ⟨a,c,rfl⟩ <;> cases b <;>
  simp[Builtin.append_,run_underlying ht,sizeOf,typeInfo,hi,Builtin.lenOf,hm,Builtin.firstCells,loadCells,loadCellsFrom,storeCells]
theorem qfa {ps:List PV} {us:List Value} {cs:Array Value} (h:All2 (PRep X.prot w) ps us) (hc:∀ (i:Nat) (u:Value),us[i]?=some u→cs[i]?=some u) {sz fr:Nat}:q2l X w (.arr ps sz fr) cs:=fun i c e=>by
 simp[AObj.cells]at e
 obtain ⟨p,hp,rfl⟩:=e
 obtain ⟨u,hu,hr⟩:=h.get i p hp
 exact ⟨u,hc i u hu,hr⟩
theorem q6j {w1:World} (hi:Inv E E0 X w) (hE:∀ w w',E w→Below E0 w w'→E w') (hs:Still w w1):Inv E E0 X w1∧Ext X w X w1:=by
 have h1:=q3p hi (hs.below _) (hE _ _ hi.env (hs.below _))
 have h2:=q2p hi (hs.below _)
 have e:({ X with hs:=w1.heap.size }:Cx)=X:=by rw[hs.heap]; exact qn5 hi
 rw[e]at h1 h2
 exact ⟨h1,h2⟩
theorem q63 {s:Sem Next} {ps:List PV} {us:List Value} {w1:World} (hs:Still w w1) {rest:Array Value} {T:TypeId} {n cap sz:Nat} (hp:All2 (PRep X.prot w) ps us) (hl:ps.length=n*sz) (hcap:n≤cap) (hr:rest.size=(cap - n)*sz)
  (hrun:s.run P w=.ok (.value (.slice (some ⟨w.heap.size,0,none⟩) n cap)) (w1.alloc (.cells (us.toArray++rest) T (0,0)))) :
  Got E E0 P X w s (.new (.arr ps sz 0) fun id=>.one (.cell (.own id ps.length 0 n))):=by
 refine ⟨w1,us.toArray++rest,T,_,hs,.inl hrun,qfa hp (fun i u e=>?_),rfl,fun Y id hid=>?_⟩
 ·have hlt:i < us.length:=by
   rcases Nat.lt_or_ge i us.length with k | k
   ·exact k
   ·rw[List.getElem?_eq_none k]at e; cases e
  rw[Array.getElem?_append_left (by simpa using hlt)]
  simpa using e
 ·refine ⟨rfl,fun k=>k.2 rfl,?_,fun ob e=>?_⟩
  ·show id < Y.σ.length
   rcases Nat.lt_or_ge id Y.σ.length with h | h
   ·exact h
   ·rw[List.getElem?_eq_none h]at hid; cases hid
  ·have e':Y.σ[id]?=some (some ob):=e
   rw[hid]at e'
   obtain rfl:AObj.arr ps sz 0=ob:=by simpa using e'
   refine ⟨Nat.le_refl _,fun _=>⟨(w.heap.size,(us.toArray++rest).size),by simp[Cx.born],by omega,_,cap,rfl,hcap,rfl,fun _=>⟨rfl,rfl,?_⟩⟩⟩
   have h1:=hp.length
   simp only[Array.size_append,List.size_toArray,hr]
   have:n*sz+(cap - n)*sz=cap*sz:=by rw[← Nat.add_mul]; congr 1; omega
   omega
theorem qto {o:Oper} {args:Array Operand} {tys:Array TypeId} (ho:o.op=.call { callee:=.builtin .append,args:=args,argTypes:=tys }) (hi:Inv E E0 X w) (hE:∀ w w',E w→Below E0 w w'→E w') (hx:∀ x ∈ args.toList,TRep X w (ρ x) (ev x)) {eff:Eff}
  (h:aop P ρ X.σ (.call { callee:=.builtin .append,args:=args,argTypes:=tys })=some eff):Got E E0 P X w (execOp ev o) eff:=by
 simp only[aop]at h
 split at h
 ·rename_i x y t t' ha ht
  obtain rfl:args=#[x,y]:=by cases args; simp at ha; simp[ha]
  obtain rfl:tys=#[t,t']:=by cases tys; simp at ht; simp[ht]
  split at h
  ·rename_i htt
   subst htt
   have hy:=hx y (by simp)
   have hx:=hx x (by simp)
   have run:∀ {v:Value} {w':World},(Builtin.append_ #[t,t] o.type #[ev x,ev y]).run P w=.ok v w'→(execOp ev o).run P w=.ok (.value v) w':=by
    intro v w' hr
    simp[execOp,ho,resolve,invoke,builtin,hr]
   unfold q61 at h
   split at h
   ·rename_i e sz by_ b s he h1 h2
    have hx0:=hx
    rw[q1a h1]at hx
    rw[q1a h2]at hy
    obtain ⟨i,hu,hi1,hi2,hi3⟩:=q4r he
    subst hi2 hi3
    split at h
    ·rename_i n xs z hsrc hz
     obtain ⟨i',zv,hi1',hzv,rfl⟩:=q6n hz
     rw[hi1]at hi1'
     obtain rfl:i=i':=by simpa using hi1'
     split at h
     ·rename_i hcond
      obtain ⟨hc1,hc2,hc3,hc4⟩:=hcond
      have hzs:zv.cells.size=i.size:=by
       obtain ⟨q,_⟩:=(q4z (X:=X) (w:=w) zv).cells hc3
       have:=q.length; simp at this; omega
      have hsv:=qni hi hsrc hy
      have hzero:∀ (bb:Option Addr) (m cap:Nat),m≤cap→n=0→ev x=.slice bb m cap→Got E E0 P X w (execOp ev o) (.val (ρ x)):=by
       intro bb m cap hm hn hv
       refine qn hi (u:=ev x) (run ?_) hx0
       rw[hv]
       refine qvw t o.type e i hu hi1 bb m cap hm ?_
       rcases hsv with ⟨k,_,_⟩ | ⟨a,c,us,k,_⟩
       ·exact .inl k
       ·rw[hn]at k; exact .inr ⟨a,c,k⟩
      have hsv':n≠0→∃ a c us,ev y=.slice (some a) n c∧All2 (PRep X.prot w) xs us∧∀ (j:Nat) (v:Value),us[j]?=some v→w.cell? (a.add j)=some v:=by
       intro hn
       rcases hsv with ⟨_,k,_⟩ | k
       ·exact absurd k hn
       ·exact k
      have hzc:∀ k,(Builtin.zeroCells zv.cells k).size=k*i.size:=by intro k; rw[size_zeroCells,hzs]
      split at h
      ·rename_i v
       obtain ⟨hv,_⟩:=q1s hx
       split at h
       ·rename_i hnil
        rw[qb4 hnil]at hv
        split at h
        ·rename_i hn
         simp at h; subst h
         exact hzero none 0 0 (Nat.le_refl _) hn hv
        ·rename_i hn
         split at h
         ·rename_i hb
          simp only[Option.some.injEq]at h; subst h
          obtain ⟨a,c,us,k1,k2,k3⟩:=hsv' hn
          have hl:us.length=n*i.size:=by rw[← k2.length]; exact hc1
          have hr:=run_append_nil (P:=P) w t o.type e i zv hu hi1 hzv a n c us hl k3 (by omega) (by omega) (by omega)
          refine q63 (T:=e) (Still.drew w) k2 hc1 (grownCap_ge w n 0 e) (hzc _) (run ?_)
          rw[hv,k1]; exact hr
         ·cases h
       ·cases h
      ·rename_i full m cs
       have hx':PRep X.prot w (.sl full m cs) (ev x):=hx
       unfold PRep at hx'
       split at h
       ·rename_i hn
        simp at h; subst h
        rcases hx' with ⟨hv,_,_⟩ | ⟨b,off,cap,hv,hm,_⟩ | ⟨_,_,a,cap,hv,_⟩
        ·exact hzero none 0 0 (Nat.le_refl _) hn hv
        ·exact hzero _ m cap hm hn hv
        ·exact hzero _ 0 cap (Nat.zero_le _) hn hv
       ·rename_i hn
        split at h
        ·rename_i hb
         obtain ⟨hb1,hb2,hb3,hb4⟩:=hb
         simp only[Option.some.injEq]at h
         obtain ⟨a,c,us,k1,k2,k3⟩:=hsv' hn
         have hl:us.length=n*i.size:=by rw[← k2.length]; exact hc1
         rcases hx' with ⟨hv,rfl,rfl⟩ | ⟨b,off,cap,hv,hm,hcap,hcs⟩ | ⟨rfl,rfl,aa,cap,hv,hcap⟩
         ·subst h
          have hr:=run_append_nil (P:=P) w t o.type e i zv hu hi1 hzv a n c us hl k3 (by omega) (by omega) (by simp at hb2; omega)
          simp only[List.nil_append,Nat.zero_add]
          refine q63 (T:=e) (Still.drew w) k2 hc1 (grownCap_ge w n 0 e) (hzc _) (run ?_)
          rw[hv,k1]; exact hr
         ·subst h
          have hcm:=hcap hb1
          subst hcm
          obtain ⟨olds,g1,g2⟩:=qfl hcs
          have hlo:olds.length=cap*i.size:=by rw[← g1.length]; exact hb4
          have hr:=run_append_grow (P:=P) w t o.type e i zv hu hi1 hzv ⟨b,off,none⟩ cap cap olds hlo (fun j v e=>by rw[q45]; exact g2 j v e) a n c us hl k3 (by omega) (by omega) (growslice_fits (by omega) hb2)
          refine q63 (T:=e) (us:=olds++us) (Still.drew w) (g1.append k2) (by rw[List.length_append,hb4,hc1,Nat.add_mul]) (grownCap_ge w (cap+n) cap e) (hzc _) (run ?_)
          rw[hv,k1,hr]
          simp
         ·subst h
          have hcm:=hcap hb1
          subst hcm
          have hr:=run_append_grow (P:=P) w t o.type e i zv hu hi1 hzv aa 0 0 [] (by simp) (fun j v e=>by simp at e) a n c us hl k3 (by omega) (by omega) (growslice_fits (by omega) hb2)
          refine q63 (T:=e) (us:=[]++us) (Still.drew w) (by simpa using k2) (by rw[List.length_append,hb4,hc1,Nat.add_mul]) (grownCap_ge w (0+n) 0 e) (hzc _) (run ?_)
          rw[hv,k1,hr]
          simp
        ·cases h
      ·rename_i id ver off len
       split at h
       ·rename_i cells sz' fr hlv
        obtain ⟨hp,hob,l,hloc,hbd,a0,cap,hv,hm,hsp,hcap⟩:=q7o (X:=X) hx hlv
        obtain ⟨_,hver⟩:=q6d hlv
        split at h
        ·rename_i hn
         simp at h; subst h
         exact hzero _ len cap hm hn hv
        ·rename_i hn
         split at h
         ·rename_i hb
          obtain ⟨rfl,rfl,hb2,hb3,hb4,hb5⟩:=hb
          simp only[Option.some.injEq]at h; subst h
          obtain ⟨a,c,us,k1,k2,k3⟩:=hsv' hn
          have hl:us.length=n*i.size:=by rw[← k2.length]; exact hc1
          have hpos:0 < n*i.size:=Nat.mul_pos (by omega) hc4
          have hlen:(cells++xs).length=(len+n)*i.size:=by rw[List.length_append,← hb2,hc1,Nat.add_mul]
          have hvlt:(AObj.arr cells i.size fr).ver < (AObj.arr (cells++xs) i.size fr).ver:=by simp[AObj.ver]; omega
          by_cases hroom:len+n≤cap
          ·obtain ⟨b1,b2,b3⟩:=hcap (by omega)
           have ha0:a0=⟨l.1,0,none⟩:=by cases a0; simp_all
           obtain ⟨l',hl',hB,cur,T,hg,hz2,hr0⟩:=hi.ob id _ hob hp rfl
           rw[hloc]at hl'
           obtain rfl:l=l':=by simpa using hl'
           have hfit:len*i.size+us.length≤cur.size:=by
            rw[hl,hz2,← Nat.add_mul]
            have:=Nat.mul_le_mul_right i.size hroom
            omega
           have hr:=run_append_room' (P:=P) (w:=w) t o.type e T i hu hi1 l.1 len cap cur hg a n c us hl k3 (qoz k2) hroom hfit
           have hgetA:∀ j,(cur.toList.take (len*i.size)++us++cur.toList.drop (len*i.size+us.length)).toArray[j]?=if j < len*i.size then cur[j]? else if j < len*i.size+us.length then us[j - len*i.size]? else cur[j]?:=by
            intro j
            have:=qg5 cur.toList us (len*i.size) (by simpa using hfit) j
            simpa using this
           have hext:Ext X w { X with σ:=X.σ.set id (some (.arr (cells++xs) i.size fr)) } (w.setRow l.1 (cur.toList.take (len*i.size)++us++cur.toList.drop (len*i.size+us.length)).toArray):=by
            refine q85 hi hob hp hloc (by omega) rfl (fun k=>by omega) (Nat.le_refl _) (qn7 w l.1 _ hB) (fun b o' hbo=>qn8 w l.1 cur _ T hg b o' ?_)
            rcases hbo with hbo | hbo
            ·exact .inl hbo
            ·right
             have:o' < fr:=hbo
             rw[hgetA,if_pos (by omega)]
           have hinv:=q86 (ob':=.arr (cells++xs) i.size fr) hi hob hp hloc rfl hext (hE _ _ hi.env (qn6 w l.1 _ (hi.in_e0 hB))) (by simp) (fun b hb=>setRow_other w l.1 b _ hb) _ T (setRow_heap w l.1 cur _ T (0,0) hg) (by simp; omega) (fun j c' hj=>by
            rw[hgetA]
            simp only[AObj.cells,List.getElem?_map,Option.map_eq_some_iff]at hj
            obtain ⟨p,hj,rfl⟩:=hj
            rw[List.getElem?_append]at hj
            split at hj
            ·rename_i hlt
             rw[if_pos (by omega)]
             obtain ⟨u,g1,g2⟩:=hr0 j (.pv p) (by simp[AObj.cells,hj])
             exact ⟨u,g1,CRep.ext hext g2⟩
            ·rename_i hge
             obtain ⟨u,g1,g2⟩:=k2.get _ p hj
             have hjl:j - cells.length < us.length:=by
              rcases Nat.lt_or_ge (j - cells.length) us.length with k | k
              ·exact k
              ·rw[List.getElem?_eq_none k]at g1; cases g1
             rw[if_neg (by omega),if_pos (by omega),show j - len*i.size=j - cells.length by omega]
             exact ⟨u,g1,PRep.mono hext.prot g2⟩)
           refine fun _=>⟨.slice (some ⟨l.1,0,none⟩) (len+n) cap,_,{ X with σ:=X.σ.set id (some (.arr (cells++xs) i.size fr)) },.inl (run ?_),rfl,rfl,hinv,hext,?_⟩
           ·rw[hv,ha0,k1]; exact hr
           ·have hidl:id < X.σ.length:=hx.2.2.1
            refine ⟨rfl,hp,by simpa using hidl,fun ob e=>?_⟩
            have e2:(X.σ.set id (some (.arr (cells++xs) i.size fr)))[id]?=some (some (.arr (cells++xs) i.size fr)):=by rw[List.getElem?_set_self hidl]
            have e3:(X.σ.set id (some (.arr (cells++xs) i.size fr)))[id]?=some (some ob):=e
            rw[e2]at e3
            obtain rfl:AObj.arr (cells++xs) i.size fr=ob:=by simpa using e3
            exact ⟨Nat.le_refl _,fun _=>⟨l,hloc,by omega,_,cap,rfl,hroom,rfl,fun _=>⟨rfl,rfl,b3⟩⟩⟩
          ·obtain ⟨a1,cap1,olds,g1,_,g2,g3⟩:=qm2 hi (X:=X) hx hlv
           rw[hv]at g1
           obtain ⟨rfl,rfl⟩:a0=a1∧cap=cap1:=by simpa using g1
           have hdt:(cells.drop 0).take (len*i.size)=cells:=by rw[List.drop_zero,hb2,List.take_length]
           rw[hdt]at g2
           have hlo:olds.length=len*i.size:=by rw[← g2.length]; omega
           have hr:=run_append_grow (P:=P) w t o.type e i zv hu hi1 hzv a0 len cap olds hlo g3 a n c us hl k3 (by omega) (by omega) (growslice_fits (by omega) hb4)
           obtain ⟨si,se⟩:=q6j hi hE (Still.drew w)
           have hob2:q2l X w.drew (.arr (cells++xs) i.size fr) (olds.toArray++us.toArray++Builtin.zeroCells zv.cells (grownCap w (len+n) cap e - (len+n))):=by
            refine qfa ((g2.append k2).imp fun _ _=>PRep.mono se.prot) (fun j u e=>?_)
            have hlt:j < (olds++us).length:=by
             rcases Nat.lt_or_ge j (olds++us).length with k | k
             ·exact k
             ·rw[List.getElem?_eq_none k]at e; cases e
            rw[Array.getElem?_append_left (by simpa using hlt)]
            simpa using e
           have mi:=qlj si hE hob hvlt rfl hp _ e hob2
           have me:=qf5 si hob hvlt (olds.toArray++us.toArray++Builtin.zeroCells zv.cells (grownCap w (len+n) cap e - (len+n))) e
           refine fun _=>⟨_,_,X.move id (.arr (cells++xs) i.size fr) (w.drew.heap.size,(olds.toArray++us.toArray++Builtin.zeroCells zv.cells (grownCap w (len+n) cap e - (len+n))).size),.inl (run (by rw[hv,k1]; exact hr)),rfl,rfl,mi,se.trans me,?_⟩
           have hidl:id < X.σ.length:=hx.2.2.1
           refine ⟨rfl,hp,by simpa [Cx.move] using hidl,fun ob eq1=>?_⟩
           have e2:(X.σ.set id (some (.arr (cells++xs) i.size fr)))[id]?=some (some (.arr (cells++xs) i.size fr)):=by rw[List.getElem?_set_self hidl]
           have e3:(X.σ.set id (some (.arr (cells++xs) i.size fr)))[id]?=some (some ob):=eq1
           rw[e2]at e3
           obtain rfl:AObj.arr (cells++xs) i.size fr=ob:=by simpa using e3
           have hge:=grownCap_ge w (len+n) cap e
           refine ⟨Nat.le_refl _,fun _=>⟨_,by simp only[Cx.move,if_true]; rfl,by omega,_,_,rfl,hge,rfl,fun _=>⟨rfl,rfl,?_⟩⟩⟩
           simp only[Array.size_append,List.size_toArray,hzc,hlo,hl]
           have:len*i.size+n*i.size+(grownCap w (len+n) cap e - (len+n))*i.size=grownCap w (len+n) cap e*i.size:=by
            rw[← Nat.add_mul,← Nat.add_mul]; congr 1; omega
           omega
         ·cases h
       ·rename_i sz' hlv
        obtain ⟨hp,hob,hv,rfl⟩:=qbn (X:=X) hx hlv
        split at h
        ·rename_i hn
         simp at h; subst h
         exact hzero none 0 0 (Nat.le_refl _) hn hv
        ·rename_i hn
         split at h
         ·rename_i hb
          obtain ⟨rfl,_,hb2,hb3⟩:=hb
          simp only[Option.some.injEq]at h; subst h
          obtain ⟨a,c,us,k1,k2,k3⟩:=hsv' hn
          have hl:us.length=n*i.size:=by rw[← k2.length]; exact hc1
          have hpos:0 < n*i.size:=Nat.mul_pos (by omega) hc4
          have hvlt:(AObj.nilarr i.size).ver < (AObj.arr xs i.size 0).ver:=by simp[AObj.ver]; omega
          have hr:=run_append_nil (P:=P) w t o.type e i zv hu hi1 hzv a n c us hl k3 (by omega) (by omega) (by omega)
          obtain ⟨si,se⟩:=q6j hi hE (Still.drew w)
          have hob2:q2l X w.drew (.arr xs i.size 0) (us.toArray++Builtin.zeroCells zv.cells (grownCap w n 0 e - n)):=by
           refine qfa (k2.imp fun _ _=>PRep.mono se.prot) (fun j u e=>?_)
           have hlt:j < us.length:=by
            rcases Nat.lt_or_ge j us.length with k | k
            ·exact k
            ·rw[List.getElem?_eq_none k]at e; cases e
           rw[Array.getElem?_append_left (by simpa using hlt)]
           simpa using e
          have mi:=qlj si hE hob hvlt rfl hp _ e hob2
          have me:=qf5 si hob hvlt (us.toArray++Builtin.zeroCells zv.cells (grownCap w n 0 e - n)) e
          refine fun _=>⟨_,_,X.move id (.arr xs i.size 0) (w.drew.heap.size,(us.toArray++Builtin.zeroCells zv.cells (grownCap w n 0 e - n)).size),.inl (run (by rw[hv,k1]; exact hr)),rfl,rfl,mi,se.trans me,?_⟩
          have hidl:id < X.σ.length:=hx.2.2.1
          refine ⟨rfl,hp,by simpa [Cx.move] using hidl,fun ob eq1=>?_⟩
          have e2:(X.σ.set id (some (.arr xs i.size 0)))[id]?=some (some (.arr xs i.size 0)):=by rw[List.getElem?_set_self hidl]
          have e3:(X.σ.set id (some (.arr xs i.size 0)))[id]?=some (some ob):=eq1
          rw[e2]at e3
          obtain rfl:AObj.arr xs i.size 0=ob:=by simpa using e3
          have hge:=grownCap_ge w n 0 e
          refine ⟨Nat.le_refl _,fun _=>⟨_,by simp only[Cx.move,if_true]; rfl,by omega,_,_,rfl,hge,rfl,fun _=>⟨rfl,rfl,?_⟩⟩⟩
          simp only[Array.size_append,List.size_toArray,hzc,hl]
          have:n*i.size+(grownCap w n 0 e - n)*i.size=grownCap w n 0 e*i.size:=by
           rw[← Nat.add_mul]; congr 1; omega
          omega
         ·cases h
       ·cases h
      ·cases h
     ·cases h
    ·cases h
   ·cases h
  ·cases h
 ·cases h
theorem qot {mx:Bool} {u v:TV} {eff:Eff} (h:q8a mx u v=some eff):∃ k k' a b,u=.one (.cell (.pv (.sc (.int k a))))∧v=.one (.cell (.pv (.sc (.int k' b))))∧eff=.val (Abs.sc (.int k (if mx=true then (if b > a then b else a) else (if b < a then b else a)))):=by
 unfold q8a at h
 split at h
 ·simp at h; exact ⟨_,_,_,_,rfl,rfl,h.symm⟩
 ·cases h
theorem op_mm {o:Oper} {b:Builtin} {args:Array Operand} {tys:Array TypeId} (ho:o.op=.call { callee:=.builtin b,args:=args,argTypes:=tys }) (mx:Bool) (hb:(b=.max∧mx=true)∨(b=.min∧mx=false)) (hi:Inv E E0 X w) (hx:∀ x ∈ args.toList,TRep X w (ρ x) (ev x)) {eff:Eff}
  (h:aop P ρ X.σ (.call { callee:=.builtin b,args:=args,argTypes:=tys })=some eff):Got E E0 P X w (execOp ev o) eff:=by
 have key:∃ x y,args=#[x,y]∧q8a mx (ρ x) (ρ y)=some eff:=by
  rcases hb with ⟨rfl,rfl⟩ | ⟨rfl,rfl⟩
  all_goals
   simp only[aop]at h
   split at h
   ·rename_i x y ha
    exact ⟨x,y,by cases args; simp at ha; simp[ha],h⟩
   ·cases h
 obtain ⟨x,y,rfl,hm⟩:=key
 obtain ⟨k,k',m,n,h1,h2,rfl⟩:=qot hm
 have hx1:=hx x (by simp)
 have hy1:=hx y (by simp)
 rw[h1]at hx1
 rw[h2]at hy1
 obtain ⟨e1,_⟩:=q1s hx1
 obtain ⟨e2,_⟩:=q1s hy1
 rcases hb with ⟨rfl,rfl⟩ | ⟨rfl,rfl⟩
 ·refine qn hi (u:=.int k (if n > m then n else m)) ?_ (q1t rfl)
  simp[execOp,ho,resolve,invoke,builtin,Builtin.max_,Builtin.max2,e1,e2]
 ·refine qn hi (u:=.int k (if n < m then n else m)) ?_ (q1t rfl)
  simp[execOp,ho,resolve,invoke,builtin,Builtin.min_,Builtin.min2,e1,e2]
theorem qmi:∀ {l:List AC} {ps:List PV},pvs l=some ps→l=ps.map AC.pv
 | [],ps,h=>by simp[pvs]at h; subst h; rfl
 | c::r,ps,h=>by
  cases c <;> simp[pvs]at h
  obtain ⟨l,h,rfl⟩:=h
  rw[qmi h]; rfl
theorem qmw {α β:Type} (f:α→β) (l:List α):∀ n,replic (l.map f) n=(replic l n).map f
 | 0=>by simp[replic]
 | n+1=>by simp[replic,qmw f l n]
theorem qh2:∀ {l:List PV} {us:List Value},All2 (CRep X w) (l.map AC.pv) us→All2 (PRep X.prot w) l us
 | [],[],_=>trivial
 | _::_,_::_,h=>⟨h.1,qh2 h.2⟩
 | [],_::_,h=>h.elim
 | _::_,[],h=>h.elim
theorem qtr {o : Oper} {t : TypeId} {len : Nat} {parts : Array (Nat × Operand)} (ho : o.op = .buildSlice t len parts) (hi : Inv E E0 X w) (hx : ∀ x ∈ parts.toList, TRep X w (ρ x.2) (ev x.2)) {ps : List PV} {e : TypeId} {sz by_ : Nat} (he0 : elem? P t = some (e, sz, by_)) (h0 : 0 < len) (hlen : ps.length = len * sz)
    (h : aop P ρ X.σ (.buildSlice t len parts) = some (.val (.one (.cell (.pv (.sl true len ps)))))) : Got E E0 P X w (execOp ev o) (.new (.arr ps sz 0) fun id => .one (.cell (.own id ps.length 0 len))) := by
  simp only [aop] at h
  split at h
  · rename_i e' sz' by' l he hl
    rw [he0] at he
    simp only [Option.some.injEq, Prod.mk.injEq] at he
    obtain ⟨rfl, rfl, rfl⟩ := he
    rw [if_neg (by omega)] at h
    split at h
    · rename_i z hz
      split at h
      · rename_i hcond
        obtain ⟨hc1, hc2, hc3⟩ := hcond
        simp only [Option.bind_eq_some_iff, Option.map_eq_some_iff] at h
        obtain ⟨cs, hf, ps', hps, h⟩ := h
        obtain ⟨inf, hu, hi1, hi2, _⟩ := q4r he0
        have hsz : size? P e = some sz := by simp [size?, hi1, hi2]
        obtain ⟨inf', v, hi1', hv, rfl⟩ := q6n hz
        have hzr := q4z (X := X) (w := w) v
        have hzc : All2 (CRep X w) (q4y v).cells v.cells.toList := by
          cases v with
          | agg cs => obtain ⟨us, e, hc⟩ := hzr; obtain rfl : cs = us := by simpa using e
                      exact hc
          | _ => exact ⟨hzr, trivial⟩
        have hpr := qbp hx hl
        have h0' : 0 < sz := Nat.pos_of_mul_pos_left hc2
        have hrr := qft hzc (by rw [hc3]; exact h0') len
        rw [hc3] at hrr
        obtain ⟨us', h1, h2⟩ := q8s (pl' := fun i => some (i * sz, sz)) rfl hf hrr hpr
        split at h
        · cases h
        · rename_i hown
          obtain rfl : ps' = ps := by simpa using h
          obtain ⟨m1, m2, m3, m4⟩ := q97 cs hi h2
          have hps' : frzL (q2u X.σ cs) cs = some ps' := by rw [q8t m3]; exact hps
          have hpp := q73 m1 hps' (h2.imp fun _ _ => CRep.ext m2) m4
          rw [qbk (by simpa using hown)] at hpp
          have hrun : (execOp ev o).run P w = .ok (.value (.slice (some ⟨w.heap.size, 0, none⟩) len len)) (w.alloc (.cells us' e (0, 0))) := by
            have hn1 : ¬ (16777216 < len * sz) := by omega
            have hn2 : ¬ (len * sz = 0) := by omega
            simp [execOp, ho, Instr.buildSlice, run_underlying hu, run_sizeOf' hsz, hn1, q7u hi1' hv, hn2]
            rw [h1]
            simp [newRow]
          refine q63 (us := us'.toList) (rest := #[]) (T := e) (n := len) (cap := len) (Still.refl w) hpp hlen (Nat.le_refl _) (by simp) ?_
          simpa using hrun
      · cases h
    · cases h
  · cases h
theorem qu5 {o:Oper} {t:TypeId} {l c:Operand} (ho:o.op=.makeSlice t l c) (hl:TRep X w (ρ l) (ev l)) (hc:TRep X w (ρ c) (ev c)) {eff:Eff}
  (h:aop P ρ X.σ (.makeSlice t l c)=some eff):Got E E0 P X w (execOp ev o) eff:=by
 simp only[aop]at h
 unfold q6s at h
 split at h
 ·rename_i e sz by_ n m he hn hm
  obtain ⟨kn,hn⟩:=q77 hn
  obtain ⟨km,hm⟩:=q77 hm
  rw[hn]at hl
  rw[hm]at hc
  have hl:ev l=.int kn n:=by have:=hl; simp only[TRep,q9,CRep,PRep]at this; exact this.1
  have hc:ev c=.int km m:=by have:=hc; simp only[TRep,q9,CRep,PRep]at this; exact this.1
  obtain ⟨i,hu,hi1,hi2,hi3⟩:=q4r he
  subst hi2 hi3
  split at h
  ·rename_i z hz
   obtain ⟨i',zv,hi1',hzv,rfl⟩:=q6n hz
   rw[hi1]at hi1'
   obtain rfl:i=i':=by simpa using hi1'
   split at h
   ·rename_i hcond
    obtain ⟨h1,h2,h3,h4,h5,h6⟩:=hcond
    have hzc:=(q4z (X:=X) (w:=w) zv).cells h6
    obtain ⟨hzc,_⟩:=hzc
    have hby:(i.bytes:Int)*m≤281474976710656:=by
     have:((m.toNat*i.bytes:Nat):Int)≤140737488355328:=by omega
     rw[Int.natCast_mul,Int.toNat_of_nonneg h1]at this
     rw[Int.mul_comm]; omega
    have run:∀ {q:Int},ev l=.int kn q→0≤q→q≤m→(execOp ev o).run P w=.ok (.value (.slice (some ⟨w.heap.size,0,none⟩) q.toNat m.toNat)) (w.alloc (.cells (madeCells zv.cells (m.toNat*i.size)) e)):=by
     intro q hq hq0 hq1
     have hr:=run_make (P:=P) w t e i zv hu hi1 hzv kn km q m hq0 hq1 hby h3
     simp[execOp,ho,hq,hc,hr]
    split at h
    ·rename_i h0
     subst h0
     simp at h; subst h
     have hr:=run hl (Int.le_refl _) h1
     refine q63 (us:=[]) (rest:=madeCells zv.cells (m.toNat*i.size)) (T:=e) (n:=0) (cap:=m.toNat) (Still.refl w) trivial (by simp) (Nat.zero_le _) (by simp[size_madeCells]) ?_
     simpa using hr
    ·split at h
     ·rename_i _ hnm
      subst hnm
      simp only[Option.map_eq_some_iff]at h
      obtain ⟨zs,hzs,rfl⟩:=h
      have hzs:=qmi hzs
      rw[hzs]at hzc h4
      have hrep:=qft hzc (by rw[h4]; exact h5) n.toNat
      rw[qmw]at hrep
      have hrep:=qh2 hrep
      have hr:=run hl h1 (Int.le_refl _)
      rw[h4]at hrep
      refine q63 (us:=(madeCells zv.cells (n.toNat*i.size)).toList) (rest:=#[]) (T:=e) (n:=n.toNat) (cap:=n.toNat) (Still.refl w) hrep ?_ (Nat.le_refl _) (by simp) ?_
      ·rw[qbu]; simp at h4; rw[h4]
      ·simpa using hr
     ·cases h
   ·cases h
  ·cases h
 ·cases h
end Abs
end Go.Proofs.YtpidpioifnnllaaGreatDoor
namespace Go.Proofs.YtpidpioifnnllaaGreatDoor
namespace Abs
open Go.RowKit
variable {E : World → Prop} {E0 : Nat} {P : Program} {X : Cx} {w : World} {ρ : Operand → TV} {ev : Operand → Value}
theorem qhr {prot:Nat→Nat→Prop}:∀ {ps:List PV} {us:List Value} {l:List UInt8},q59 ps=some l→All2 (PRep prot w) ps us→us=l.map fun b=>.int .u8 (b.toNat:Int)
 | [],[],l,h,_=>by simp[q59]at h; subst h; rfl
 | [],_::_,_,_,h=>h.elim
 | _::_,[],_,_,h=>h.elim
 | p::ps,u::us,l,h,hu=>by
  unfold q59 at h
  split at h
  ·rename_i e; cases e
  ·rename_i n r e
   simp only[List.cons.injEq]at e
   obtain ⟨rfl,rfl⟩:=e
   split at h
   ·rename_i hn
    simp only[Option.map_eq_some_iff]at h
    obtain ⟨l',h1,rfl⟩:=h
    have h0:PRep prot w (.sc (.int .u8 n)) u:=hu.1
    unfold PRep at h0
    obtain ⟨rfl,_⟩:=h0
    rw[qhr h1 hu.2,List.map_cons]
    have e:((UInt8.ofNat n.toNat).toNat:Int)=n:=by
     rw[UInt8.toNat_ofNat_of_lt' (show n.toNat < 256 by omega)]
     omega
    rw[e]
   ·cases h
  ·cases h
theorem qtu {o:Oper} {src dst:TypeId} {x:Operand} (ho:o.op=.convert src dst x) (hi:Inv E E0 X w) (hx:TRep X w (ρ x) (ev x)) {eff:Eff} (h1:scalar (ρ x)=none) (h:aop P ρ X.σ (.convert src dst x)=some eff):Got E E0 P X w (execOp ev o) eff:=by
 simp only[aop,h1,Option.map_eq_some_iff]at h
 obtain ⟨r,h2,rfl⟩:=h
 unfold qa5 at h2
 split at h2
 ·rename_i e c hs hd hc
  rw[q1a hc]at hx
  split at h2
  ·rename_i n ps he hso
   split at h2
   ·rename_i hn
    simp only[Option.map_eq_some_iff]at h2
    obtain ⟨l,hl,rfl⟩:=h2
    rcases qni hi hso hx with ⟨hu,rfl,rfl⟩ | ⟨a,cp,us,hu,ha,hcell⟩
    ·simp[q59]at hl; subst hl
     refine qn hi (u:=.string ⟨#[]⟩) ?_ (q1t rfl)
     rw[execOp,ho]
     simp only[hu]
     have:=run_convert_bytes_string w src dst e none 0 0 hs he hd
     simp[this,Conv.bytesToString]
     rfl
    ·have hus:=qhr hl ha
     subst hus
     have hln:l.length=n:=by have:=ha.length; simp at this; omega
     have hr:=run_convert_bytes_back (P:=P) w src dst e a cp l hs he hd (fun j hj=>hcell j _ (by simp[List.getElem?_eq_getElem hj]))
     rw[hln]at hr
     refine qn hi (u:=.string ⟨l.toArray⟩) ?_ (q1t rfl)
     simp[execOp,ho,hu,hr]
   ·cases h2
  ·cases h2
 ·cases h2
theorem q6u {o:Oper} (hi:Inv E E0 X w) (hE:∀ w w',E w→Below E0 w w'→E w') (hx:∀ x ∈ o.op.operands.toList,TRep X w (ρ x) (ev x)) {eff:Eff} (h:aop P ρ X.σ o.op=some eff):Got E E0 P X w (execOp ev o) eff:=by
 cases hop:o.op with
 | move x=>rw[hop]at h hx; simp[aop]at h; subst h; exact qlw (.inl hop) hi (hx x (by simp[Op.operands]))
 | assign x=>rw[hop]at h hx; simp[aop]at h; subst h; exact qlw (.inr hop) hi (hx x (by simp[Op.operands]))
 | pick c a b=>rw[hop]at h hx; exact qu8 hop hi (hx c (by simp[Op.operands])) (hx a (by simp[Op.operands])) (hx b (by simp[Op.operands])) h
 | alloc t=>rw[hop]at h; exact qtn hop h
 | box t x=>rw[hop]at h hx; exact op_box hop (hx x (by simp[Op.operands])) h
 | build t parts=>rw[hop]at h hx; exact qtq hop hi (fun y hy=>hx y.2 (by simp only[Op.operands,List.toList_toArray]; exact List.mem_map.2 ⟨y,hy,rfl⟩)) h
 | buildSlice t n parts=>rw[hop]at h hx; exact qts hop hi hE (fun y hy=>hx y.2 (by simp only[Op.operands,List.toList_toArray]; exact List.mem_map.2 ⟨y,hy,rfl⟩)) h
 | load t a=>rw[hop]at h hx; exact qu0 hop hi (hx a (by simp[Op.operands])) h
 | store t a x=>rw[hop]at h hx; exact qua hop hi hE (hx a (by simp[Op.operands])) (hx x (by simp[Op.operands])) h
 | nilCheck x=>rw[hop]at h hx; exact qu7 hop hi (hx x (by simp[Op.operands])) h
 | binOp op t x y t'=>rw[hop]at h hx; exact qtp hop hi (hx x (by simp[Op.operands])) (hx y (by simp[Op.operands])) h
 | unOp op t x=>rw[hop]at h hx; exact qub hop hi (hx x (by simp[Op.operands])) h
 | convert s d x =>
  rw[hop]at h hx
  cases h1:scalar (ρ x) with
  | some v=>exact qtt hop hi (hx x (by simp[Op.operands])) h1 h
  | none=>exact qtu hop hi (hx x (by simp[Op.operands])) h1 h
 | makeInterface t x=>rw[hop]at h hx; exact qu3 hop hi (hx x (by simp[Op.operands])) h
 | makeFunc fn first captured =>
  rw[hop]at h hx
  cases fn with
  | func f=>exact qu2 hop hi (fun y hy=>hx y (by simp[Op.operands]; exact .inr (by simpa using hy))) h
  | _=>simp[aop]at h
 | makeMap t r=>rw[hop]at h hx; exact qu4 hop hi hE (fun y hy=>hx y (by subst hy; simp[Op.operands])) h
 | lookup t m k ok=>rw[hop]at h hx; exact qu1 hop hi (hx m (by simp[Op.operands])) (hx k (by simp[Op.operands])) h
 | mapUpdate t m k x=>rw[hop]at h hx; exact qu6 hop hi hE (hx m (by simp[Op.operands])) (hx k (by simp[Op.operands])) (hx x (by simp[Op.operands])) h
 | makeSlice t l c=>rw[hop]at h hx; exact qu5 hop (hx l (by simp[Op.operands])) (hx c (by simp[Op.operands])) h
 | slice t x lo hi' mx =>
  rw[hop]at h hx
  exact qu9 hop hi (hx x (by simp[Op.operands])) (fun y hy=>hx y (by subst hy; simp[Op.operands])) (fun y hy=>hx y (by subst hy; simp[Op.operands])) (fun y hy=>hx y (by subst hy; simp[Op.operands])) h
 | fieldAddr s x f=>rw[hop]at h hx; exact qtx hop hi (hx x (by simp[Op.operands])) h
 | field s x f=>rw[hop]at h hx; exact qtw hop hi (hx x (by simp[Op.operands])) h
 | indexAddr t x i=>rw[hop]at h hx; exact qtz hop hi (hx x (by simp[Op.operands])) (hx i (by simp[Op.operands])) h
 | index t x i=>rw[hop]at h hx; exact qty hop hi (hx x (by simp[Op.operands])) (hx i (by simp[Op.operands])) h
 | extract t i=>rw[hop]at h hx; exact qtv hop hi (hx t (by simp[Op.operands])) h
 | call c =>
  rw[hop]at h hx
  obtain ⟨callee,args,tys⟩:=c
  cases callee with
  | builtin b =>
   cases b with
   | len=>exact op_len hop hi (fun y hy=>hx y (by simp[Op.operands,Call.operands]; simpa using hy)) h
   | append=>exact qto hop hi hE (fun y hy=>hx y (by simp[Op.operands,Call.operands]; simpa using hy)) h
   | max=>exact op_mm hop true (.inl ⟨rfl,rfl⟩) hi (fun y hy=>hx y (by simp[Op.operands,Call.operands]; simpa using hy)) h
   | min=>exact op_mm hop false (.inr ⟨rfl,rfl⟩) hi (fun y hy=>hx y (by simp[Op.operands,Call.operands]; simpa using hy)) h
   | _=>simp[aop]at h
  | _=>simp[aop]at h
 | _=>rw[hop]at h; simp[aop]at h
def evT (G:Nat→Option (List PV)) (T:List TV):Operand→TV
 | .tmp t=>T.getD t qw
 | .const v=>.one (q4y v)
 | .global g=>match G g with
  | some cs=>.one (.cell (.pv (.pp cs)))
  | none=>.one (.cell .any)
 | .func f=>Abs.sc (.func (.func f) #[] #[])
def putT (T:List TV) (d:Option Tmp) (v:TV):List TV :=
 match d with
 | some d=>T.set d v
 | none=>T
def effσ (σ:Sto):Eff→Sto
 | .val _=>σ
 | .new ob _=>σ++[some ob]
 | .upd σ' _=>σ'
def effV (σ:Sto):Eff→TV
 | .val v=>v
 | .new _ f=>f σ.length
 | .upd _ v=>v
def enters (P : Program) (g : FuncId) : Bool := match P.funcs[g]? with | some fn => !(fn.name == "runtime.NumGoroutine") && fn.body.isSome | none => false
inductive CallEff (E:World→Prop) (E0:Nat) (P:Program) (σ:Sto) (g:FuncId) (args:List AV):Eff→Prop
 | val {args':List AV} {r:TV}:q17 σ args=some args'→enters P g=true→Pure E E0 P g args' r→r.flat=true∨args.any AV.owns=false→CallEff E E0 P σ g args (.val r)
 | mark {args':List AV} {r:TV}:q17 σ args=some args'→enters P g=true→Pure E E0 P g args' r→CallEff E E0 P σ g args (.upd (q1o σ args) r)
 | share {r:TV} {σ':Sto}:enters P g=true→Ok E E0 P g args σ r σ'→CallEff E E0 P σ g args (.upd σ' r)
 | adopt {args':List AV} {r:TV} {σ':Sto}:q17 σ args=some args'→enters P g=true→Ok E E0 P g args' (q1o σ args) r σ'→CallEff E E0 P σ g args (.upd σ' r)
def q4o:TV→Option (FuncId×List AV)
 | .one (.cell (.pv (.sc (.func (.func g) first captured))))=>if first.isEmpty && captured.isEmpty then some (g,[]) else none
 | .one (.cell (.fn g caps))=>some (g,q4p caps)
 | _=>none
def OpA (E:World→Prop) (E0:Nat) (P:Program) (ρ:Operand→TV) (σ:Sto) (o:Op) (K:Eff→Prop):Prop :=
 match o with
 | .call { callee:=.value f,args,.. }=>match q4o (ρ f),q2m ρ args.toList with
  | some (g,caps),some l=>∃ eff,CallEff E E0 P σ g (l++caps) eff∧K eff
  | _,_=>False
 | o=>match aop P ρ σ o with
  | some eff=>K eff
  | none=>False
def Dies (E:World→Prop) (E0:Nat) (P:Program) (σ:Sto) (g:FuncId) (args:List AV) (v:Value):Prop :=
 ∀ (X:Cx) (w:World) (vs:List Value),X.σ=σ→(∀ id,¬ X.pend id)→Inv E E0 X w→All2 (q9 X w) args vs →
  Calls P g vs.toArray w fun e w'=>e=.panicked [{ v:=v,recovered:=false }]∧∃ X',(∀ id,¬ X'.pend id)∧Inv E E0 X' w'∧Ext X w X' w'
def q5x (E:World→Prop) (E0:Nat) (P:Program) (ρ:Operand→TV) (σ:Sto) (o:Op) (D:Value→Prop):Prop :=
 match o with
 | .call { callee:=.value f,args,.. }=>match q4o (ρ f),q2m ρ args.toList with
  | some (g,caps),some l=>∃ v,enters P g=true∧Dies E E0 P σ g (l++caps) v∧D v
  | _,_=>False
 | _=>False
def qda (P:Program) (ρ:Operand→TV) (σ:Sto) (o:Op):Option (List PV×Nat×Nat) :=
 match o with
 | .buildSlice t len parts=>match elem? P t,aop P ρ σ (.buildSlice t len parts) with
  | some (_,sz,_),some (.val (.one (.cell (.pv (.sl true n ps)))))=>if n=len∧0 < len∧ps.length=len*sz then some (ps,sz,len) else none
  | _,_=>none
 | _=>none
def qch (P:Program) (ρ:Operand→TV) (σ:Sto) (o:Op) (K:Eff→Prop):Prop :=
 ∃ ps sz len,qda P ρ σ o=some (ps,sz,len)∧K (.new (.arr ps sz 0) fun id=>.one (.cell (.own id ps.length 0 len)))
def qz (ops:Array Oper) (T:List TV) (o:Oper):Option Bool :=
 match o.guard with
 | none=>some true
 | some (j,want) =>
  match (ops[j]?).bind (·.dst) with
  | none=>some false
  | some d =>
   match T[d]? with
   | some (.one (.cell (.pv (.sc (.bool b)))))=>some (b == want)
   | some (.one (.cell .undef))=>some false
   | _=>none
def asq (E:World→Prop) (E0:Nat) (P:Program) (G:Nat→Option (List PV)) (ops:Array Oper):List Oper→List TV→Sto→(List TV→Sto→Prop)→Prop
 | [],T,σ,K=>K T σ
 | o::r,T,σ,K =>
  match qz ops T o with
  | some true=>OpA E E0 P (evT G T) σ o.op (fun eff=>asq E E0 P G ops r (putT T o.dst (effV σ eff)) (effσ σ eff) K)∨(q5x E E0 P (evT G T) σ o.op fun v=>K [.dead v] [])∨qch P (evT G T) σ o.op fun eff=>asq E E0 P G ops r (putT T o.dst (effV σ eff)) (effσ σ eff) K
  | some false=>asq E E0 P G ops r (putT T o.dst qw) σ K
  | none=>False
end Abs
end Go.Proofs.YtpidpioifnnllaaGreatDoor
namespace Go.Proofs.YtpidpioifnnllaaGreatDoor
namespace Abs
open Go.RowKit
variable {E : World → Prop} {E0 : Nat} {P : Program} {X : Cx} {w : World} {G : Nat → Option (List PV)}
def GRep (E:World→Prop) (E0:Nat) (G:Nat→Option (List PV)):Prop:=∀ w,E w→∀ g cs,G g=some cs→qh (fun b _=>b < E0) w g 0 cs
structure Frm (X:Cx) (w:World) (T:List TV) (a:Act):Prop where
 len:T.length=a.tmps.size
 rep:∀ (i:Nat) (t:TV) (u:Value),T[i]?=some t→a.tmps[i]?=some u→TRep X w t u
 defers:a.defers=[]
theorem q74 (hi:Inv E E0 X w) {b o:Nat} (h:b < E0):X.prot b o:=.inl ⟨Nat.lt_of_lt_of_le h hi.e0,hi.glob b o h⟩
theorem q39 (hG:GRep E E0 G) (hi:Inv E E0 X w) {T:List TV} {a:Act} (hf:Frm X w T a) (x:Operand):TRep X w (evT G T x) (a.eval x):=by
 cases x with
 | tmp t =>
  show TRep X w (T.getD t qw) (a.tmps.getD t undef)
  rcases Nat.lt_or_ge t T.length with h | h
  ·have h':t < a.tmps.size:=by rw[← hf.len]; exact h
   have e1:T[t]?=some T[t]:=List.getElem?_eq_getElem h
   have e2:a.tmps[t]?=some a.tmps[t]:=Array.getElem?_eq_getElem h'
   have:=hf.rep t _ _ e1 e2
   simpa [List.getD,e1,Array.getD,h'] using this
  ·have h':¬ t < a.tmps.size:=by rw[← hf.len]; exact Nat.not_lt.2 h
   have e1:T[t]?=none:=List.getElem?_eq_none h
   simp only[List.getD,e1,Option.getD_none,Array.getD,dif_neg h']
   rfl
 | const v=>exact q4z v
 | global g =>
  show TRep X w (match G g with | some cs=>.one (.cell (.pv (.pp cs))) | none=>.one (.cell .any)) _
  cases hg:G g with
  | none=>trivial
  | some cs =>
   show PRep X.prot w (.pp cs) _
   unfold PRep
   exact ⟨g,0,rfl,qh.mono (fun b o h=>⟨q74 hi h,rfl⟩) (hG w hi.env g cs hg)⟩
 | func f=>exact q1t rfl
theorem qcg {ops:Array Oper} {T:List TV} {a:Act} (hf:Frm X w T a) {o:Oper} {b:Bool} (h:qz ops T o=some b):Region.wanted o (yielded ops a.tmps)=b:=by
 unfold qz at h
 unfold Region.wanted
 split at h
 ·rename_i hg; simp at h; rw[hg]; exact h.symm
 ·rename_i j want hg
  rw[hg]
  simp only
  unfold yielded
  split at h
  ·rename_i hd
   simp at h
   rw[hd]; simp[← h]
  ·rename_i d hd
   rw[hd]
   simp only[Option.bind_some]
   split at h
   ·rename_i c hT
    simp at h
    have hlt:d < a.tmps.size:=by
     rw[← hf.len]
     rcases Nat.lt_or_ge d T.length with k | k
     ·exact k
     ·rw[List.getElem?_eq_none k]at hT; cases hT
    have e2:a.tmps[d]?=some a.tmps[d]:=Array.getElem?_eq_getElem hlt
    obtain ⟨hu,_⟩:=q1s (hf.rep d _ _ hT e2)
    rw[e2,hu]
    simp[← h]
   ·rename_i hT
    simp at h
    have hlt:d < a.tmps.size:=by
     rw[← hf.len]
     rcases Nat.lt_or_ge d T.length with k | k
     ·exact k
     ·rw[List.getElem?_eq_none k]at hT; cases hT
    have e2:a.tmps[d]?=some a.tmps[d]:=Array.getElem?_eq_getElem hlt
    have hu:a.tmps[d]=undef:=hf.rep d _ _ hT e2
    rw[e2,hu]
    simp[← h,undef]
   ·cases h
theorem q5f {X':Cx} {w':World} {T:List TV} {a:Act} (hf:Frm X w T a) (he:Ext X w X' w') {v:TV} {u:Value} (hv:TRep X' w' v u) (d:Option Tmp):Frm X' w' (putT T d v) (a.put d u):=by
 cases d with
 | none=>exact ⟨hf.len,fun i t u h1 h2=>TRep.ext he (hf.rep i t u h1 h2),hf.defers⟩
 | some d =>
  refine ⟨by simp[putT,Act.put,hf.len],fun i t u' h1 h2=>?_,hf.defers⟩
  simp only[putT,List.getElem?_set]at h1
  simp only[Act.put,Array.getElem?_setIfInBounds]at h2
  by_cases hid:d=i
  ·subst hid
   rw[if_pos rfl]at h1 h2
   split at h1
   ·split at h2
    ·simp at h1 h2; rw[← h1,← h2]; exact hv
    ·cases h2
   ·cases h1
  ·rw[if_neg hid]at h1 h2
   exact TRep.ext he (hf.rep i t u' h1 h2)
theorem q6l:TRep X w qw undef:=rfl
theorem q76 (hi:Inv E E0 X w) (hE:∀ w w',E w→Below E0 w w'→E w') (hn:∀ id,¬ X.pend id) {s:Sem Next} {eff:Eff} (h:Got E E0 P X w s eff) :
  ∃ u w' X',qa4 P s w u w'∧X'.σ=effσ X.σ eff∧(∀ id,¬ X'.pend id)∧Inv E E0 X' w'∧Ext X w X' w'∧TRep X' w' (effV X.σ eff) u:=by
 cases eff with
 | val v =>
  obtain ⟨u,w',h1,h2,h3⟩:=h
  exact ⟨u,w',{ X with hs:=w'.heap.size },h1,rfl,hn,q3p hi h2 (hE _ _ hi.env (h2.mono (Nat.le_trans hi.e0 hi.b0))),q2p hi h2,h3⟩
 | new ob f =>
  obtain ⟨w1,cs,T,u,hs,h1,h2,hbr,h3⟩:=h
  obtain ⟨si,se⟩:=q6j hi hE hs
  have pi:=quu si ob
  have pe:=qfm (w:=w1) (X:=X) ob
  have hsz:w1.heap.size=w.heap.size:=by rw[hs.heap]
  have hid:(X.plan ob).σ[X.σ.length]?=some (some ob):=by simp[Cx.plan]
  have hr:q2l (X.plan ob) w1 ob cs:=fun i c e=>(h2 i c e).imp fun u hu=>⟨hu.1,CRep.ext (se.trans pe) hu.2⟩
  have bi:=qdd pi hE (id:=X.σ.length) (.inr rfl) hid hbr cs T hr
  have be:=qai pi (id:=X.σ.length) (.inr rfl) cs T
  have ht:=h3 (X.plan ob) X.σ.length hid
  rw[hsz]at bi be
  refine ⟨u,_,_,h1,rfl,fun id k=>?_,bi,(se.trans pe).trans be,ht⟩
  rcases k.1 with k1 | k1
  ·exact hn id k1
  ·exact k.2 k1
 | upd σ' v =>
  obtain ⟨u,w',X',h1,h2,h3,h4,h5,h6⟩:=h hn
  exact ⟨u,w',X',h1,h2,fun id=>by rw[h3]; exact hn id,h4,h5,h6⟩
theorem q8d (hG:GRep E E0 G) (hi:Inv E E0 X w) {T:List TV} {a:Act} (hf:Frm X w T a):∀ {l:List Operand} {vs:List AV},q2m (evT G T) l=some vs→All2 (q9 X w) vs (l.map a.eval)
 | [],vs,h=>by simp[q2m]at h; subst h; trivial
 | x::r,vs,h=>by
  simp only[q2m,Option.bind_eq_some_iff,Option.map_eq_some_iff]at h
  obtain ⟨v,h1,l,h2,rfl⟩:=h
  have h0:=q39 hG hi hf x
  rw[q64 h1]at h0
  exact ⟨h0,q8d hG hi hf h2⟩
theorem q5s {o:Oper} {f:Operand} {args:Array Operand} {tys:Array TypeId} (ho:o.op=.call { callee:=.value f,args:=args,argTypes:=tys }) {ev:Operand→Value} {g:FuncId} {us:Array Value} (hf:ev f=.func (.func g) #[] us) (hg:enters P g=true) (w:World) :
  (execOp ev o).run P w=.ok (.enter g (args.map ev++us)) w:=by
 unfold enters at hg
 split at hg
 ·rename_i fn hfn
  cases hb:fn.body with
  | none=>simp[hb]at hg
  | some c =>
   simp[hb]at hg
   simp[execOp,ho,resolve,Deferred.ofValue,hf,invoke,callFunc,hfn,hg,hb]
 ·cases hg
theorem q5a {t:TV} {u:Value} {g:FuncId} {l:List AV} (h:q4o t=some (g,l)) (hr:TRep X w t u):∃ us,u=.func (.func g) #[] us∧All2 (q9 X w) l us.toList:=by
 unfold q4o at h
 split at h
 ·rename_i g' first captured
  split at h
  ·rename_i he
   simp at h he
   obtain ⟨rfl,rfl⟩:=h
   obtain ⟨rfl,rfl⟩:=he
   exact ⟨#[],(q1s hr).1,trivial⟩
  ·cases h
 ·rename_i g' caps
  simp at h
  obtain ⟨rfl,rfl⟩:=h
  obtain ⟨us,hu,hc⟩:=hr
  refine ⟨us,hu,?_⟩
  refine All2.of_get (by simpa [q4p] using hc.length) fun i v u' h1 h2=>?_
  simp[q4p]at h1
  obtain ⟨a,b,c,h3,rfl⟩:=h1
  obtain ⟨u2,h4,h5⟩:=hc.get i _ h3
  rw[h2]at h4
  obtain rfl:u'=u2:=by simpa using h4
  exact h5
 ·cases h
theorem qe3 (hi:Inv E E0 X w) {v v':AV} {u:Value} (h:frzV X.σ v=some v') (hv:q9 X w v u) (hm:∀ c ∈ v.cells,∀ id ver off len,c=.own id ver off len→Marked X.σ id) {Y:Cx} (hY:∀ b o,X.prot b o→Y.prot b o):q9 Y w v' u:=by
 cases v with
 | cell c =>
  simp only[frzV,Option.map_eq_some_iff]at h
  obtain ⟨p,h1,rfl⟩:=h
  exact PRep.mono (fun b o k=>⟨hY b o k,rfl⟩) (qe1 hi h1 hv (hm c (by simp[AV.cells])))
 | agg cs =>
  simp only[frzV,Option.map_eq_some_iff]at h
  obtain ⟨ps,h1,rfl⟩:=h
  obtain ⟨us,hu,hc⟩:=hv
  refine ⟨us,hu,?_⟩
  have:=q73 hi h1 hc hm
  refine All2.of_get (by simpa using this.length) fun i c u hc hu=>?_
  simp at hc
  obtain ⟨p,hp,rfl⟩:=hc
  obtain ⟨u',hu',hr⟩:=this.get i p hp
  rw[hu]at hu'
  obtain rfl:u=u':=by simpa using hu'
  exact PRep.mono (fun b o k=>⟨hY b o k,rfl⟩) hr
theorem q8u (hi:Inv E E0 X w) {Y:Cx} (hY:∀ b o,X.prot b o→Y.prot b o):∀ {vs vs':List AV} {us:List Value},q17 X.σ vs=some vs'→All2 (q9 X w) vs us→(∀ v ∈ vs,∀ c ∈ v.cells,∀ id ver off len,c=.own id ver off len→Marked X.σ id)→All2 (q9 Y w) vs' us
 | [],vs',us,h,hv,_=>by
  simp[q17]at h; subst h
  cases us with
  | nil=>trivial
  | cons _ _=>exact hv.elim
 | v::vs,vs',[],_,hv,_=>hv.elim
 | v::vs,vs',u::us,h,hv,hm=>by
  simp only[q17,Option.bind_eq_some_iff,Option.map_eq_some_iff]at h
  obtain ⟨x,h1,l,h2,rfl⟩:=h
  exact ⟨qe3 hi h1 hv.1 (hm v (by simp)) hY,q8u hi hY h2 hv.2 fun y hy=>hm y (by simp[hy])⟩
theorem qi4 {v:AV} {u:Value} (h:q9 X w v u):∃ us,All2 (CRep X w) v.cells us:=by
 cases v with
 | cell c=>exact ⟨[u],h,trivial⟩
 | agg cs=>obtain ⟨us,_,hc⟩:=h; exact ⟨us.toList,hc⟩
theorem qf4:∀ (vs:List AV) {us:List Value} {X:Cx},Inv E E0 X w→All2 (q9 X w) vs us →
  Inv E E0 { X with σ:=q1o X.σ vs } w∧Ext X w { X with σ:=q1o X.σ vs } w∧Frozen X.σ (q1o X.σ vs)∧∀ v ∈ vs,∀ c ∈ v.cells,∀ id ver off len,c=.own id ver off len→Marked (q1o X.σ vs) id
 | [],us,X,hi,_=>⟨hi,Ext.refl _ _,Frozen.refl _,fun _ h=>by simp at h⟩
 | v::r,[],X,_,h=>h.elim
 | v::r,u::us,X,hi,h=>by
  obtain ⟨cs,hcs⟩:=qi4 h.1
  obtain ⟨h1,h2,h3,h4⟩:=q97 v.cells hi hcs
  obtain ⟨k1,k2,k3,k4⟩:=qf4 r h1 (h.2.imp fun _ _=>q9.ext h2)
  refine ⟨k1,h2.trans k2,h3.trans k3,fun d hd c hc id ver off len e=>?_⟩
  rcases List.mem_cons.1 hd with rfl | hd
  ·exact k3.marked _ (h4 c hc id ver off len e)
  ·exact k4 d hd c hc id ver off len e
theorem qf3 {σ:Sto}:∀ {vs:List AV},vs.any AV.owns=false→q1o σ vs=σ
 | [],_=>rfl
 | v::r,h=>by
  simp only[List.any_cons,Bool.or_eq_false_iff]at h
  rw[q1o,q98,qbk h.1]
  exact qf3 h.2
theorem qay {σ σ':Sto} (h:Frozen σ σ'):∀ vs,q17 σ' vs=q17 σ vs
 | []=>rfl
 | v::r=>by
  have:frzV σ' v=frzV σ v:=by cases v <;> simp only[frzV,h.frz,q8t h]
  simp only[q17,this,qay h r]
theorem qj3 {Y:Cx} {w':World} {c:AC} {u:Value} (hf:c.flat=true) (h:CRep X w c u):CRep Y w' c u:=by
 cases c with
 | pv x=>cases x with
  | sc v=>unfold CRep PRep at h ⊢; exact h
  | _=>simp[AC.flat]at hf
 | _=>simp[AC.flat]at hf
theorem qj6 {Y:Cx} {w':World} {v:AV} {u:Value} (hf:v.flat=true) (h:q9 X w v u):q9 Y w' v u:=by
 cases v with
 | cell c=>exact qj3 hf h
 | agg cs =>
  obtain ⟨us,hu,hc⟩:=h
  refine ⟨us,hu,All2.of_get hc.length fun i c u h1 h2=>?_⟩
  obtain ⟨u',h3,h4⟩:=hc.get i c h1
  rw[h2]at h3
  obtain rfl:u=u':=by simpa using h3
  simp[AV.flat]at hf
  exact qj3 (hf c (List.mem_of_getElem? h1)) h4
theorem qj5 {Y:Cx} {w':World} {v:TV} {u:Value} (hf:v.flat=true) (h:TRep X w v u):TRep Y w' v u:=by
 cases v with
 | one v=>exact qj6 hf h
 | tup vs =>
  obtain ⟨us,hu,hc⟩:=h
  refine ⟨us,hu,All2.of_get hc.length fun i c u h1 h2=>?_⟩
  obtain ⟨u',h3,h4⟩:=hc.get i c h1
  rw[h2]at h3
  obtain rfl:u=u':=by simpa using h3
  simp[TV.flat]at hf
  exact qj6 (hf c (List.mem_of_getElem? h1)) h4
 | dead v=>exact h.elim
end Abs
end Go.Proofs.YtpidpioifnnllaaGreatDoor
