/-
  Contracts of the program's functions on values: value.Check.
-/
import Derived.Test.YtpidpioifnnllaaGreatDoorValB
import Derived.Test.YtpidpioifnnllaaGreatDoorValD
import Derived.Laws.EntriesVeiled
namespace Go.Proofs.YtpidpioifnnllaaGreatDoor
open Go.RowKit
theorem q1l.shape {w:World} {v:Value} {x:Val} (h:q1l w v x):∃ (k n:Int) (s:ByteArray) (ia:Option Addr) (il ic:Nat) (ka:Option Addr) (kl kc:Nat),v=.agg #[.int .i64 k,.int .i64 n,.string s,.slice ia il ic,.slice ka kl kc]:=by
 cases x with
 | mk k n s items keys =>
  obtain ⟨vi,vk,rfl,hk,hi⟩:=(q4v _ _ _ _ _ _ _).1 h
  obtain ⟨ka,kc,rfl,_⟩:=hk.slice
  obtain ⟨ia,ic,rfl,_⟩:=hi.slice
  exact ⟨_,_,_,_,_,_,_,_,_,rfl⟩
theorem agg5 {a b c d e a' b' c' d' e':Value} (h:Value.agg #[a,b,c,d,e]=.agg #[a',b',c',d',e']):a=a'∧b=b'∧c=c'∧d=d'∧e=e':=by simpa using h
theorem box3 (w:World) (a b c:Obj):(((w.alloc a).alloc b).alloc c).heap[w.heap.size+1]?=some b∧(((w.alloc a).alloc b).alloc c).heap[w.heap.size+2]?=some c:=by
 have e1:(w.alloc a).heap.size=w.heap.size+1:=by simp
 have e2:((w.alloc a).alloc b).heap.size=w.heap.size+2:=by simp
 exact ⟨by rw[Below.heap_alloc _ _ _ (by omega),← e1]; exact q46 _ _,by rw[← e2]; exact q46 _ _⟩
structure Kept (g:Nat) (w w':World):Prop where
 os:w'.os=w.os
 tape:w'.tape=w.tape
 output:w'.output=w.output
 size:w.heap.size≤w'.heap.size
 block:∀ k,k < w.heap.size→k≠g→w'.heap[k]?=w.heap[k]?
theorem Kept.trans {g:Nat} {a b c:World} (h:Kept g a b) (k:Kept g b c):Kept g a c :=
 ⟨k.os.trans h.os,k.tape.trans h.tape,k.output.trans h.output,Nat.le_trans h.size k.size,fun i hi hg=>(k.block i (Nat.lt_of_lt_of_le hi h.size) hg).trans (h.block i hi hg)⟩
theorem Kept.of {g:Nat} {w w':World} (h:Below w.heap.size w w'):Kept g w w':=⟨h.os,h.tape,h.output,h.size,fun k hk _=>h.block k hk⟩
theorem Kept.set (g:Nat) (w:World) (u:Value):Kept g w (w.setCell ⟨g,0,none⟩ u):=⟨rfl,rfl,rfl,by simp[World.setCell],fun k _ hg=>Below.heap_setCell _ _ _ _ hg⟩
theorem Kept.below {g B:Nat} {w0 w w':World} (hb:Below B w0 w) (h:Kept g w w') (hg:B≤g) (hs:B≤w.heap.size):Below B w0 w' :=
 hb.trans ⟨h.os,h.tape,h.output,h.size,fun k hk=>h.block k (by omega) (by omega)⟩
set_option maxRecDepth 100000 in
set_option maxHeartbeats 1000000 in
theorem qwx (x:Val):∀ (w0 w:World) (v:Value) (gC gV:Nat) (lv n:Int),q1l w0 v x→x.Fits→EnvV w0→Below w0.heap.size w0 w→w0.heap.size≤gC→gC≠gV→w.heap[gC]?=some (.cells #[.int .i64 n] 3 (0,0))→w.heap[gV]?=some (.cells #[.func (.func 43) #[] #[.pointer (some ⟨gC,0,none⟩),.pointer (some ⟨gV,0,none⟩)]] 75 (0,0))→0≤lv→lv≤1000→0≤n→n≤4096 →
  Calls Tryz.prog 43 #[v,.int .i64 lv,.pointer (some ⟨gC,0,none⟩),.pointer (some ⟨gV,0,none⟩)] w fun e w'=>e=.returned (.int .i64 (qy x lv n).1)∧Kept gC w w'∧∃ m,w'.heap[gC]?=some (.cells #[.int .i64 m] 3 (0,0))∧((qy x lv n).1=0→m=(qy x lv n).2):=by
 induction x using Val.ind with
 | h k n s items keys ih =>
  intro w0 w v gC gV lv c hv hf hE hb hgC hne' hC hVc g1 g2 g3 g4
  have IH:=Lib.hid ih
  have HE:=Lib.hid hE
  have HB:=Lib.hid hb
  have HC:=Lib.hid hC
  have HVC:=Lib.hid hVc
  have hlC:=lt_of_block hC
  have hlV:=lt_of_block hVc
  have hsz:=hb.size
  clear ih hE hb
  obtain ⟨vi,vk,rfl,hk,hi⟩:=(q4v _ _ _ _ _ _ _).1 hv
  obtain ⟨ka,kc,rfl,hkc⟩:=hk.slice
  obtain ⟨ia,ic,rfl,hic⟩:=hi.slice
  obtain ⟨f1,f2,f3,f4,f5,f6,f7⟩:=hf.parts
  simp only[Val.kind,Val.num,Val.str,Val.keys,Val.items]at f1 f2 f3 f4 f5 f6 f7
  have HV:=Lib.hid hv
  have HFF:=Lib.hid hf
  have HI:=Lib.hid hi
  have HK:=Lib.hid hk
  have HF:=Lib.hid f7
  have HG:=Lib.hid f6
  clear hv hk hi f6 f7 hf
  have HS:=Lib.hid (q8k (.mk k n s items keys) lv c)
  by_cases h1:32 < lv
  ·go_enter Tryz.func43,Tryz.ntmps43
   go_wp2_with fail
   go_ret
   exact ⟨by rw[HS.out,if_pos h1]; rfl,.of ((Below.refl _ _).alloc (Nat.le_refl _) _),c,by rw[Below.heap_alloc _ _ _ hlC]; exact HC.out,fun h=>by rw[HS.out,if_pos h1]at h; exact absurd (show (4:Int)=0 from h) (by decide)⟩
  ·have cc:(w.alloc (.cells #[.int .i64 k,.int .i64 n,.string s,.slice ia items.length ic,.slice ka keys.length kc] 26 (0,0))).cell? ⟨gC,0,none⟩=some (.int .i64 c):=cell_of_one (t:=3) (by rw[Below.heap_alloc _ _ _ hlC]; exact HC.out)
   by_cases h2:4096≤c
   ·go_enter Tryz.func43,Tryz.ntmps43
    go_wp2_with fail
    go_ret
    exact ⟨by rw[HS.out,if_neg (by omega),if_pos h2]; rfl,.of ((Below.refl _ _).alloc (Nat.le_refl _) _),c,by rw[Below.heap_alloc _ _ _ hlC]; exact HC.out,fun h=>by rw[HS.out,if_neg (by omega),if_pos h2]at h; exact absurd (show (14:Int)=0 from h) (by decide)⟩
   ·have fr:(w.alloc (.cells #[.int .i64 k,.int .i64 n,.string s,.slice ia items.length ic,.slice ka keys.length kc] 26 (0,0))).frozen? ⟨gC,0,none⟩=false:=free_of_one (v:=.int .i64 c) (t:=3) (by rw[Below.heap_alloc _ _ _ hlC]; exact HC.out)
    have HT:=Lib.hid (show qy (.mk k n s items keys) lv c=if q19 (.mk k n s items keys)≠0 then (q19 (.mk k n s items keys),c) else q1e items (lv+1) (c+1) by rw[HS.out,if_neg h1,if_neg h2]; rfl)
    clear HS
    go_enter Tryz.func43,Tryz.ntmps43
    go_upto_region 6 with fail
    have HK1:=Lib.hid (show Kept gC w ((w.setCell ⟨gC,0,none⟩ (.int .i64 (c+1))).alloc (.cells #[.int .i64 k,.int .i64 n,.string s,.slice ia items.length ic,.slice ka keys.length kc] 26 (0,0))) from (Kept.set _ _ _).trans (.of ((Below.refl _ _).alloc (Nat.le_refl _) _)))
    have hsz1:(w.setCell ⟨gC,0,none⟩ (.int .i64 (c+1))).heap.size=w.heap.size:=by simp[World.setCell]
    have HC1:=Lib.hid (show ((w.setCell ⟨gC,0,none⟩ (.int .i64 (c+1))).alloc (.cells #[.int .i64 k,.int .i64 n,.string s,.slice ia items.length ic,.slice ka keys.length kc] 26 (0,0))).heap[gC]?=some (.cells #[.int .i64 (c+1)] 3 (0,0)) by rw[Below.heap_alloc _ _ _ (by omega)]; exact one_setCell HC.out)
    have HX1:=Lib.hid (show ((w.setCell ⟨gC,0,none⟩ (.int .i64 (c+1))).alloc (.cells #[.int .i64 k,.int .i64 n,.string s,.slice ia items.length ic,.slice ka keys.length kc] 26 (0,0))).heap[w.heap.size]?=some (.cells #[.int .i64 k,.int .i64 n,.string s,.slice ia items.length ic,.slice ka keys.length kc] 26 (0,0)) by rw[← hsz1]; exact q46 _ _)
    have hs1:=HK1.out.size
    clear cc fr
    go_wp2_with fail
    refine (qwy (.mk k n s items keys) _ _ (HV.out.keep (HK1.out.below HB.out hgC hsz)) HFF.out (HE.out.keep (HK1.out.below HB.out hgC hsz))).mono ?_
    generalize hne:q19 (.mk k n s items keys)=ne at *
    rintro e w2 ⟨rfl,hb2⟩
    have HK2:=Lib.hid (HK1.out.trans (.of hb2))
    have HC2:=Lib.hid ((hb2.block gC (lt_of_block HC1.out)).trans HC1.out)
    have HX2:=Lib.hid ((hb2.block w.heap.size (lt_of_block HX1.out)).trans HX1.out)
    have c3:w2.cell? ⟨w.heap.size,3,none⟩=some (.slice ia items.length ic):=qe HX2.out 3
    clear hb2 HK1 HC1 HX1 hsz1 hs1
    by_cases hz:ne=0
    ·subst hz
     have HCC:Hid (qy (.mk k n s items keys) lv c=q1e items (lv+1) (c+1)):=by rw[Hid,HT.out,if_neg (by decide)]
     clear HT hne
     go_wp2_with fail
     go_loopw [25] (fun i wr=>∃ (j:Nat) (m:Int),j≤items.length∧i=.int .i64 j∧0≤m∧m≤4096∧q1e (items.drop j) (lv+1) m=q1e items (lv+1) (c+1)∧wr.heap[gC]?=some (.cells #[.int .i64 m] 3 (0,0))∧Kept gC w wr) (fun i _=>items.length - (intOf i).toNat)
     case atStart=>exact ⟨0,c+1,Nat.zero_le _,rfl,by omega,by omega,rfl,HC2.out,HK2.out⟩
     case round =>
      obtain ⟨j,m,hj,rfl,hm1,hm2,hm,hcm,hkp⟩:=hrel
      have HM:=Lib.hid hm
      have HCM:=Lib.hid hcm
      have HKP:=Lib.hid hkp
      have hkz:=hkp.size
      clear hm hcm hkp
      by_cases hlt:j < items.length
      ·obtain ⟨b,off,rfl,v0,v1,v2,v3,v4,d0,d1,d2,d3,d4,hx⟩:=HI.out.at j hlt
       have HBR:=Lib.hid (HKP.out.below HB.out hgC hsz)
       replace d0:=q2i HBR.out d0
       replace d1:=q2i HBR.out d1
       replace d2:=q2i HBR.out d2
       replace d3:=q2i HBR.out d3
       replace d4:=q2i HBR.out d4
       have HX:=Lib.hid hx
       obtain ⟨xk,xn,xs,xia,xil,xic,xka,xkl,xkc,ev⟩:=hx.shape
       obtain ⟨rfl,rfl,rfl,rfl,rfl⟩:=agg5 ev
       have HD:=Lib.hid (qap hlt)
       have HL:=Lib.hid (show q1e (items[j]::items.drop (j+1)) (lv+1) m=if (qy items[j] (lv+1) m).1≠0 then qy items[j] (lv+1) m else q1e (items.drop (j+1)) (lv+1) (qy items[j] (lv+1) m).2 from by simp only[q1e])
       have hbd:=q8j items[j] (lv+1) m (by omega) (by omega)
       have hdeep:lv+1≤1000:=by omega
       have HVR:=Lib.hid ((HKP.out.block gV hlV (Ne.symm hne')).trans HVC.out)
       have hlR:=lt_of_block HVR.out
       have HVA:=Lib.hid (show (wr.alloc (.cells #[.int .i64 xk,.int .i64 xn,.string xs,.slice xia xil xic,.slice xka xkl xkc] 26 (0,0))).heap[gV]?=_ from (Below.heap_alloc _ _ _ hlR).trans HVR.out)
       have HCA:=Lib.hid (show (wr.alloc (.cells #[.int .i64 xk,.int .i64 xn,.string xs,.slice xia xil xic,.slice xka xkl xkc] 26 (0,0))).heap[gC]?=_ from (Below.heap_alloc _ _ _ (lt_of_block HCM.out)).trans HCM.out)
       have HKA:=Lib.hid (show Kept gC w (wr.alloc (.cells #[.int .i64 xk,.int .i64 xn,.string xs,.slice xia xil xic,.slice xka xkl xkc] 26 (0,0))) from HKP.out.trans (.of (q3h _ _)))
       have cv:=cell_of_one HVA.out
       clear hx
       go_wp2_with fail
       refine (IH.out _ (List.getElem_mem hlt) w0 _ _ gC gV (lv+1) m HX.out (HF.out _ (List.getElem_mem hlt)) HE.out (HKA.out.below HB.out hgC hsz) hgC hne' HCA.out HVA.out (by omega) (by omega) (by omega) (by omega)).mono ?_
       generalize qy items[j] (lv+1) m=r at *
       obtain ⟨re,rn⟩:=r
       rintro e w3 ⟨rfl,hk3,m3,hc3,hm3⟩
       have HK3:=Lib.hid (HKA.out.trans hk3)
       have HC3:=Lib.hid hc3
       clear hk3 hc3 cv HVA HCA HKA d0 d1 d2 d3 d4
       simp only at hbd hm3
       by_cases hz:re=0
       ·subst hz
        obtain rfl:=hm3 rfl
        go_wp2_with fail
        go_roundw
        case rel=>exact ⟨j+1,m3,by omega,by go_num,by omega,by omega,by rw[← HM.out,HD.out,HL.out,if_neg (by decide)],HC3.out,HK3.out⟩
        case measure=>simp[intOf]; omega
       ·have tz:(re != 0)=true:=bne_iff_ne.2 hz
        have HZ:=Lib.hid hz
        clear hz hm3
        go_wp2_with fail
        go_ret
        exact ⟨by rw[HCC.out,← HM.out,HD.out,HL.out,if_pos HZ.out]; rfl,HK3.out,m3,HC3.out,fun h=>absurd (by rw[HCC.out,← HM.out,HD.out,HL.out,if_pos HZ.out]at h; exact h) HZ.out⟩
      ·obtain rfl:j=items.length:=by omega
       have hnd:items.drop items.length=[]:=List.drop_length
       have HQ:Hid (q1e items (lv+1) (c+1)=(0,m)):=by rw[Hid,← HM.out,hnd]; rfl
       go_wp2_with fail
       go_ret
       exact ⟨by rw[HCC.out,HQ.out]; rfl,HKP.out,m,HCM.out,fun _=>by rw[HCC.out,HQ.out]⟩
    ·have tz:(ne != 0)=true:=bne_iff_ne.2 hz
     have HZ:=Lib.hid hz
     clear hz
     go_wp2_with fail
     go_ret
     exact ⟨by rw[HT.out,if_pos HZ.out]; rfl,HK2.out,c+1,HC2.out,fun h=>absurd (by rw[HT.out,if_pos HZ.out]at h; exact h) HZ.out⟩
set_option maxRecDepth 100000 in
set_option maxHeartbeats 1000000 in
theorem quj (x:Val) (w:World) (v:Value) (hv:q1l w v x) (hf:x.Fits) (hE:EnvV w) :
  Calls Tryz.prog 26 #[v] w fun e w'=>e=.returned (.int .i64 (q1y x))∧Below w.heap.size w w':=by
 have hmf:∀ (fn:Fn) (first cap:Array Value) (w:World),(Instr.makeFunc fn first cap).run Tryz.prog w=.ok (.func fn first cap) w:=fun _ _ _ _=>rfl
 obtain ⟨k,n,s,ia,il,ic,ka,kl,kc,rfl⟩:=hv.shape
 have HV:=Lib.hid hv
 have HF:=Lib.hid hf
 have HE:=Lib.hid hE
 clear hv hf hE
 go_enter Tryz.func26,Tryz.ntmps26
 go_wp2_with fail
 have hb:Below w.heap.size w (((w.alloc (.cells #[.int .i64 k,.int .i64 n,.string s,.slice ia il ic,.slice ka kl kc] 26 (0,0))).alloc (.cells #[.int .i64 0] 3 (0,0))).alloc (.cells #[.func (.func 43) #[] #[.pointer (some ⟨w.heap.size+1,0,none⟩),.pointer (some ⟨w.heap.size+2,0,none⟩)]] 75 (0,0))):=(((Below.refl _ _).alloc (Nat.le_refl _) _).alloc (by simp) _).alloc (by simp; omega) _
 refine (qwx x w _ _ (w.heap.size+1) (w.heap.size+2) 1 0 HV.out HF.out HE.out hb (by omega) (by omega) ?hc ?hg (by omega) (by omega) (by omega) (by omega)).mono ?_
 case hc=>exact (box3 w _ _ _).1
 case hg=>exact (box3 w _ _ _).2
 rintro e w3 ⟨rfl,hk,_⟩
 have HK:=Lib.hid (hk.below hb (by omega) (by simp; omega))
 clear hk hb
 go_wp2_with fail
 go_ret
 exact ⟨rfl,HK.out⟩
end Go.Proofs.YtpidpioifnnllaaGreatDoor
