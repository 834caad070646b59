/-
  Contracts of the reference's functions on values: text, node, check, Check.
-/
import Derived.Test.YtpidpioifnnllaaGreatDoorValA
import Derived.Test.YtpidpioifnnllaaGreatDoorUtf
import Derived.Test.YtpidpioifnnllaaGreatDoorShaped
import Derived.Test.YtpidpioifnnllaaGreatDoorNumG
import Derived.Deep.QuietTactic
import Derived.BigQuiet
import Derived.WalkSmall
namespace Go.Proofs.YtpidpioifnnllaaGreatDoor
open Go.RowKit
def vtext (s:ByteArray):Int:=if 4096 < s.size then 3 else if utfB s then 0 else 1
set_option maxHeartbeats 1000000 in
theorem qn2 (s:ByteArray) (w:World) (hs:s.size≤140737488351232) :
  Calls Tryz.prog 91 #[.string s] w fun e w'=>e=.returned (.int .i64 (vtext s))∧Below w.heap.size w w':=by
 by_cases h:4096 < s.size
 ·have HV:=Lib.hid (show vtext s=3 by unfold vtext; rw[if_pos h])
  have h':(4096:Int) < s.size:=by omega
  go_enter Tryz.func91,Tryz.ntmps91
  go_wp2_with fail
  go_ret
  exact ⟨by rw[HV.out]; rfl,Below.refl _ _⟩
 ·have h':¬ (4096:Int) < s.size:=by omega
  cases hu:utfB s
  ·have HV:=Lib.hid (show vtext s=1 by unfold vtext; rw[if_neg h,hu]; rfl)
   have HU:=Lib.hid hu
   clear hu
   go_enter Tryz.func91,Tryz.ntmps91
   go_wp2_with fail
   refine (qn4 s w hs).mono ?_
   rw[HU.out]
   rintro e w1 ⟨rfl,hb⟩
   have HB:=Lib.hid hb
   clear hb
   go_wp2_with fail
   go_ret
   exact ⟨by rw[HV.out]; rfl,HB.out⟩
  ·have HV:=Lib.hid (show vtext s=0 by unfold vtext; rw[if_neg h,hu]; rfl)
   have HU:=Lib.hid hu
   clear hu
   go_enter Tryz.func91,Tryz.ntmps91
   go_wp2_with fail
   refine (qn4 s w hs).mono ?_
   rw[HU.out]
   rintro e w1 ⟨rfl,hb⟩
   have HB:=Lib.hid hb
   clear hb
   go_wp2_with fail
   go_ret
   exact ⟨by rw[HV.out]; rfl,HB.out⟩
def ltB (a b:ByteArray):Bool:=Op.bytesLess a.toList b.toList
def q1f:Option ByteArray→List ByteArray→Int
 | _,[]=>0
 | p,s::r=>if vtext s≠0 then vtext s else if (match p with | none=>false | some q=>!ltB q s)=true then 1 else q1f (some s) r
def q19 (x:Val):Int:=if q3e x=false then 1 else if x.kind=2∧NumPlain.validB x.num=false then 5 else if vtext x.str≠0 then vtext x.str else q1f none x.keys
def q51 (l:List ByteArray) (j:Nat):Option ByteArray:=if j=0 then none else l[j - 1]?
theorem q7p (l:List ByteArray) (j:Nat) (h:j < l.length):q51 l (j+1)=some l[j]:=by
 unfold q51; rw[if_neg (by omega)]; simp[h]
set_option maxRecDepth 100000 in
set_option maxHeartbeats 1000000 in
theorem qvt (x:Val):∀ (w:World) (v:Value),q1l w v x→x.Fits→True →
  Calls Tryz.prog 58 #[v] w fun e w'=>e=.returned (.int .i64 (q19 x))∧Below w.heap.size w w':=by
 cases x with
 | mk k n s items keys =>
  intro w v hv hf _
  obtain ⟨vi,vk,rfl,hk,hi⟩:=(q4v _ _ _ _ _ _ _).1 hv
  obtain ⟨ka,kc,rfl,hkc⟩:=hk.slice
  obtain ⟨ia,ic,rfl,hic⟩:=hi.slice
  obtain ⟨f1,f2,f3,f4,f5,f6,f7⟩:=hf.parts
  simp only[Val.kind,Val.num,Val.str,Val.keys,Val.items]at f1 f2 f3 f4 f5 f6 f7
  have HV:=Lib.hid hv
  have HFF:=Lib.hid hf
  have HI:=Lib.hid hi
  have HK:=Lib.hid hk
  have HF:=Lib.hid f7
  have HG:=Lib.hid f6
  clear hv hk hi f6 f7 hf
  have HN:=Lib.hid (show q19 (.mk k n s items keys)=if q3e (.mk k n s items keys)=false then 1 else if k=2∧NumPlain.validB n=false then 5 else if vtext s≠0 then vtext s else q1f none keys from rfl)
  cases hsh:q3e (.mk k n s items keys) with
  | false =>
   have HSH:=Lib.hid hsh
   clear hsh
   go_enter Tryz.func58,Tryz.ntmps58
   go_wp2_with fail
   refine (qfv (.mk k n s items keys) _ _ (HV.out.keep (q3h _ _))).mono ?_
   rw[HSH.out]
   rintro e w1 ⟨rfl,hb1⟩
   have HB1:=Lib.hid (q3v hb1)
   clear hb1
   go_wp2_with fail
   go_ret
   exact ⟨by rw[HN.out,HSH.out]; rfl,HB1.out⟩
  | true =>
   have HSH:=Lib.hid hsh
   clear hsh
   by_cases hr:k=2∧NumPlain.validB n=false
   ·have t2:(k == 2)=true:=beq_iff_eq.2 hr.1
    have HR:=Lib.hid hr
    clear hr
    go_enter Tryz.func58,Tryz.ntmps58
    go_wp2_with fail
    refine (qfv (.mk k n s items keys) _ _ (HV.out.keep (q3h _ _))).mono ?_
    rw[HSH.out]
    rintro e w1 ⟨rfl,hb1⟩
    have HB1:=Lib.hid (q3v hb1)
    have hbx:=q4n hb1
    have c0:w1.cell? ⟨w.heap.size,0,none⟩=some (.int .i64 k):=qe hbx 0
    have c1:w1.cell? ⟨w.heap.size,1,none⟩=some (.int .i64 n):=qe hbx 1
    clear hb1 hbx
    go_wp2_with fail
    refine (q3q _ _).mono ?_
    rw[HR.out.2]
    rintro e w' ⟨rfl,rfl⟩
    go_wp2_with fail
    go_ret
    exact ⟨by rw[HN.out,HSH.out,if_neg (by decide),if_pos HR.out]; rfl,HB1.out⟩
   ·have HT:=Lib.hid (show q19 (.mk k n s items keys)=if vtext s≠0 then vtext s else q1f none keys by rw[HN.out,HSH.out,if_neg (by decide),if_neg hr])
    clear HN
    have key:∀ w1:World,w1.heap[w.heap.size]?=some (.cells #[.int .i64 k,.int .i64 n,.string s,.slice ia items.length ic,.slice ka keys.length kc] 26 (0,0))→Below w.heap.size w w1→True:=fun _ _ _=>trivial
    clear key
    by_cases hk2:k=2
    all_goals
     first | have t2:(k == 2)=true:=beq_iff_eq.2 hk2 | have t2:(k == 2)=false:=beq_eq_false_iff_ne.2 hk2
     have HVB:Hid ((k == 2)=true→NumPlain.validB n=true):=fun h=>by
      cases hv:NumPlain.validB n
      ·exact absurd ⟨beq_iff_eq.1 h,hv⟩ hr
      ·rfl
     clear hk2 hr
     go_enter Tryz.func58,Tryz.ntmps58
     go_wp2_with fail
     refine (qfv (.mk k n s items keys) _ _ (HV.out.keep (q3h _ _))).mono ?_
     rw[HSH.out]
     rintro e w1 ⟨rfl,hb1⟩
     have HB1:=Lib.hid (q3v hb1)
     have HBX:=Lib.hid (q4n hb1)
     have c0:w1.cell? ⟨w.heap.size,0,none⟩=some (.int .i64 k):=qe HBX.out 0
     have c1:w1.cell? ⟨w.heap.size,1,none⟩=some (.int .i64 n):=qe HBX.out 1
     have c2:w1.cell? ⟨w.heap.size,2,none⟩=some (.string s):=qe HBX.out 2
     clear hb1
     go_wp2_with (go_at_call 81; refine (q3q _ _).mono ?_; rw[HVB.out t2]; rintro e w' ⟨rfl,rfl⟩)
     refine (qn2 s _ f3).mono ?_
     generalize hvt:vtext s=vt at *
     rintro e w2 ⟨rfl,hb2⟩
     have HB2:=Lib.hid (HB1.out.trans (hb2.mono HB1.out.size))
     have HBX2:=Lib.hid (qah hb2 HBX.out)
     have c4:w2.cell? ⟨w.heap.size,4,none⟩=some (.slice ka keys.length kc):=qe HBX2.out 4
     clear hb2 c0 c1 c2 HB1 HBX t2 HVB
     have HVT:=Lib.hid hvt
     clear hvt
     by_cases hz:vt=0
     ·subst hz
      go_wp2_with fail
      have HE:Hid (q19 (.mk k n s items keys)=q1f none keys):=by rw[Hid,HT.out,if_neg (by decide)]
      clear HT HVT
      go_loopw [4] (fun i wr=>∃ j:Nat,j≤keys.length∧i=.int .i64 j∧q1f (q51 keys j) (keys.drop j)=q1f none keys∧wr.heap[w.heap.size]?=some (.cells #[.int .i64 k,.int .i64 n,.string s,.slice ia items.length ic,.slice ka keys.length kc] 26 (0,0))∧Below w.heap.size w wr) (fun i _=>keys.length - (intOf i).toNat)
      case atStart=>exact ⟨0,Nat.zero_le _,rfl,rfl,HBX2.out,HB2.out⟩
      case round =>
       obtain ⟨j,hj,rfl,hm,hbx,hbe⟩:=hrel
       have HM:=Lib.hid hm
       have HBX3:=Lib.hid hbx
       have HBE:=Lib.hid hbe
       have c4:wr.cell? ⟨w.heap.size,4,none⟩=some (.slice ka keys.length kc):=qe hbx 4
       clear hm hbx hbe
       by_cases hlt:j < keys.length
       ·obtain ⟨b,off,rfl,d0⟩:=(HK.out.keep HBE.out).at j hlt
        have HD:=Lib.hid (qap hlt)
        have hsz:=HG.out _ (List.getElem_mem hlt)
        have HKL:=Lib.hid (show q1f (q51 keys j) (keys[j]::keys.drop (j+1))=if vtext keys[j]≠0 then vtext keys[j] else if (match q51 keys j with | none=>false | some q=>!ltB q keys[j])=true then 1 else q1f (some keys[j]) (keys.drop (j+1)) from rfl)
        go_wp2_with fail
        refine (qn2 keys[j] _ hsz).mono ?_
        generalize hvt:vtext keys[j]=vt at *
        rintro e w3 ⟨rfl,hb3⟩
        have HB3:=Lib.hid (HBE.out.trans (hb3.mono HBE.out.size))
        have HBX4:=Lib.hid (qah hb3 HBX3.out)
        have c5:w3.cell? ⟨w.heap.size,4,none⟩=some (.slice (some ⟨b,off,none⟩) keys.length kc):=qe HBX4.out 4
        have d1:=q2i hb3 d0
        clear hb3 c4 d0
        by_cases hz:vt=0
        ·subst hz
         by_cases h0:j=0
         ·subst h0
          go_wp2_with fail
          go_quiet (fail)
          go_wp2_with fail
          go_roundw
          case rel=>exact ⟨1,by omega,by go_num,by rw[← HM.out,HD.out,HKL.out,if_neg (by decide)]; rw[q7p keys 0 hlt]; rfl,HBX4.out,below_drewN HB3.out _⟩
          case measure=>simp[intOf]; omega
         ·have hj1:j - 1 < keys.length:=by omega
          obtain ⟨b2,off2,e2,d2⟩:=(HK.out.keep HB3.out).at (j - 1) hj1
          obtain ⟨rfl,rfl⟩:b2=b∧off2=off:=by simpa using e2.symm
          obtain ⟨i,rfl⟩:∃ i,j=i+1:=⟨j - 1,by omega⟩
          simp only[Nat.add_sub_cancel]at d2 hj1
          have HP:=Lib.hid (q7p keys i hj1)
          cases hl:Op.bytesLess keys[i].toList keys[i+1].toList
          ·have HL:=Lib.hid (show ltB keys[i] keys[i+1]=false from hl)
           go_wp2_with fail
           go_quiet (fail)
           go_wp2_with fail
           go_ret
           exact ⟨by rw[HE.out,← HM.out,HD.out,HKL.out,if_neg (by decide),HP.out]; simp only[HL.out]; rfl,below_drewN HB3.out _⟩
          ·have HL:=Lib.hid (show ltB keys[i] keys[i+1]=true from hl)
           go_wp2_with fail
           go_quiet (fail)
           go_wp2_with fail
           go_roundw
           case rel=>exact ⟨i+1+1,by omega,by go_num,by rw[← HM.out,HD.out,HKL.out,if_neg (by decide),HP.out,q7p keys (i+1) hlt]; simp only[HL.out]; rfl,HBX4.out,below_drewN HB3.out _⟩
           case measure=>simp[intOf]; omega
        ·have tz:(vt != 0)=true:=by simpa using hz
         have HZ:=Lib.hid hz
         clear hz
         go_wp2_with fail
         go_ret
         exact ⟨by rw[HE.out,← HM.out,HD.out,HKL.out,if_pos HZ.out]; rfl,HB3.out⟩
       ·obtain rfl:j=keys.length:=by omega
        go_wp2_with fail
        go_ret
        exact ⟨by rw[HE.out,← HM.out]; simp[q1f],HBE.out⟩
     ·have tz:(vt != 0)=true:=by simpa using hz
      have HZ:=Lib.hid hz
      clear hz
      go_wp2_with fail
      go_ret
      exact ⟨by rw[HT.out,if_pos HZ.out]; rfl,HB2.out⟩
mutual
/-- The error of a value at a level,and the number of nodes up to its end. -/
def qy:Val→Int→Int→Int×Int
 | .mk k n s items keys,lv,before=>if 32 < lv then (4,before) else if 4096≤before then (14,before) else if q19 (.mk k n s items keys)≠0 then (q19 (.mk k n s items keys),before) else q1e items (lv+1) (before+1)
def q1e:List Val→Int→Int→Int×Int
 | [],_,n=>(0,n)
 | x::r,lv,n=>if (qy x lv n).1≠0 then qy x lv n else q1e r lv (qy x lv n).2
end
def q1y (x:Val):Int:=(qy x 1 0).1
theorem q8k (x:Val) (lv before:Int):qy x lv before=if 32 < lv then (4,before) else if 4096≤before then (14,before) else if q19 x≠0 then (q19 x,before) else q1e x.items (lv+1) (before+1):=by cases x; simp only[qy,Val.items]
mutual
theorem q8j:∀ (x:Val) (lv before:Int),0≤before→before≤4096→before≤(qy x lv before).2∧(qy x lv before).2≤4096
 | .mk k n s items keys,lv,before,h,h'=>by
  simp only[qy]
  split
  ·exact ⟨Int.le_refl _,h'⟩
  ·split
   ·exact ⟨Int.le_refl _,h'⟩
   ·split
    ·exact ⟨Int.le_refl _,h'⟩
    ·have:=qdi items (lv+1) (before+1) (by omega) (by omega)
     omega
theorem qdi:∀ (l:List Val) (lv n:Int),0≤n→n≤4096→n≤(q1e l lv n).2∧(q1e l lv n).2≤4096
 | [],lv,n,h,h'=>by simp only[q1e]; omega
 | x::r,lv,n,h,h'=>by
  simp only[q1e]
  have h1:=q8j x lv n h h'
  split
  ·exact h1
  ·have:=qdi r lv (qy x lv n).2 (by omega) (by omega)
   omega
end
set_option maxRecDepth 100000 in
set_option maxHeartbeats 1000000 in
theorem qv9 (x:Val):∀ (w:World) (v:Value) (lv before:Int),q1l w v x→x.Fits→0≤lv→lv≤1000→0≤before→before≤4096 →
  Calls Tryz.prog 35 #[v,.int .i64 lv,.int .i64 before] w fun e w'=>e=.returned (.tuple #[.int .i64 (qy x lv before).1,.int .i64 (qy x lv before).2])∧Below w.heap.size w w':=by
 induction x using Val.ind with
 | h k n s items keys ih =>
  intro w v lv before hv hf g1 g2 g3 g4
  have IH:=Lib.hid ih
  clear ih
  obtain ⟨vi,vk,rfl,hk,hi⟩:=(q4v _ _ _ _ _ _ _).1 hv
  obtain ⟨ka,kc,rfl,hkc⟩:=hk.slice
  obtain ⟨ia,ic,rfl,hic⟩:=hi.slice
  obtain ⟨f1,f2,f3,f4,f5,f6,f7⟩:=hf.parts
  simp only[Val.kind,Val.num,Val.str,Val.keys,Val.items]at f1 f2 f3 f4 f5 f6 f7
  have HV:=Lib.hid hv
  have HFF:=Lib.hid hf
  have HI:=Lib.hid hi
  have HK:=Lib.hid hk
  have HF:=Lib.hid f7
  have HG:=Lib.hid f6
  clear hv hk hi f6 f7 hf
  have HS:=Lib.hid (q8k (.mk k n s items keys) lv before)
  by_cases h1:32 < lv
  ·go_enter Tryz.func35,Tryz.ntmps35
   go_wp2_with fail
   go_ret2
   exact ⟨by rw[HS.out,if_pos h1]; rfl,(Below.refl _ _).alloc (Nat.le_refl _) _⟩
  ·by_cases h2:4096≤before
   ·go_enter Tryz.func35,Tryz.ntmps35
    go_wp2_with fail
    go_ret2
    exact ⟨by rw[HS.out,if_neg (by omega),if_pos h2]; rfl,(Below.refl _ _).alloc (Nat.le_refl _) _⟩
   ·have HT:=Lib.hid (show qy (.mk k n s items keys) lv before=if q19 (.mk k n s items keys)≠0 then (q19 (.mk k n s items keys),before) else q1e items (lv+1) (before+1) by rw[HS.out,if_neg h1,if_neg h2]; rfl)
    go_enter Tryz.func35,Tryz.ntmps35
    go_wp2_with fail
    refine (qvt (.mk k n s items keys) _ _ (HV.out.keep (q3h _ _)) HFF.out trivial).mono ?_
    generalize hne:q19 (.mk k n s items keys)=ne at *
    rintro e w1 ⟨rfl,hb1⟩
    have HB1:=Lib.hid (q3v hb1)
    have HBX:=Lib.hid (q4n hb1)
    clear hb1 HS
    by_cases hz:ne=0
    ·subst hz
     have HC:Hid (qy (.mk k n s items keys) lv before=q1e items (lv+1) (before+1)):=by rw[Hid,HT.out,if_neg (by decide)]
     clear HT hne
     go_wp2_with fail
     go_loopw [9,10] (fun n' i wr=>∃ (j:Nat) (m:Int),j≤items.length∧i=.int .i64 j∧n'=.int .i64 m∧0≤m∧m≤4096∧q1e (items.drop j) (lv+1) m=q1e items (lv+1) (before+1)∧wr.heap[w.heap.size]?=some (.cells #[.int .i64 k,.int .i64 n,.string s,.slice ia items.length ic,.slice ka keys.length kc] 26 (0,0))∧Below w.heap.size w wr) (fun _ i _=>items.length - (intOf i).toNat)
     case atStart=>exact ⟨0,before+1,Nat.zero_le _,rfl,rfl,by omega,by omega,rfl,HBX.out,HB1.out⟩
     case round =>
      obtain ⟨j,m,hj,rfl,rfl,hm1,hm2,hm,hbx,hbe⟩:=hrel
      have HM:=Lib.hid hm
      have HBX3:=Lib.hid hbx
      have HBE:=Lib.hid hbe
      have c3:wr.cell? ⟨w.heap.size,3,none⟩=some (.slice ia items.length ic):=qe hbx 3
      clear hm hbx hbe
      by_cases hlt:j < items.length
      ·obtain ⟨b,off,rfl,v0,v1,v2,v3,v4,d0,d1,d2,d3,d4,hx⟩:=(HI.out.keep HBE.out).at j hlt
       have HX:=Lib.hid hx
       have HD:=Lib.hid (qap hlt)
       have HL:=Lib.hid (show q1e (items[j]::items.drop (j+1)) (lv+1) m=if (qy items[j] (lv+1) m).1≠0 then qy items[j] (lv+1) m else q1e (items.drop (j+1)) (lv+1) (qy items[j] (lv+1) m).2 from by simp only[q1e])
       have hbd:=q8j items[j] (lv+1) m (by omega) (by omega)
       have hdeep:lv+1≤1000:=by omega
       clear hx
       go_wp2_with fail
       refine (IH.out _ (List.getElem_mem hlt) _ _ _ _ HX.out (HF.out _ (List.getElem_mem hlt)) (by omega) (by omega) (by omega) (by omega)).mono ?_
       generalize qy items[j] (lv+1) m=r at *
       obtain ⟨re,rn⟩:=r
       rintro e w2 ⟨rfl,hb2⟩
       have HB2:=Lib.hid hb2
       clear hb2 c3 d0 d1 d2 d3 d4
       simp only at hbd
       by_cases hz:re=0
       ·subst hz
        go_wp2_with fail
        go_roundw
        case rel=>exact ⟨j+1,rn,by omega,by go_num,rfl,by omega,by omega,by rw[← HM.out,HD.out,HL.out,if_neg (by decide)],qah HB2.out HBX3.out,HBE.out.trans (HB2.out.mono HBE.out.size)⟩
        case measure=>simp[intOf]; omega
       ·have tz:(re != 0)=true:=by simpa using hz
        have HZ:=Lib.hid hz
        clear hz
        go_wp2_with fail
        go_ret2
        exact ⟨by rw[HC.out,← HM.out,HD.out,HL.out,if_pos HZ.out]; rfl,HBE.out.trans (HB2.out.mono HBE.out.size)⟩
      ·obtain rfl:j=items.length:=by omega
       go_wp2_with fail
       go_ret2
       exact ⟨by rw[HC.out,← HM.out]; simp[q1e],HBE.out⟩
    ·have tz:(ne != 0)=true:=by simpa using hz
     have HZ:=Lib.hid hz
     clear hz
     go_wp2_with fail
     go_ret2
     exact ⟨by rw[HT.out,if_pos HZ.out]; rfl,HB1.out⟩
set_option maxHeartbeats 1000000 in
theorem qv6 (x:Val) (w:World) (v:Value) (hv:q1l w v x) (hf:x.Fits) :
  Calls Tryz.prog 21 #[v] w fun e w'=>e=.returned (.int .i64 (q1y x))∧Below w.heap.size w w':=by
 have HV:=Lib.hid hv
 have HF:=Lib.hid hf
 have HC:=Lib.hid (show q1y x=(qy x 1 0).1 from rfl)
 obtain ⟨vi,vk,rfl,hk,hi⟩:=hv.open
 clear hv hf hk hi
 go_enter Tryz.func21,Tryz.ntmps21
 go_wp2_with fail
 refine (qv9 x _ _ _ _ (HV.out.keep (q3h _ _)) HF.out (by omega) (by omega) (by omega) (by omega)).mono ?_
 rintro e w1 ⟨rfl,hb1⟩
 have HB1:=Lib.hid (q3v hb1)
 clear hb1
 go_wp2_with fail
 go_ret
 exact ⟨by rw[HC.out]; rfl,HB1.out⟩
end Go.Proofs.YtpidpioifnnllaaGreatDoor
