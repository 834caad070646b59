/-
  Contracts of the program's functions on values: strlit.Valid, value.text, value.node.
-/
import Derived.Test.YtpidpioifnnllaaGreatDoorValB
import Derived.Test.YtpidpioifnnllaaGreatDoorValC
import Derived.Test.YtpidpioifnnllaaGreatDoorNumG
namespace Go.Proofs.YtpidpioifnnllaaGreatDoor
open Go.RowKit
structure EnvV (w:World):Prop where
 env:Env w
 tabs:Lib.Utf8Tabs (Tryz.lays196_ren.g 3) (Tryz.lays196_ren.g 4) w
 maxlen:∃ m,w.cell? ⟨0,0,none⟩=some (.int .i64 m)
 deb:w.cell? ⟨7,15,none⟩=some (.int .u8 4)
theorem qi2 {w w':World} {g o:Nat} {v:Value} (h:w.cell? ⟨g,o,none⟩=some v) (hb:Below w.heap.size w w'):w'.cell? ⟨g,o,none⟩=some v:=by
 rw[hb.cell,h]
 rcases Nat.lt_or_ge g w.heap.size with k | k
 ·exact k
 ·unfold World.cell? at h
  simp[Array.getElem?_eq_none k]at h
theorem qt7 {w w':World} {g:Nat} (h:∃ m,w.cell? ⟨g,0,none⟩=some (.int .i64 m)) (hb:Below w.heap.size w w'):∃ m,w'.cell? ⟨g,0,none⟩=some (.int .i64 m):=by
 obtain ⟨m,hm⟩:=h
 refine ⟨m,?_⟩
 rw[hb.cell,hm]
 rcases Nat.lt_or_ge g w.heap.size with k | k
 ·exact k
 ·unfold World.cell? at hm
  simp[Array.getElem?_eq_none k]at hm
theorem EnvV.keep {w w':World} (h:EnvV w) (hb:Below w.heap.size w w'):EnvV w' where
 env:=h.1.keep hb
 tabs:=Utf8Tabs_below h.2 hb
 maxlen:=qt7 h.3 hb
 deb:=qi2 h.deb hb
set_option maxHeartbeats 1000000 in
theorem qmh (s:ByteArray) (w:World) (hs:s.size≤140737488351232) (hE:EnvV w) :
  Calls Tryz.prog 106 #[.string s] w fun e w'=>e=.returned (.bool (utfB s))∧Below w.heap.size w w':=by
 have HU:=Lib.hid (show utfB s=(decide (s.size≤4096) && Lib.validD s.data.toList) from rfl)
 have HE:=Lib.hid hE
 clear hE
 by_cases h:s.size≤4096
 ·have h':(s.size:Int)≤4096:=by omega
  go_enter Tryz.func106,Tryz.ntmps106
  go_wp2_with fail
  refine (Tryz.utf8_ValidString s _ (by omega) HE.out.2).mono ?_
  generalize Lib.validD s.data.toList=b at *
  rintro e w1 ⟨rfl,hb⟩
  have HB:=Lib.hid hb
  clear hb
  go_wp2_with fail
  go_ret
  exact ⟨by rw[HU.out,decide_eq_true h]; rfl,HB.out⟩
 ·have h':(4096:Int) < s.size:=by omega
  go_enter Tryz.func106,Tryz.ntmps106
  go_wp2_with fail
  go_ret
  exact ⟨by rw[HU.out,decide_eq_false h]; rfl,Below.refl _ _⟩
set_option maxHeartbeats 1000000 in
theorem qoa (s:ByteArray) (w:World) (hs:s.size≤140737488351232) (hE:EnvV w) :
  Calls Tryz.prog 74 #[.string s] w fun e w'=>e=.returned (.int .i64 (vtext s))∧Below w.heap.size w w':=by
 have HE:=Lib.hid hE
 clear hE
 by_cases h:4096 < s.size
 ·have HV:=Lib.hid (show vtext s=3 by unfold vtext; rw[if_pos h])
  have h':(4096:Int) < s.size:=by omega
  go_enter Tryz.func74,Tryz.ntmps74
  go_wp2_with fail
  go_ret
  exact ⟨by rw[HV.out]; rfl,Below.refl _ _⟩
 ·have h':¬ (4096:Int) < s.size:=by omega
  cases hu:utfB s
  ·have HV:=Lib.hid (show vtext s=1 by unfold vtext; rw[if_neg h,hu]; rfl)
   have HU:=Lib.hid hu
   clear hu
   go_enter Tryz.func74,Tryz.ntmps74
   go_wp2_with fail
   refine (qmh s w hs HE.out).mono ?_
   rw[HU.out]
   rintro e w1 ⟨rfl,hb⟩
   have HB:=Lib.hid hb
   clear hb
   go_wp2_with fail
   go_ret
   exact ⟨by rw[HV.out]; rfl,HB.out⟩
  ·have HV:=Lib.hid (show vtext s=0 by unfold vtext; rw[if_neg h,hu]; rfl)
   have HU:=Lib.hid hu
   clear hu
   go_enter Tryz.func74,Tryz.ntmps74
   go_wp2_with fail
   refine (qmh s w hs HE.out).mono ?_
   rw[HU.out]
   rintro e w1 ⟨rfl,hb⟩
   have HB:=Lib.hid hb
   clear hb
   go_wp2_with fail
   go_ret
   exact ⟨by rw[HV.out]; rfl,HB.out⟩
theorem qgm (s:ByteArray) (h:s.toList.isEmpty=true):vtext s=0:=by
 have e:s.data.toList=[]:=by rw[← toList_data]; simpa using h
 have hz:s.size=0:=by rw[← ByteArray.size_data,← Array.length_toList,e]; rfl
 unfold vtext utfB
 rw[if_neg (by omega),decide_eq_true (by omega),e]; rfl
theorem qko:∀ a b:List UInt8,(Op.bytesLess a b || a == b)=!Op.bytesLess b a
 | [],[]=>rfl
 | [],_::_=>rfl
 | _::_,[]=>rfl
 | a::x,b::y=>by
  have ih:=qko x y
  simp only[Op.bytesLess,List.cons_beq_cons]
  by_cases h1:a < b
  ·have h2:¬ b < a:=by simp only[UInt8.lt_iff_toNat_lt]at *; omega
   have h3:¬ b=a:=by rintro rfl; simp only[UInt8.lt_iff_toNat_lt]at *; omega
   simp[h1,h2,h3]
  ·by_cases h2:b < a
   ·have h3:¬ a=b:=by rintro rfl; simp only[UInt8.lt_iff_toNat_lt]at *; omega
    simp[h1,h2,h3]
   ·have h3:a=b:=UInt8.toNat_inj.1 (by simp only[UInt8.lt_iff_toNat_lt]at *; omega)
    subst h3
    simpa [h1] using ih
theorem q7x {x:Val} (h:q3e x=true):(0≤x.kind∧x.kind≤6)∧(x.kind≠3→x.str.toList.isEmpty=true)∧(x.kind≠4→x.kind≠5→x.items=[])∧(x.kind≠5→x.keys=[])∧(x.kind=5→x.keys.length=x.items.length)∧(x.kind≠2→x.num=0∨(x.kind=1∧x.num=1)):=by
 unfold q3e qd at h
 simp only[Bool.and_eq_true,decide_eq_true_eq]at h
 obtain ⟨⟨⟨⟨⟨h1,h2⟩,h3⟩,h4⟩,h5⟩,h6⟩:=h
 refine ⟨⟨h1,h2⟩,fun h=>?_,fun h h'=>?_,fun h=>?_,fun h=>?_,fun h=>?_⟩
 ·simpa [qu,h] using h4
 ·have:x.items.length=0:=by simp[qt,h,h']at h5; simp[h5]
  exact List.eq_nil_of_length_eq_zero this
 ·have:x.keys.length=0:=by simp[qr,h]at h6; simp[h6]
  exact List.eq_nil_of_length_eq_zero this
 ·simp[qr,h]at h6; omega
 ·simp[qq,h]at h3
  rcases h3 with ⟨h3,h3' | h3'⟩ | h3
  ·exact .inl h3'
  ·exact .inr ⟨h3,h3'⟩
  ·exact .inl h3
theorem qtc {x:Val} (h:q3e x=true):(x.kind=2→q19 x=if NumPlain.validB x.num=false then 5 else 0)∧(x.kind=3→q19 x=vtext x.str)∧(x.kind=5→q19 x=q1f none x.keys)∧(x.kind≠2→x.kind≠3→x.kind≠5→q19 x=0):=by
 obtain ⟨_,h2,_,h4,_,_⟩:=q7x h
 unfold q19
 rw[if_neg (by rw[h]; decide)]
 refine ⟨fun hk=>?_,fun hk=>?_,fun hk=>?_,fun h1 h3 h5=>?_⟩
 ·have e:=qgm x.str (h2 (by omega))
  have k:=h4 (by omega)
  cases hv:NumPlain.validB x.num
  ·rw[if_pos ⟨hk,rfl⟩]; rfl
  ·rw[if_neg (by simp),e,if_neg (by simp),k]; rfl
 ·rw[if_neg (by omega),h4 (by omega)]
  split
  ·rfl
  ·rename_i hz; simp at hz; rw[hz]; rfl
 ·rw[if_neg (by omega),qgm x.str (h2 (by omega)),if_neg (by simp)]
 ·rw[if_neg (by omega),qgm x.str (h2 h3),if_neg (by simp),h4 h5]; rfl
set_option maxRecDepth 100000 in
set_option maxHeartbeats 1000000 in
theorem qwy (x : Val) : ∀ (w : World) (v : Value), q1l w v x → x.Fits → EnvV w →
    Calls Tryz.prog 44 #[v] w fun e w' => e = .returned (.int .i64 (q19 x)) ∧ Below w.heap.size w w' := by
  cases x with
  | mk k n s items keys =>
    intro w v hv hf hE
    have HE := Lib.hid hE
    clear hE
    obtain ⟨vi, vk, rfl, hk, hi⟩ := (q4v _ _ _ _ _ _ _).1 hv
    obtain ⟨ka, kc, rfl, hkc⟩ := hk.slice
    obtain ⟨ia, ic, rfl, hic⟩ := hi.slice
    obtain ⟨f1, f2, f3, f4, f5, f6, f7⟩ := hf.parts
    simp only [Val.kind, Val.num, Val.str, Val.keys, Val.items] at f1 f2 f3 f4 f5 f6 f7
    have HV := Lib.hid hv
    have HFF := Lib.hid hf
    have HI := Lib.hid hi
    have HK := Lib.hid hk
    have HF := Lib.hid f7
    have HG := Lib.hid f6
    clear hv hk hi f6 f7 hf
    cases hsh : q3e (.mk k n s items keys) with
    | false =>
      have HSH := Lib.hid hsh
      have HN := Lib.hid (show q19 (.mk k n s items keys) = 1 by unfold q19; rw [if_pos hsh])
      clear hsh
      go_enter Tryz.func44, Tryz.ntmps44
      go_wp2_with fail
      refine (q84 (.mk k n s items keys) _ _ (HV.out.keep (q3h _ _)) HFF.out).mono ?_
      rw [HSH.out]
      rintro e w1 ⟨rfl, hb1⟩
      have HB1 := Lib.hid (q3v hb1)
      have HBX := Lib.hid (q4n hb1)
      clear hb1
      go_wp2_with fail
      go_ret
      exact ⟨by rw [HN.out]; rfl, HB1.out⟩
    | true =>
      obtain ⟨n2, n3, n5, n0⟩ := qtc hsh
      simp only [Val.kind, Val.num, Val.str, Val.keys] at n2 n3 n5 n0
      have HSH := Lib.hid hsh
      clear hsh
      by_cases k2 : k = 2
      · cases hvb : NumPlain.validB n
        · have HN := Lib.hid (show q19 (.mk k n s items keys) = 5 by rw [n2 k2]; simp only [hvb]; rfl)
          have HVB := Lib.hid hvb
          clear hvb n2 n3 n5 n0
          have t2 : (k == 2) = true := beq_iff_eq.2 k2
          clear k2
          go_enter Tryz.func44, Tryz.ntmps44
          go_wp2_with fail
          refine (q84 (.mk k n s items keys) _ _ (HV.out.keep (q3h _ _)) HFF.out).mono ?_
          rw [HSH.out]
          rintro e w1 ⟨rfl, hb1⟩
          have HB1 := Lib.hid (q3v hb1)
          have HBX := Lib.hid (q4n hb1)
          clear hb1
          have c0 : w1.cell? ⟨w.heap.size, 0, none⟩ = some (.int .i64 k) := qe HBX.out 0
          have c1 : w1.cell? ⟨w.heap.size, 1, none⟩ = some (.int .i64 n) := qe HBX.out 1
          go_wp2_with fail
          refine (qce _ _).mono ?_
          rw [HVB.out]
          rintro e w' ⟨rfl, rfl⟩
          go_wp2_with fail
          go_ret
          exact ⟨by rw [HN.out]; rfl, HB1.out⟩
        · have HN := Lib.hid (show q19 (.mk k n s items keys) = 0 by rw [n2 k2]; simp only [hvb]; rfl)
          have HVB := Lib.hid hvb
          clear hvb n2 n3 n5 n0
          have t2 : (k == 2) = true := beq_iff_eq.2 k2
          clear k2
          go_enter Tryz.func44, Tryz.ntmps44
          go_wp2_with fail
          refine (q84 (.mk k n s items keys) _ _ (HV.out.keep (q3h _ _)) HFF.out).mono ?_
          rw [HSH.out]
          rintro e w1 ⟨rfl, hb1⟩
          have HB1 := Lib.hid (q3v hb1)
          have HBX := Lib.hid (q4n hb1)
          clear hb1
          have c0 : w1.cell? ⟨w.heap.size, 0, none⟩ = some (.int .i64 k) := qe HBX.out 0
          have c1 : w1.cell? ⟨w.heap.size, 1, none⟩ = some (.int .i64 n) := qe HBX.out 1
          go_wp2_with fail
          refine (qce _ _).mono ?_
          rw [HVB.out]
          rintro e w' ⟨rfl, rfl⟩
          go_wp2_with fail
          go_ret
          exact ⟨by rw [HN.out]; rfl, HB1.out⟩
      · have t2 : (k == 2) = false := beq_eq_false_iff_ne.2 k2
        by_cases k3 : k = 3
        · have HN := Lib.hid (n3 k3)
          have t3 : (k == 3) = true := beq_iff_eq.2 k3
          clear n2 n3 n5 n0 k2 k3
          go_enter Tryz.func44, Tryz.ntmps44
          go_wp2_with fail
          refine (q84 (.mk k n s items keys) _ _ (HV.out.keep (q3h _ _)) HFF.out).mono ?_
          rw [HSH.out]
          rintro e w1 ⟨rfl, hb1⟩
          have HB1 := Lib.hid (q3v hb1)
          have HBX := Lib.hid (q4n hb1)
          clear hb1
          have c0 : w1.cell? ⟨w.heap.size, 0, none⟩ = some (.int .i64 k) := qe HBX.out 0
          have c2 : w1.cell? ⟨w.heap.size, 2, none⟩ = some (.string s) := qe HBX.out 2
          go_wp2_with fail
          refine (qoa s _ f3 (HE.out.keep HB1.out)).mono ?_
          rintro e w2 ⟨rfl, hb2⟩
          have HB2 := Lib.hid (HB1.out.trans (hb2.mono HB1.out.size))
          clear hb2
          go_wp2_with fail
          go_ret
          exact ⟨by rw [HN.out]; rfl, HB2.out⟩
        · have t3 : (k == 3) = false := beq_eq_false_iff_ne.2 k3
          by_cases k5 : k = 5
          · have HN := Lib.hid (n5 k5)
            have t5 : (k == 5) = true := beq_iff_eq.2 k5
            clear n2 n3 n5 n0 k2 k3 k5
            go_enter Tryz.func44, Tryz.ntmps44
            go_wp2_with fail
            refine (q84 (.mk k n s items keys) _ _ (HV.out.keep (q3h _ _)) HFF.out).mono ?_
            rw [HSH.out]
            rintro e w1 ⟨rfl, hb1⟩
            have HB1 := Lib.hid (q3v hb1)
            have HBX := Lib.hid (q4n hb1)
            clear hb1
            have c0 : w1.cell? ⟨w.heap.size, 0, none⟩ = some (.int .i64 k) := qe HBX.out 0
            have c4 : w1.cell? ⟨w.heap.size, 4, none⟩ = some (.slice ka keys.length kc) := qe HBX.out 4
            go_wp2_with fail
            have HEE : Hid (q19 (.mk k n s items keys) = q1f none keys) := Lib.hid HN.out
            clear HN c0 c4 t2 t3 t5
            go_loopw [27] (fun i wr => ∃ j : Nat, j ≤ keys.length ∧ i = .int .i64 j ∧ q1f (q51 keys j) (keys.drop j) = q1f none keys ∧ wr.heap[w.heap.size]? = some (.cells #[.int .i64 k, .int .i64 n, .string s, .slice ia items.length ic, .slice ka keys.length kc] 26 (0, 0)) ∧ Below w.heap.size w wr) (fun i _ => keys.length - (intOf i).toNat)
            case atStart => exact ⟨0, Nat.zero_le _, rfl, rfl, HBX.out, HB1.out⟩
            case round =>
              obtain ⟨j, hj, rfl, hm, hbx, hbe⟩ := hrel
              have HM := Lib.hid hm
              have HBX3 := Lib.hid hbx
              have HBE := Lib.hid hbe
              clear hm hbx hbe HBX HB1
              by_cases hlt : j < keys.length
              · obtain ⟨b, off, rfl, d0⟩ := (HK.out.keep HBE.out).at j hlt
                have HD := Lib.hid (qap hlt)
                have hsz := HG.out _ (List.getElem_mem hlt)
                have HKL := Lib.hid (show q1f (q51 keys j) (keys[j] :: keys.drop (j + 1)) = if vtext keys[j] ≠ 0 then vtext keys[j] else if (match q51 keys j with | none => false | some q => !ltB q keys[j]) = true then 1 else q1f (some keys[j]) (keys.drop (j + 1)) from rfl)
                go_wp2_with fail
                refine (qoa keys[j] _ hsz (HE.out.keep (by first | exact HBE.out | exact below_drewN HBE.out _))).mono ?_
                generalize hvt : vtext keys[j] = vt at *
                rintro e w3 ⟨rfl, hb3⟩
                have HB3 := Lib.hid (HBE.out.trans (hb3.mono HBE.out.size))
                have HBX4 := Lib.hid (qah hb3 HBX3.out)
                have c5 : w3.cell? ⟨w.heap.size, 4, none⟩ = some (.slice (some ⟨b, off, none⟩) keys.length kc) := qe HBX4.out 4
                have d1 := q2i hb3 d0
                clear hb3 d0
                by_cases hz : vt = 0
                · subst hz
                  by_cases h0 : j = 0
                  · subst h0
                    go_wp2_with fail
                    go_roundw
                    case rel => exact ⟨1, by omega, by go_num, by rw [← HM.out, HD.out, HKL.out, if_neg (by decide)]; rw [q7p keys 0 hlt]; rfl, HBX4.out, HB3.out⟩
                    case measure => simp [intOf]; omega
                  · have hj1 : j - 1 < keys.length := by omega
                    obtain ⟨b2, off2, e2, d2⟩ := (HK.out.keep HB3.out).at (j - 1) hj1
                    obtain ⟨rfl, rfl⟩ : b2 = b ∧ off2 = off := by simpa using e2.symm
                    obtain ⟨i, rfl⟩ : ∃ i, j = i + 1 := ⟨j - 1, by omega⟩
                    simp only [Nat.add_sub_cancel] at d2 hj1
                    have HP := Lib.hid (q7p keys i hj1)
                    have hq := qko keys[i + 1].toList keys[i].toList
                    have q1 : (↑i + 1 : Int).toNat = i + 1 := by omega
                    have q2 : IntKind.i64.wrap (↑i + 1) = ↑i + 1 := IntWalk.i64_in _ (by omega)
                    have q3 : (0 : Int) < ↑i + 1 := by omega
                    cases h1 : Op.bytesLess keys[i + 1].toList keys[i].toList <;> cases h2 : (keys[i + 1].toList == keys[i].toList)
                    all_goals
                      have hl : (!ltB keys[i] keys[i + 1]) = _ := hq.symm
                      rw [h1, h2] at hl
                      have HL := Lib.hid hl
                      clear hl
                      clear hq
                      go_wp2_with fail
                      first
                      | (go_ret
                         exact ⟨by rw [HEE.out, ← HM.out, HD.out, HKL.out, if_neg (by decide), HP.out]; simp only [HL.out]; rfl, HB3.out⟩)
                      | (go_roundw
                         case rel => exact ⟨i + 1 + 1, by omega, by go_num, by rw [← HM.out, HD.out, HKL.out, if_neg (by decide), HP.out, q7p keys (i + 1) hlt]; simp only [HL.out]; rfl, HBX4.out, HB3.out⟩
                         case measure => simp [intOf]; omega)
                · have tz : (vt != 0) = true := bne_iff_ne.2 hz
                  have HZ := Lib.hid hz
                  clear hz
                  go_wp2_with fail
                  go_ret
                  exact ⟨by rw [HEE.out, ← HM.out, HD.out, HKL.out, if_pos HZ.out]; rfl, HB3.out⟩
              · obtain rfl : j = keys.length := by omega
                have hnd : keys.drop keys.length = [] := List.drop_length
                have HX : Hid (q1f none keys = 0) := by rw [Hid, ← HM.out, hnd]; cases q51 keys keys.length <;> rfl
                go_wp2_with fail
                go_ret
                exact ⟨by rw [HEE.out, HX.out]; rfl, HBE.out⟩
          · have HN := Lib.hid (n0 k2 k3 k5)
            have t5 : (k == 5) = false := beq_eq_false_iff_ne.2 k5
            clear n2 n3 n5 n0 k2 k3 k5
            go_enter Tryz.func44, Tryz.ntmps44
            go_wp2_with fail
            refine (q84 (.mk k n s items keys) _ _ (HV.out.keep (q3h _ _)) HFF.out).mono ?_
            rw [HSH.out]
            rintro e w1 ⟨rfl, hb1⟩
            have HB1 := Lib.hid (q3v hb1)
            have HBX := Lib.hid (q4n hb1)
            clear hb1
            have c0 : w1.cell? ⟨w.heap.size, 0, none⟩ = some (.int .i64 k) := qe HBX.out 0
            go_wp2_with fail
            go_ret
            exact ⟨by rw [HN.out]; rfl, HB1.out⟩
end Go.Proofs.YtpidpioifnnllaaGreatDoor
