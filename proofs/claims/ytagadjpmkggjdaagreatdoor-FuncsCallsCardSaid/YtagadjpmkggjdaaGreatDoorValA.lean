import Derived.Test.YtagadjpmkggjdaaGreatDoorVal
namespace Go.Proofs.YtagadjpmkggjdaaGreatDoor
open Go.RowKit
set_option maxRecDepth 100000 in
set_option maxHeartbeats 1000000 in
theorem qx7 (x:Val):∀(w:World) (v:Value),q1n w v x->x.Fits->q3p x<=4611686018427387904 ->
  Calls Tryz.prog 48 #[v] w fun e w'=>e=.returned (.int .i64 (q3p x))/\Below w.heap.size w w':=by
 induction x using Val.ind with
 | h k n s items keys ih =>
  intro w v hv hf hb
  have IH:=Lib.hid ih
  clear ih
  obtain ⟨vi,vk,rfl,hk,hi⟩:=(q6c _ _ _ _ _ _ _).1 hv
  obtain ⟨ka,kc,rfl,hkc⟩:=hk.slice
  obtain ⟨ia,ic,rfl,hic⟩:=hi.slice
  obtain ⟨f1,f2,f3,f4,f5,f6,f7⟩:=hf.parts
  simp only[Val.kind,Val.num,Val.str,Val.keys,Val.items]at f1 f2 f3 f4 f5 f6 f7
  have HV:=Lib.hid hv
  have HFF:=Lib.hid hf
  have HI:=Lib.hid hi
  have HK:=Lib.hid hk
  have HF:=Lib.hid f7
  have HG:=Lib.hid f6
  clear hv hk hi f6 f7 hf
  have HS:=Lib.hid (qsw (.mk k n s items keys))
  go_enter Tryz.func48,Tryz.ntmps48
  go_wp2_with fail
  go_loopw [3,4] (fun n' i wr=>∃j m:Nat,j<=items.length/\i=.int .i64 j/\n'=.int .i64 m/\m+q4t (items.drop j)=q3p (.mk k n s items keys)/\wr.heap[w.heap.size]?=some (.cells #[.int .i64 k,.int .i64 n,.string s,.slice ia items.length ic,.slice ka keys.length kc] 28 (0,0))/\Below w.heap.size w wr) (fun _ i _=>items.length-(intOf i).toNat)
  case atStart=>exact ⟨0,keys.length,Nat.zero_le _,rfl,rfl,by rw[HS.out];rfl,q7q _ _,(Below.refl _ _).alloc (Nat.le_refl _) _⟩
  case round =>
   obtain ⟨j,m,hj,rfl,rfl,hm,hbx,hbe⟩:=hrel
   have HM:=Lib.hid hm
   have HBX:=Lib.hid hbx
   have HBE:=Lib.hid hbe
   have c3:wr.cell? ⟨w.heap.size,3,none⟩=some (.slice ia items.length ic):=q1s hbx 3
   clear hm hbx hbe
   by_cases hlt:j<items.length
   .obtain ⟨b,off,rfl,v0,v1,v2,v3,v4,d0,d1,d2,d3,d4,hx⟩:=(HI.out.keep HBE.out).at j hlt
    have HX:=Lib.hid hx
    have HD:=Lib.hid (q7w hlt)
    have hbd:m+(q3p items[j]+q4t (items.drop (j+1)))<=4611686018427387904:=by rw[←HM.out,HD.out]at hb;simpa only[q4t] using hb
    clear hx
    go_wp2_with fail
    refine (IH.out _ (List.getElem_mem hlt) _ _ HX.out (HF.out _ (List.getElem_mem hlt)) (by omega)).mono ?_
    rintro e w1 ⟨rfl,hb1⟩
    have HB1:=Lib.hid hb1
    clear hb1 c3 d0 d1 d2 d3 d4
    go_wp2_with fail
    go_roundw
    case rel=>exact ⟨j+1,m+q3p items[j],by omega,by go_num,by go_num,by rw[←HM.out,HD.out];simp only[q4t];omega,q7n HB1.out HBX.out,HBE.out.trans (HB1.out.mono HBE.out.size)⟩
    case measure=>simp[intOf];omega
   .obtain rfl:j=items.length:=by omega
    go_wp2_with fail
    go_ret
    exact ⟨by rw[←HM.out];simp[q4t],HBE.out⟩
set_option maxRecDepth 100000 in
set_option maxHeartbeats 1000000 in
theorem qx8 (x:Val):∀(w:World) (v:Value) (nodes lv:Int),q1n w v x->x.Fits->nodes<=1000000->-1000000<=lv->lv<=1000000->-1000000<=nodes ->
  Calls Tryz.prog 47 #[v,.int .i64 nodes,.int .i64 lv] w fun e w'=>e=.returned (.int .i64 (q2y x nodes lv))/\Below w.heap.size w w':=by
 induction x using Val.ind with
 | h k n s items keys ih =>
  intro w v nodes lv hv hf g1 g2 g3 g4
  have IH:=Lib.hid ih
  clear ih
  obtain ⟨vi,vk,rfl,hk,hi⟩:=(q6c _ _ _ _ _ _ _).1 hv
  obtain ⟨ka,kc,rfl,hkc⟩:=hk.slice
  obtain ⟨ia,ic,rfl,hic⟩:=hi.slice
  obtain ⟨f1,f2,f3,f4,f5,f6,f7⟩:=hf.parts
  simp only[Val.kind,Val.num,Val.str,Val.keys,Val.items]at f1 f2 f3 f4 f5 f6 f7
  have HV:=Lib.hid hv
  have HFF:=Lib.hid hf
  have HI:=Lib.hid hi
  have HK:=Lib.hid hk
  have HF:=Lib.hid f7
  have HG:=Lib.hid f6
  clear hv hk hi f6 f7 hf
  have HS:=Lib.hid (qtf (.mk k n s items keys) nodes lv)
  by_cases h1:nodes<1
  .go_enter Tryz.func47,Tryz.ntmps47
   go_wp2_with fail
   go_ret
   exact ⟨by rw[HS.out,if_pos (.inl h1)];rfl,(Below.refl _ _).alloc (Nat.le_refl _) _⟩
  .by_cases h2:lv<1
   .go_enter Tryz.func47,Tryz.ntmps47
    go_wp2_with fail
    go_ret
    exact ⟨by rw[HS.out,if_pos (.inr h2)];rfl,(Below.refl _ _).alloc (Nat.le_refl _) _⟩
   .go_enter Tryz.func47,Tryz.ntmps47
    go_wp2_with fail
    go_loopw [7,8] (fun n' i wr=>∃(j:Nat) (m:Int),j<=items.length/\i=.int .i64 j/\n'=.int .i64 m/\-1<=m/\m<=1000000/\q46 (items.drop j) m (lv - 1)=q2y (.mk k n s items keys) nodes lv/\wr.heap[w.heap.size]?=some (.cells #[.int .i64 k,.int .i64 n,.string s,.slice ia items.length ic,.slice ka keys.length kc] 28 (0,0))/\Below w.heap.size w wr) (fun _ i _=>items.length-(intOf i).toNat)
    case atStart=>exact ⟨0,nodes - 1,Nat.zero_le _,rfl,rfl,by omega,by omega,by rw[HS.out,if_neg (by omega)];rfl,q7q _ _,(Below.refl _ _).alloc (Nat.le_refl _) _⟩
    case round =>
     obtain ⟨j,m,hj,rfl,rfl,hm1,hm2,hm,hbx,hbe⟩:=hrel
     have HM:=Lib.hid hm
     have HBX:=Lib.hid hbx
     have HBE:=Lib.hid hbe
     have c3:wr.cell? ⟨w.heap.size,3,none⟩=some (.slice ia items.length ic):=q1s hbx 3
     clear hm hbx hbe
     by_cases hlt:j<items.length
     .by_cases hm0:0<=m
      .obtain ⟨b,off,rfl,v0,v1,v2,v3,v4,d0,d1,d2,d3,d4,hx⟩:=(HI.out.keep HBE.out).at j hlt
       have HX:=Lib.hid hx
       have HD:=Lib.hid (q7w hlt)
       have hbd:=qte items[j] m (lv - 1) (by omega)
       clear hx
       go_wp2_with fail
       refine (IH.out _ (List.getElem_mem hlt) _ _ _ _ HX.out (HF.out _ (List.getElem_mem hlt)) (by omega) (by omega) (by omega) (by omega)).mono ?_
       rintro e w1 ⟨rfl,hb1⟩
       have HB1:=Lib.hid hb1
       clear hb1 c3 d0 d1 d2 d3 d4
       go_wp2_with fail
       go_roundw
       case rel=>exact ⟨j+1,q2y items[j] m (lv - 1),by omega,by go_num,rfl,by omega,by omega,by rw[←HM.out,HD.out];simp only[q46];rw[if_neg (by omega)],q7n HB1.out HBX.out,HBE.out.trans (HB1.out.mono HBE.out.size)⟩
       case measure=>simp[intOf];omega
      .go_wp2_with fail
       go_ret
       exact ⟨by rw[←HM.out,qkc _ _ _ (by omega)];rfl,HBE.out⟩
     .obtain rfl:j=items.length:=by omega
      go_wp2_with fail
      go_ret
      exact ⟨by rw[←HM.out];simp[q46],HBE.out⟩
set_option maxRecDepth 100000 in
set_option maxHeartbeats 1000000 in
theorem qy9 (x:Val) (w:World) (v:Value) (nodes:Int) (hv:q1n w v x) (hf:x.Fits) (g1:0<=nodes) (g2:nodes<=1000) :
  Calls Tryz.prog 20 #[v,.int .i64 nodes] w fun e w'=>e=.returned (.bool (q5a x nodes))/\Below w.heap.size w w':=by
 have HV:=Lib.hid hv
 have HF:=Lib.hid hf
 obtain ⟨vi,vk,rfl,hk,hi⟩:=hv.open
 have HS:=Lib.hid (qyr x nodes)
 have HB:=Lib.hid (qtg x nodes 40 hf g1 g2)
 clear hv hf hk hi
 generalize hl:q2y x nodes 40=l at *
 have HL:=Lib.hid hl
 clear hl
 go_enter Tryz.func20,Tryz.ntmps20
 go_wp2_with fail
 refine (qx8 x _ _ _ _ (HV.out.keep (q34 _ _)) HF.out (by omega) (by omega) (by omega) (by omega)).mono ?_
 rw[HL.out]
 rintro e w1 ⟨rfl,hb1⟩
 have HB1:=Lib.hid (q4e hb1)
 have hbx:=q50 hb1
 have c0:=q1s hbx 0
 have c1:=q1s hbx 1
 have c2:=q1s hbx 2
 have c3:=q1s hbx 3
 have c4:=q1s hbx 4
 clear hbx hb1
 by_cases h0:0<=l
 .have hkb:=HB.out h0
  go_wp2_with fail
  refine (qx7 x _ _ (HV.out.keep HB1.out) HF.out hkb).mono ?_
  rintro e w2 ⟨rfl,hb2⟩
  have HB2:=Lib.hid hb2
  clear hb2 c0 c1 c2 c3 c4
  by_cases h2:(q3p x:Int)<=2*nodes
  all_goals
   go_wp2_with fail
   go_ret
   exact ⟨by rw[HS.out,decide_eq_true h0];first|(rw[decide_eq_true h2];rfl)|(rw[decide_eq_false (Int.not_le.2 h2)];rfl),qps HB1.out HB2.out⟩
 .go_wp2_with fail
  go_ret
  exact ⟨by rw[HS.out,decide_eq_false (Int.not_le.2 h0)];rfl,HB1.out⟩
end Go.Proofs.YtagadjpmkggjdaaGreatDoor
