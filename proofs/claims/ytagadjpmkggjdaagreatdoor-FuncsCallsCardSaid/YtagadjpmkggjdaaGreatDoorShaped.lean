import Derived.Test.YtagadjpmkggjdaaGreatDoorVal
import Derived.Deep.DeepCutAuto
namespace Go.Proofs.YtagadjpmkggjdaaGreatDoor
open Go.RowKit
def qm (k n:Int):Bool:=k==2 || (k==1&&(n==0 || n==1)) || n==0
def qr (k:Int) (s:ByteArray):Bool:=k==3 || s.toList.isEmpty
def qp (k:Int) (il:Nat):Bool:=k==4 || k==5 || (il:Int)==0
def qn (k:Int) (kl il:Nat):Bool:=(k==5&&(kl:Int)==(il:Int)) || (k != 5&&(kl:Int)==0)
def qe (k n:Int) (s:ByteArray) (il kl:Nat):Bool:=decide (0<=k)&&decide (k<=6)&&qm k n&&qr k s&&qp k il&&qn k kl il
def q28 (x:Val):Bool:=qe x.kind x.num x.str x.items.length x.keys.length
set_option maxRecDepth 100000 in
set_option maxHeartbeats 1000000 in
theorem qy8 (k n:Int) (s:ByteArray) (ia:Option Addr) (il ic:Nat) (ka:Option Addr) (kl kc:Nat) (w:World) :
  Calls Tryz.prog 129 #[.agg #[.int .i64 k,.int .i64 n,.string s,.slice ia il ic,.slice ka kl kc]] w fun e w'=>e=.returned (.bool (qe k n s il kl))/\Below w.heap.size w w':=by
 go_enter Tryz.func129,Tryz.ntmps129
 go_upto_region 1 with fail
 go_cut [3] (fun s3 wx=>s3=.bool (qm k n)/\wx=w.alloc (.cells #[.int .i64 k,.int .i64 n,.string s,.slice ia il ic,.slice ka kl kc] 28))
 case first =>
  cases e0:(k==2)
  .cases e1:(k==1)
   .cases e2:(n==0)
    .go_wp2_with fail
     go_meet
     exact ⟨by unfold qm;rw[e0,e1,e2];rfl,rfl⟩
    .go_wp2_with fail
     go_meet
     exact ⟨by unfold qm;rw[e0,e1,e2];rfl,rfl⟩
   .cases e2:(n==0)
    .cases e3:(n==1)
     .go_wp2_with fail
      go_meet
      exact ⟨by unfold qm;rw[e0,e1,e2,e3];rfl,rfl⟩
     .go_wp2_with fail
      go_meet
      exact ⟨by unfold qm;rw[e0,e1,e2,e3];rfl,rfl⟩
    .go_wp2_with fail
     go_meet
     exact ⟨by unfold qm;rw[e0,e1,e2];rfl,rfl⟩
  .go_wp2_with fail
   go_meet
   exact ⟨by unfold qm;rw[e0];rfl,rfl⟩
 case rest =>
  obtain ⟨rfl,rfl⟩:=hcut
  go_upto_region 2 with fail
  go_cut [4] (fun s3 wx=>s3=.bool (qr k s)/\wx=w.alloc (.cells #[.int .i64 k,.int .i64 n,.string s,.slice ia il ic,.slice ka kl kc] 28))
  case first =>
   cases e0:(k==3)
   .cases e1:(s.toList.isEmpty)
    .go_wp2_with fail
     go_meet
     exact ⟨by unfold qr;rw[e0,e1];rfl,rfl⟩
    .go_wp2_with fail
     go_meet
     exact ⟨by unfold qr;rw[e0,e1];rfl,rfl⟩
   .go_wp2_with fail
    go_meet
    exact ⟨by unfold qr;rw[e0];rfl,rfl⟩
  case rest =>
   obtain ⟨rfl,rfl⟩:=hcut
   go_upto_region 3 with fail
   go_cut [5] (fun s3 wx=>s3=.bool (qp k il)/\wx=w.alloc (.cells #[.int .i64 k,.int .i64 n,.string s,.slice ia il ic,.slice ka kl kc] 28))
   case first =>
    cases e0:(k==4)
    .cases e1:(k==5)
     .cases e2:((il:Int)==0)
      .go_wp2_with fail
       go_meet
       exact ⟨by unfold qp;rw[e0,e1,e2];rfl,rfl⟩
      .go_wp2_with fail
       go_meet
       exact ⟨by unfold qp;rw[e0,e1,e2];rfl,rfl⟩
     .go_wp2_with fail
      go_meet
      exact ⟨by unfold qp;rw[e0,e1];rfl,rfl⟩
    .go_wp2_with fail
     go_meet
     exact ⟨by unfold qp;rw[e0];rfl,rfl⟩
   case rest =>
    obtain ⟨rfl,rfl⟩:=hcut
    go_upto_region 4 with fail
    go_cut [6] (fun s3 wx=>s3=.bool (qn k kl il)/\wx=w.alloc (.cells #[.int .i64 k,.int .i64 n,.string s,.slice ia il ic,.slice ka kl kc] 28))
    case first =>
     cases e0:(k==5)
     .have ne0:(k != 5)=true:=by simpa using e0
      cases e1:((kl:Int)==0)
      .go_wp2_with fail
       go_meet
       exact ⟨by unfold qn;rw[e0,ne0,e1];rfl,rfl⟩
      .go_wp2_with fail
       go_meet
       exact ⟨by unfold qn;rw[e0,ne0,e1];rfl,rfl⟩
     .have ne0:(k != 5)=false:=by simpa using e0
      cases e1:((kl:Int)==(il:Int))
      .go_wp2_with fail
       go_meet
       exact ⟨by unfold qn;rw[e0,ne0,e1];rfl,rfl⟩
      .go_wp2_with fail
       go_meet
       exact ⟨by unfold qn;rw[e0,ne0,e1];rfl,rfl⟩
    case rest =>
     obtain ⟨rfl,rfl⟩:=hcut
     by_cases k0:0<=k
     .have d0:=decide_eq_true k0
      by_cases k6:k<=6
      .have d6:=decide_eq_true k6
       cases e0:(qm k n)
       .go_wp2_with fail
        go_ret
        exact ⟨by unfold qe;rw[d0,d6,e0];rfl,(Below.refl _ _).alloc (Nat.le_refl _) _⟩
       .cases e1:(qr k s)
        .go_wp2_with fail
         go_ret
         exact ⟨by unfold qe;rw[d0,d6,e0,e1];rfl,(Below.refl _ _).alloc (Nat.le_refl _) _⟩
        .cases e2:(qp k il)
         .go_wp2_with fail
          go_ret
          exact ⟨by unfold qe;rw[d0,d6,e0,e1,e2];rfl,(Below.refl _ _).alloc (Nat.le_refl _) _⟩
         .cases e3:(qn k kl il)
          .go_wp2_with fail
           go_ret
           exact ⟨by unfold qe;rw[d0,d6,e0,e1,e2,e3];rfl,(Below.refl _ _).alloc (Nat.le_refl _) _⟩
          .go_wp2_with fail
           go_ret
           exact ⟨by unfold qe;rw[d0,d6,e0,e1,e2,e3];rfl,(Below.refl _ _).alloc (Nat.le_refl _) _⟩
      .have d6:=decide_eq_false k6
       go_wp2_with fail
       go_ret
       exact ⟨by unfold qe;rw[d0,d6];rfl,(Below.refl _ _).alloc (Nat.le_refl _) _⟩
     .have d0:=decide_eq_false k0
      go_wp2_with fail
      go_ret
      exact ⟨by unfold qe;rw[d0];rfl,(Below.refl _ _).alloc (Nat.le_refl _) _⟩
theorem qfj (x:Val) (w:World) (v:Value) (hv:q1n w v x) :
  Calls Tryz.prog 129 #[v] w fun e w'=>e=.returned (.bool (q28 x))/\Below w.heap.size w w':=by
 obtain ⟨vi,vk,rfl,hk,hi⟩:=hv.open
 obtain ⟨ka,kc,rfl,hkc⟩:=hk.slice
 obtain ⟨ia,ic,rfl,hic⟩:=hi.slice
 exact qy8 _ _ _ _ _ _ _ _ _ w
end Go.Proofs.YtagadjpmkggjdaaGreatDoor
