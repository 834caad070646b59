import Derived.Test.YtpidpioifnnllaaGreatDoorVal
import Derived.Deep.DeepCutAuto
namespace Go.Proofs.YtpidpioifnnllaaGreatDoor
open Go.RowKit
def qq (k n:Int):Bool:=k == 2 || (k == 1 && (n == 0 || n == 1)) || n == 0
def qu (k:Int) (s:ByteArray):Bool:=k == 3 || s.toList.isEmpty
def qt (k:Int) (il:Nat):Bool:=k == 4 || k == 5 || (il:Int) == 0
def qr (k:Int) (kl il:Nat):Bool:=(k == 5 && (kl:Int) == (il:Int)) || (k != 5 && (kl:Int) == 0)
def qd (k n:Int) (s:ByteArray) (il kl:Nat):Bool:=decide (0≤k) && decide (k≤6) && qq k n && qu k s && qt k il && qr k kl il
def q3e (x:Val):Bool:=qd x.kind x.num x.str x.items.length x.keys.length
set_option maxRecDepth 100000 in
set_option maxHeartbeats 1000000 in
theorem qvv (k n:Int) (s:ByteArray) (ia:Option Addr) (il ic:Nat) (ka:Option Addr) (kl kc:Nat) (w:World) :
  Calls Tryz.prog 90 #[.agg #[.int .i64 k,.int .i64 n,.string s,.slice ia il ic,.slice ka kl kc]] w fun e w'=>e=.returned (.bool (qd k n s il kl))∧Below w.heap.size w w':=by
 go_enter Tryz.func90,Tryz.ntmps90
 go_upto_region 1 with fail
 go_cut [3] (fun s3 wx=>s3=.bool (qq k n)∧wx=w.alloc (.cells #[.int .i64 k,.int .i64 n,.string s,.slice ia il ic,.slice ka kl kc] 26))
 case first =>
  cases e0:(k == 2)
  ·cases e1:(k == 1)
   ·cases e2:(n == 0)
    ·go_wp2_with fail
     go_meet
     exact ⟨by unfold qq; rw[e0,e1,e2]; rfl,rfl⟩
    ·go_wp2_with fail
     go_meet
     exact ⟨by unfold qq; rw[e0,e1,e2]; rfl,rfl⟩
   ·cases e2:(n == 0)
    ·cases e3:(n == 1)
     ·go_wp2_with fail
      go_meet
      exact ⟨by unfold qq; rw[e0,e1,e2,e3]; rfl,rfl⟩
     ·go_wp2_with fail
      go_meet
      exact ⟨by unfold qq; rw[e0,e1,e2,e3]; rfl,rfl⟩
    ·go_wp2_with fail
     go_meet
     exact ⟨by unfold qq; rw[e0,e1,e2]; rfl,rfl⟩
  ·go_wp2_with fail
   go_meet
   exact ⟨by unfold qq; rw[e0]; rfl,rfl⟩
 case rest =>
  obtain ⟨rfl,rfl⟩:=hcut
  go_upto_region 2 with fail
  go_cut [4] (fun s3 wx=>s3=.bool (qu k s)∧wx=w.alloc (.cells #[.int .i64 k,.int .i64 n,.string s,.slice ia il ic,.slice ka kl kc] 26))
  case first =>
   cases e0:(k == 3)
   ·cases e1:(s.toList.isEmpty)
    ·go_wp2_with fail
     go_meet
     exact ⟨by unfold qu; rw[e0,e1]; rfl,rfl⟩
    ·go_wp2_with fail
     go_meet
     exact ⟨by unfold qu; rw[e0,e1]; rfl,rfl⟩
   ·go_wp2_with fail
    go_meet
    exact ⟨by unfold qu; rw[e0]; rfl,rfl⟩
  case rest =>
   obtain ⟨rfl,rfl⟩:=hcut
   go_upto_region 3 with fail
   go_cut [5] (fun s3 wx=>s3=.bool (qt k il)∧wx=w.alloc (.cells #[.int .i64 k,.int .i64 n,.string s,.slice ia il ic,.slice ka kl kc] 26))
   case first =>
    cases e0:(k == 4)
    ·cases e1:(k == 5)
     ·cases e2:((il:Int) == 0)
      ·go_wp2_with fail
       go_meet
       exact ⟨by unfold qt; rw[e0,e1,e2]; rfl,rfl⟩
      ·go_wp2_with fail
       go_meet
       exact ⟨by unfold qt; rw[e0,e1,e2]; rfl,rfl⟩
     ·go_wp2_with fail
      go_meet
      exact ⟨by unfold qt; rw[e0,e1]; rfl,rfl⟩
    ·go_wp2_with fail
     go_meet
     exact ⟨by unfold qt; rw[e0]; rfl,rfl⟩
   case rest =>
    obtain ⟨rfl,rfl⟩:=hcut
    go_upto_region 4 with fail
    go_cut [6] (fun s3 wx=>s3=.bool (qr k kl il)∧wx=w.alloc (.cells #[.int .i64 k,.int .i64 n,.string s,.slice ia il ic,.slice ka kl kc] 26))
    case first =>
     cases e0:(k == 5)
     ·have ne0:(k != 5)=true:=by simpa using e0
      cases e1:((kl:Int) == 0)
      ·go_wp2_with fail
       go_meet
       exact ⟨by unfold qr; rw[e0,ne0,e1]; rfl,rfl⟩
      ·go_wp2_with fail
       go_meet
       exact ⟨by unfold qr; rw[e0,ne0,e1]; rfl,rfl⟩
     ·have ne0:(k != 5)=false:=by simpa using e0
      cases e1:((kl:Int) == (il:Int))
      ·go_wp2_with fail
       go_meet
       exact ⟨by unfold qr; rw[e0,ne0,e1]; rfl,rfl⟩
      ·go_wp2_with fail
       go_meet
       exact ⟨by unfold qr; rw[e0,ne0,e1]; rfl,rfl⟩
    case rest =>
     obtain ⟨rfl,rfl⟩:=hcut
     by_cases k0:0≤k
     ·have d0:=decide_eq_true k0
      by_cases k6:k≤6
      ·have d6:=decide_eq_true k6
       cases e0:(qq k n)
       ·go_wp2_with fail
        go_ret
        exact ⟨by unfold qd; rw[d0,d6,e0]; rfl,(Below.refl _ _).alloc (Nat.le_refl _) _⟩
       ·cases e1:(qu k s)
        ·go_wp2_with fail
         go_ret
         exact ⟨by unfold qd; rw[d0,d6,e0,e1]; rfl,(Below.refl _ _).alloc (Nat.le_refl _) _⟩
        ·cases e2:(qt k il)
         ·go_wp2_with fail
          go_ret
          exact ⟨by unfold qd; rw[d0,d6,e0,e1,e2]; rfl,(Below.refl _ _).alloc (Nat.le_refl _) _⟩
         ·cases e3:(qr k kl il)
          ·go_wp2_with fail
           go_ret
           exact ⟨by unfold qd; rw[d0,d6,e0,e1,e2,e3]; rfl,(Below.refl _ _).alloc (Nat.le_refl _) _⟩
          ·go_wp2_with fail
           go_ret
           exact ⟨by unfold qd; rw[d0,d6,e0,e1,e2,e3]; rfl,(Below.refl _ _).alloc (Nat.le_refl _) _⟩
      ·have d6:=decide_eq_false k6
       go_wp2_with fail
       go_ret
       exact ⟨by unfold qd; rw[d0,d6]; rfl,(Below.refl _ _).alloc (Nat.le_refl _) _⟩
     ·have d0:=decide_eq_false k0
      go_wp2_with fail
      go_ret
      exact ⟨by unfold qd; rw[d0]; rfl,(Below.refl _ _).alloc (Nat.le_refl _) _⟩
theorem qfv (x:Val) (w:World) (v:Value) (hv:q1l w v x) :
  Calls Tryz.prog 90 #[v] w fun e w'=>e=.returned (.bool (q3e x))∧Below w.heap.size w w':=by
 obtain ⟨vi,vk,rfl,hk,hi⟩:=hv.open
 obtain ⟨ka,kc,rfl,hkc⟩:=hk.slice
 obtain ⟨ia,ic,rfl,hic⟩:=hi.slice
 exact qvv _ _ _ _ _ _ _ _ _ w
end Go.Proofs.YtpidpioifnnllaaGreatDoor
