/-
  Contracts of the program's functions on values that only read: shaped.
-/
import Derived.Test.YtpidpioifnnllaaGreatDoorShaped
namespace Go.Proofs.YtpidpioifnnllaaGreatDoor
open Go.RowKit
set_option maxRecDepth 100000 in
set_option maxHeartbeats 1000000 in
theorem qwz (n:Int) (s:ByteArray) (ia:Option Addr) (il ic:Nat) (ka:Option Addr) (kl kc:Nat) (w:World) (_h1:il≤1000000000000000) (_h2:kl≤1000000000000000) :
  Calls Tryz.prog 72 #[.agg #[.int .i64 0,.int .i64 n,.string s,.slice ia il ic,.slice ka kl kc]] w fun e w'=>e=.returned (.bool (qd 0 n s il kl))∧Below w.heap.size w w':=by
 cases c_n0:((n != 0))
 ·have t1:(n != 0)=false:=c_n0
  have c_n0':(n == 0)=true:=by simpa [bne] using c_n0
  cases c_s0:((!s.toList.isEmpty))
  ·have t2:s.toList.isEmpty=true:=by simpa using c_s0
   cases c_i0:(decide (0 < il))
   ·have t3:il≤0:=by simpa using c_i0
    have t3':((il:Int) == 0)=true:=by simp; omega
    cases c_k:((kl:Int) == 0)
    ·have HS:Hid (qd 0 n s il kl=false):=by simp[Hid,qd,qq,qu,qt,qr,c_n0',t2,t3',c_k]
     go_enter Tryz.func72,Tryz.ntmps72
     go_wp2_with fail
     go_ret
     exact ⟨by rw[HS.out]; rfl,(Below.refl _ _).alloc (Nat.le_refl _) _⟩
    ·have HS:Hid (qd 0 n s il kl=true):=by simp[Hid,qd,qq,qu,qt,qr,c_n0',t2,t3',c_k]
     go_enter Tryz.func72,Tryz.ntmps72
     go_wp2_with fail
     go_ret
     exact ⟨by rw[HS.out]; rfl,(Below.refl _ _).alloc (Nat.le_refl _) _⟩
   ·have t3:0 < il:=by simpa using c_i0
    have t3':((il:Int) == 0)=false:=by simp; omega
    have HS:Hid (qd 0 n s il kl=false):=by simp[Hid,qd,qq,qu,qt,qr,c_n0',t2,t3']
    go_enter Tryz.func72,Tryz.ntmps72
    go_wp2_with fail
    go_ret
    exact ⟨by rw[HS.out]; rfl,(Below.refl _ _).alloc (Nat.le_refl _) _⟩
  ·have t2:s.toList.isEmpty=false:=by simpa using c_s0
   have HS:Hid (qd 0 n s il kl=false):=by simp[Hid,qd,qq,qu,qt,qr,c_n0',t2]
   go_enter Tryz.func72,Tryz.ntmps72
   go_wp2_with fail
   go_ret
   exact ⟨by rw[HS.out]; rfl,(Below.refl _ _).alloc (Nat.le_refl _) _⟩
 ·have t1:(n != 0)=true:=c_n0
  have c_n0':(n == 0)=false:=by simpa [bne] using c_n0
  have HS:Hid (qd 0 n s il kl=false):=by simp[Hid,qd,qq,qu,qt,qr,c_n0']
  go_enter Tryz.func72,Tryz.ntmps72
  go_wp2_with fail
  go_ret
  exact ⟨by rw[HS.out]; rfl,(Below.refl _ _).alloc (Nat.le_refl _) _⟩
set_option maxRecDepth 100000 in
set_option maxHeartbeats 1000000 in
theorem qx0 (n:Int) (s:ByteArray) (ia:Option Addr) (il ic:Nat) (ka:Option Addr) (kl kc:Nat) (w:World) (_h1:il≤1000000000000000) (_h2:kl≤1000000000000000) :
  Calls Tryz.prog 72 #[.agg #[.int .i64 1,.int .i64 n,.string s,.slice ia il ic,.slice ka kl kc]] w fun e w'=>e=.returned (.bool (qd 1 n s il kl))∧Below w.heap.size w w':=by
 cases c_n01:((n != 0 && n != 1))
 ·have hn:((n == 0)=true∧(n != 0)=false)∨((n == 0)=false∧(n == 1)=true∧(n != 0)=true∧(n != 1)=false):=by
   rcases Decidable.em (n=0) with h | h
   ·exact .inl ⟨beq_iff_eq.2 h,by simp[h]⟩
   ·have h1:n=1:=by simpa [h] using c_n01
    exact .inr ⟨beq_eq_false_iff_ne.2 h,beq_iff_eq.2 h1,by simp[h],by simp[h1]⟩
  clear c_n01
  rcases hn with ⟨m1,m2⟩ | ⟨m1,m2,m3,m4⟩
  ·cases c_s0:((!s.toList.isEmpty))
   ·have t2:s.toList.isEmpty=true:=by simpa using c_s0
    cases c_i0:(decide (0 < il))
    ·have t3:il≤0:=by simpa using c_i0
     have t3':((il:Int) == 0)=true:=by simp; omega
     cases c_k:((kl:Int) == 0)
     ·have HS:Hid (qd 1 n s il kl=false):=by simp[Hid,qd,qq,qu,qt,qr,m1,t2,t3',c_k]
      go_enter Tryz.func72,Tryz.ntmps72
      go_wp2_with fail
      go_ret
      exact ⟨by rw[HS.out]; rfl,(Below.refl _ _).alloc (Nat.le_refl _) _⟩
     ·have HS:Hid (qd 1 n s il kl=true):=by simp[Hid,qd,qq,qu,qt,qr,m1,t2,t3',c_k]
      go_enter Tryz.func72,Tryz.ntmps72
      go_wp2_with fail
      go_ret
      exact ⟨by rw[HS.out]; rfl,(Below.refl _ _).alloc (Nat.le_refl _) _⟩
    ·have t3:0 < il:=by simpa using c_i0
     have t3':((il:Int) == 0)=false:=by simp; omega
     have HS:Hid (qd 1 n s il kl=false):=by simp[Hid,qd,qq,qu,qt,qr,m1,t2,t3']
     go_enter Tryz.func72,Tryz.ntmps72
     go_wp2_with fail
     go_ret
     exact ⟨by rw[HS.out]; rfl,(Below.refl _ _).alloc (Nat.le_refl _) _⟩
   ·have t2:s.toList.isEmpty=false:=by simpa using c_s0
    have HS:Hid (qd 1 n s il kl=false):=by simp[Hid,qd,qq,qu,qt,qr,m1,t2]
    go_enter Tryz.func72,Tryz.ntmps72
    go_wp2_with fail
    go_ret
    exact ⟨by rw[HS.out]; rfl,(Below.refl _ _).alloc (Nat.le_refl _) _⟩
  ·cases c_s0:((!s.toList.isEmpty))
   ·have t2:s.toList.isEmpty=true:=by simpa using c_s0
    cases c_i0:(decide (0 < il))
    ·have t3:il≤0:=by simpa using c_i0
     have t3':((il:Int) == 0)=true:=by simp; omega
     cases c_k:((kl:Int) == 0)
     ·have HS:Hid (qd 1 n s il kl=false):=by simp[Hid,qd,qq,qu,qt,qr,m1,m2,t2,t3',c_k]
      go_enter Tryz.func72,Tryz.ntmps72
      go_wp2_with fail
      go_ret
      exact ⟨by rw[HS.out]; rfl,(Below.refl _ _).alloc (Nat.le_refl _) _⟩
     ·have HS:Hid (qd 1 n s il kl=true):=by simp[Hid,qd,qq,qu,qt,qr,m1,m2,t2,t3',c_k]
      go_enter Tryz.func72,Tryz.ntmps72
      go_wp2_with fail
      go_ret
      exact ⟨by rw[HS.out]; rfl,(Below.refl _ _).alloc (Nat.le_refl _) _⟩
    ·have t3:0 < il:=by simpa using c_i0
     have t3':((il:Int) == 0)=false:=by simp; omega
     have HS:Hid (qd 1 n s il kl=false):=by simp[Hid,qd,qq,qu,qt,qr,m1,m2,t2,t3']
     go_enter Tryz.func72,Tryz.ntmps72
     go_wp2_with fail
     go_ret
     exact ⟨by rw[HS.out]; rfl,(Below.refl _ _).alloc (Nat.le_refl _) _⟩
   ·have t2:s.toList.isEmpty=false:=by simpa using c_s0
    have HS:Hid (qd 1 n s il kl=false):=by simp[Hid,qd,qq,qu,qt,qr,m1,m2,t2]
    go_enter Tryz.func72,Tryz.ntmps72
    go_wp2_with fail
    go_ret
    exact ⟨by rw[HS.out]; rfl,(Below.refl _ _).alloc (Nat.le_refl _) _⟩
 ·obtain ⟨m1,m2⟩:(n != 0)=true∧(n != 1)=true:=by simpa using c_n01
  have m3:(n == 0)=false:=by simpa [bne] using m1
  have m4:(n == 1)=false:=by simpa [bne] using m2
  have HS:Hid (qd 1 n s il kl=false):=by simp[Hid,qd,qq,qu,qt,qr,m3,m4]
  go_enter Tryz.func72,Tryz.ntmps72
  go_wp2_with fail
  go_ret
  exact ⟨by rw[HS.out]; rfl,(Below.refl _ _).alloc (Nat.le_refl _) _⟩
set_option maxRecDepth 100000 in
set_option maxHeartbeats 1000000 in
theorem qx1 (n:Int) (s:ByteArray) (ia:Option Addr) (il ic:Nat) (ka:Option Addr) (kl kc:Nat) (w:World) (_h1:il≤1000000000000000) (_h2:kl≤1000000000000000) :
  Calls Tryz.prog 72 #[.agg #[.int .i64 2,.int .i64 n,.string s,.slice ia il ic,.slice ka kl kc]] w fun e w'=>e=.returned (.bool (qd 2 n s il kl))∧Below w.heap.size w w':=by
 cases c_s0:((!s.toList.isEmpty))
 ·have t2:s.toList.isEmpty=true:=by simpa using c_s0
  cases c_i0:(decide (0 < il))
  ·have t3:il≤0:=by simpa using c_i0
   have t3':((il:Int) == 0)=true:=by simp; omega
   cases c_k:((kl:Int) == 0)
   ·have HS:Hid (qd 2 n s il kl=false):=by simp[Hid,qd,qq,qu,qt,qr,t2,t3',c_k]
    go_enter Tryz.func72,Tryz.ntmps72
    go_wp2_with fail
    go_ret
    exact ⟨by rw[HS.out]; rfl,(Below.refl _ _).alloc (Nat.le_refl _) _⟩
   ·have HS:Hid (qd 2 n s il kl=true):=by simp[Hid,qd,qq,qu,qt,qr,t2,t3',c_k]
    go_enter Tryz.func72,Tryz.ntmps72
    go_wp2_with fail
    go_ret
    exact ⟨by rw[HS.out]; rfl,(Below.refl _ _).alloc (Nat.le_refl _) _⟩
  ·have t3:0 < il:=by simpa using c_i0
   have t3':((il:Int) == 0)=false:=by simp; omega
   have HS:Hid (qd 2 n s il kl=false):=by simp[Hid,qd,qq,qu,qt,qr,t2,t3']
   go_enter Tryz.func72,Tryz.ntmps72
   go_wp2_with fail
   go_ret
   exact ⟨by rw[HS.out]; rfl,(Below.refl _ _).alloc (Nat.le_refl _) _⟩
 ·have t2:s.toList.isEmpty=false:=by simpa using c_s0
  have HS:Hid (qd 2 n s il kl=false):=by simp[Hid,qd,qq,qu,qt,qr,t2]
  go_enter Tryz.func72,Tryz.ntmps72
  go_wp2_with fail
  go_ret
  exact ⟨by rw[HS.out]; rfl,(Below.refl _ _).alloc (Nat.le_refl _) _⟩
set_option maxRecDepth 100000 in
set_option maxHeartbeats 1000000 in
theorem qx2 (n:Int) (s:ByteArray) (ia:Option Addr) (il ic:Nat) (ka:Option Addr) (kl kc:Nat) (w:World) (_h1:il≤1000000000000000) (_h2:kl≤1000000000000000) :
  Calls Tryz.prog 72 #[.agg #[.int .i64 3,.int .i64 n,.string s,.slice ia il ic,.slice ka kl kc]] w fun e w'=>e=.returned (.bool (qd 3 n s il kl))∧Below w.heap.size w w':=by
 cases c_n0:((n != 0))
 ·have t1:(n != 0)=false:=c_n0
  have c_n0':(n == 0)=true:=by simpa [bne] using c_n0
  cases c_i0:(decide (0 < il))
  ·have t3:il≤0:=by simpa using c_i0
   have t3':((il:Int) == 0)=true:=by simp; omega
   cases c_k:((kl:Int) == 0)
   ·have HS:Hid (qd 3 n s il kl=false):=by simp[Hid,qd,qq,qu,qt,qr,c_n0',t3',c_k]
    go_enter Tryz.func72,Tryz.ntmps72
    go_wp2_with fail
    go_ret
    exact ⟨by rw[HS.out]; rfl,(Below.refl _ _).alloc (Nat.le_refl _) _⟩
   ·have HS:Hid (qd 3 n s il kl=true):=by simp[Hid,qd,qq,qu,qt,qr,c_n0',t3',c_k]
    go_enter Tryz.func72,Tryz.ntmps72
    go_wp2_with fail
    go_ret
    exact ⟨by rw[HS.out]; rfl,(Below.refl _ _).alloc (Nat.le_refl _) _⟩
  ·have t3:0 < il:=by simpa using c_i0
   have t3':((il:Int) == 0)=false:=by simp; omega
   have HS:Hid (qd 3 n s il kl=false):=by simp[Hid,qd,qq,qu,qt,qr,c_n0',t3']
   go_enter Tryz.func72,Tryz.ntmps72
   go_wp2_with fail
   go_ret
   exact ⟨by rw[HS.out]; rfl,(Below.refl _ _).alloc (Nat.le_refl _) _⟩
 ·have t1:(n != 0)=true:=c_n0
  have c_n0':(n == 0)=false:=by simpa [bne] using c_n0
  have HS:Hid (qd 3 n s il kl=false):=by simp[Hid,qd,qq,qu,qt,qr,c_n0']
  go_enter Tryz.func72,Tryz.ntmps72
  go_wp2_with fail
  go_ret
  exact ⟨by rw[HS.out]; rfl,(Below.refl _ _).alloc (Nat.le_refl _) _⟩
set_option maxRecDepth 100000 in
set_option maxHeartbeats 1000000 in
theorem qx3 (n:Int) (s:ByteArray) (ia:Option Addr) (il ic:Nat) (ka:Option Addr) (kl kc:Nat) (w:World) (_h1:il≤1000000000000000) (_h2:kl≤1000000000000000) :
  Calls Tryz.prog 72 #[.agg #[.int .i64 4,.int .i64 n,.string s,.slice ia il ic,.slice ka kl kc]] w fun e w'=>e=.returned (.bool (qd 4 n s il kl))∧Below w.heap.size w w':=by
 cases c_n0:((n != 0))
 ·have t1:(n != 0)=false:=c_n0
  have c_n0':(n == 0)=true:=by simpa [bne] using c_n0
  cases c_s0:((!s.toList.isEmpty))
  ·have t2:s.toList.isEmpty=true:=by simpa using c_s0
   cases c_k:((kl:Int) == 0)
   ·have HS:Hid (qd 4 n s il kl=false):=by simp[Hid,qd,qq,qu,qt,qr,c_n0',t2,c_k]
    go_enter Tryz.func72,Tryz.ntmps72
    go_wp2_with fail
    go_ret
    exact ⟨by rw[HS.out]; rfl,(Below.refl _ _).alloc (Nat.le_refl _) _⟩
   ·have HS:Hid (qd 4 n s il kl=true):=by simp[Hid,qd,qq,qu,qt,qr,c_n0',t2,c_k]
    go_enter Tryz.func72,Tryz.ntmps72
    go_wp2_with fail
    go_ret
    exact ⟨by rw[HS.out]; rfl,(Below.refl _ _).alloc (Nat.le_refl _) _⟩
  ·have t2:s.toList.isEmpty=false:=by simpa using c_s0
   have HS:Hid (qd 4 n s il kl=false):=by simp[Hid,qd,qq,qu,qt,qr,c_n0',t2]
   go_enter Tryz.func72,Tryz.ntmps72
   go_wp2_with fail
   go_ret
   exact ⟨by rw[HS.out]; rfl,(Below.refl _ _).alloc (Nat.le_refl _) _⟩
 ·have t1:(n != 0)=true:=c_n0
  have c_n0':(n == 0)=false:=by simpa [bne] using c_n0
  have HS:Hid (qd 4 n s il kl=false):=by simp[Hid,qd,qq,qu,qt,qr,c_n0']
  go_enter Tryz.func72,Tryz.ntmps72
  go_wp2_with fail
  go_ret
  exact ⟨by rw[HS.out]; rfl,(Below.refl _ _).alloc (Nat.le_refl _) _⟩
set_option maxRecDepth 100000 in
set_option maxHeartbeats 1000000 in
theorem qx4 (n:Int) (s:ByteArray) (ia:Option Addr) (il ic:Nat) (ka:Option Addr) (kl kc:Nat) (w:World) (_h1:il≤1000000000000000) (_h2:kl≤1000000000000000) :
  Calls Tryz.prog 72 #[.agg #[.int .i64 5,.int .i64 n,.string s,.slice ia il ic,.slice ka kl kc]] w fun e w'=>e=.returned (.bool (qd 5 n s il kl))∧Below w.heap.size w w':=by
 cases c_n0:((n != 0))
 ·have t1:(n != 0)=false:=c_n0
  have c_n0':(n == 0)=true:=by simpa [bne] using c_n0
  cases c_s0:((!s.toList.isEmpty))
  ·have t2:s.toList.isEmpty=true:=by simpa using c_s0
   cases c_k:((kl:Int) == (il:Int))
   ·have HS:Hid (qd 5 n s il kl=false):=by simp[Hid,qd,qq,qu,qt,qr,c_n0',t2,c_k]
    go_enter Tryz.func72,Tryz.ntmps72
    go_wp2_with fail
    go_ret
    exact ⟨by rw[HS.out]; rfl,(Below.refl _ _).alloc (Nat.le_refl _) _⟩
   ·have HS:Hid (qd 5 n s il kl=true):=by simp[Hid,qd,qq,qu,qt,qr,c_n0',t2,c_k]
    go_enter Tryz.func72,Tryz.ntmps72
    go_wp2_with fail
    go_ret
    exact ⟨by rw[HS.out]; rfl,(Below.refl _ _).alloc (Nat.le_refl _) _⟩
  ·have t2:s.toList.isEmpty=false:=by simpa using c_s0
   have HS:Hid (qd 5 n s il kl=false):=by simp[Hid,qd,qq,qu,qt,qr,c_n0',t2]
   go_enter Tryz.func72,Tryz.ntmps72
   go_wp2_with fail
   go_ret
   exact ⟨by rw[HS.out]; rfl,(Below.refl _ _).alloc (Nat.le_refl _) _⟩
 ·have t1:(n != 0)=true:=c_n0
  have c_n0':(n == 0)=false:=by simpa [bne] using c_n0
  have HS:Hid (qd 5 n s il kl=false):=by simp[Hid,qd,qq,qu,qt,qr,c_n0']
  go_enter Tryz.func72,Tryz.ntmps72
  go_wp2_with fail
  go_ret
  exact ⟨by rw[HS.out]; rfl,(Below.refl _ _).alloc (Nat.le_refl _) _⟩
set_option maxRecDepth 100000 in
set_option maxHeartbeats 1000000 in
theorem qx5 (n:Int) (s:ByteArray) (ia:Option Addr) (il ic:Nat) (ka:Option Addr) (kl kc:Nat) (w:World) (_h1:il≤1000000000000000) (_h2:kl≤1000000000000000) :
  Calls Tryz.prog 72 #[.agg #[.int .i64 6,.int .i64 n,.string s,.slice ia il ic,.slice ka kl kc]] w fun e w'=>e=.returned (.bool (qd 6 n s il kl))∧Below w.heap.size w w':=by
 cases c_n0:((n != 0))
 ·have t1:(n != 0)=false:=c_n0
  have c_n0':(n == 0)=true:=by simpa [bne] using c_n0
  cases c_s0:((!s.toList.isEmpty))
  ·have t2:s.toList.isEmpty=true:=by simpa using c_s0
   cases c_i0:(decide (0 < il))
   ·have t3:il≤0:=by simpa using c_i0
    have t3':((il:Int) == 0)=true:=by simp; omega
    cases c_k:((kl:Int) == 0)
    ·have HS:Hid (qd 6 n s il kl=false):=by simp[Hid,qd,qq,qu,qt,qr,c_n0',t2,t3',c_k]
     go_enter Tryz.func72,Tryz.ntmps72
     go_wp2_with fail
     go_ret
     exact ⟨by rw[HS.out]; rfl,(Below.refl _ _).alloc (Nat.le_refl _) _⟩
    ·have HS:Hid (qd 6 n s il kl=true):=by simp[Hid,qd,qq,qu,qt,qr,c_n0',t2,t3',c_k]
     go_enter Tryz.func72,Tryz.ntmps72
     go_wp2_with fail
     go_ret
     exact ⟨by rw[HS.out]; rfl,(Below.refl _ _).alloc (Nat.le_refl _) _⟩
   ·have t3:0 < il:=by simpa using c_i0
    have t3':((il:Int) == 0)=false:=by simp; omega
    have HS:Hid (qd 6 n s il kl=false):=by simp[Hid,qd,qq,qu,qt,qr,c_n0',t2,t3']
    go_enter Tryz.func72,Tryz.ntmps72
    go_wp2_with fail
    go_ret
    exact ⟨by rw[HS.out]; rfl,(Below.refl _ _).alloc (Nat.le_refl _) _⟩
  ·have t2:s.toList.isEmpty=false:=by simpa using c_s0
   have HS:Hid (qd 6 n s il kl=false):=by simp[Hid,qd,qq,qu,qt,qr,c_n0',t2]
   go_enter Tryz.func72,Tryz.ntmps72
   go_wp2_with fail
   go_ret
   exact ⟨by rw[HS.out]; rfl,(Below.refl _ _).alloc (Nat.le_refl _) _⟩
 ·have t1:(n != 0)=true:=c_n0
  have c_n0':(n == 0)=false:=by simpa [bne] using c_n0
  have HS:Hid (qd 6 n s il kl=false):=by simp[Hid,qd,qq,qu,qt,qr,c_n0']
  go_enter Tryz.func72,Tryz.ntmps72
  go_wp2_with fail
  go_ret
  exact ⟨by rw[HS.out]; rfl,(Below.refl _ _).alloc (Nat.le_refl _) _⟩
set_option maxRecDepth 100000 in
set_option maxHeartbeats 1000000 in
theorem qx6 (k n:Int) (s:ByteArray) (ia:Option Addr) (il ic:Nat) (ka:Option Addr) (kl kc:Nat) (w:World) (h:k < 0∨6 < k) :
  Calls Tryz.prog 72 #[.agg #[.int .i64 k,.int .i64 n,.string s,.slice ia il ic,.slice ka kl kc]] w fun e w'=>e=.returned (.bool (qd k n s il kl))∧Below w.heap.size w w':=by
 have HS:Hid (qd k n s il kl=false):=by
  unfold Hid qd
  rcases h with h | h
  ·rw[decide_eq_false (by omega)]; rfl
  ·rw[decide_eq_false (show ¬ k≤6 by omega),Bool.and_false]; rfl
 rcases h with h | h
 all_goals
  go_enter Tryz.func72,Tryz.ntmps72
  go_wp2_with fail
  go_ret
  exact ⟨by rw[HS.out]; rfl,(Below.refl _ _).alloc (Nat.le_refl _) _⟩
theorem q84 (x:Val) (w:World) (v:Value) (hv:q1l w v x) (hf:x.Fits) :
  Calls Tryz.prog 72 #[v] w fun e w'=>e=.returned (.bool (q3e x))∧Below w.heap.size w w':=by
 obtain ⟨vi,vk,rfl,hk,hi⟩:=hv.open
 obtain ⟨ka,kc,rfl,hkc⟩:=hk.slice
 obtain ⟨ia,ic,rfl,hic⟩:=hi.slice
 obtain ⟨_,_,_,f4,f5,_,_⟩:=hf.parts
 unfold q3e
 by_cases h:x.kind < 0∨6 < x.kind
 ·exact qx6 _ _ _ _ _ _ _ _ _ w h
 ·have hk:x.kind=0∨x.kind=1∨x.kind=2∨x.kind=3∨x.kind=4∨x.kind=5∨x.kind=6:=by omega
  rcases hk with h | h | h | h | h | h | h <;> rw[h]
  ·exact qwz _ _ _ _ _ _ _ _ w (by omega) (by omega)
  ·exact qx0 _ _ _ _ _ _ _ _ w (by omega) (by omega)
  ·exact qx1 _ _ _ _ _ _ _ _ w (by omega) (by omega)
  ·exact qx2 _ _ _ _ _ _ _ _ w (by omega) (by omega)
  ·exact qx3 _ _ _ _ _ _ _ _ w (by omega) (by omega)
  ·exact qx4 _ _ _ _ _ _ _ _ w (by omega) (by omega)
  ·exact qx5 _ _ _ _ _ _ _ _ w (by omega) (by omega)
end Go.Proofs.YtpidpioifnnllaaGreatDoor
