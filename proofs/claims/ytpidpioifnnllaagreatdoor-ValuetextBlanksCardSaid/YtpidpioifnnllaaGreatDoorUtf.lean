/-
  UTF-8: the reference's Decode and Valid, and the program's strlit.Valid.
-/
import Derived.Test.YtpidpioifnnllaaGreatDoorVal
import Derived.Lib.ValidLaws
import Derived.Deep.QuietTactic
import Derived.BigQuiet
import Derived.WalkSmall
import Derived.IntWalk
namespace Go.Proofs.YtpidpioifnnllaaGreatDoor
open Go.RowKit
def qb (s:ByteArray) (i:Nat):Nat:=(s.data.toList.getD i 0).toNat
def qi (s:ByteArray) (i:Nat) (lo hi:Int):Bool:=decide (i < s.size) && decide (lo≤(qb s i:Int)) && decide ((qb s i:Int)≤hi)
def lead (b:Nat):Nat×Int×Int :=
 if b < 128 then (1,0,0) else if b < 194 then (0,0,0) else if b < 224 then (2,128,191) else if b=224 then (3,160,191) else if b < 237 then (3,128,191)
 else if b=237 then (3,128,159) else if b < 240 then (3,128,191) else if b=240 then (4,144,191) else if b < 244 then (4,128,191) else if b=244 then (4,128,143) else (0,0,0)
def rlen (s:ByteArray) (i:Nat):Nat :=
 if (lead (qb s i)).1=1 then 1
 else if (lead (qb s i)).1=2 then (if qi s (i+1) (lead (qb s i)).2.1 (lead (qb s i)).2.2 then 2 else 0)
 else if (lead (qb s i)).1=3 then (if qi s (i+1) (lead (qb s i)).2.1 (lead (qb s i)).2.2 && qi s (i+2) 128 191 then 3 else 0)
 else if (lead (qb s i)).1=4 then (if qi s (i+1) (lead (qb s i)).2.1 (lead (qb s i)).2.2 && qi s (i+2) 128 191 && qi s (i+3) 128 191 then 4 else 0)
 else 0
def q3f (k:Nat) (e:Ending):Prop:=∃ c,e=.returned (.tuple #[.int .i64 c,.int .i64 k])
theorem q3i (s:ByteArray) (i:Nat) (h:i < s.size):(s[i].toNat:Int)=qb s i:=by
 unfold qb
 rw[List.getD_eq_getElem?_getD,List.getElem?_eq_getElem (by rw[Array.length_toList,ByteArray.size_data]; exact h)]
 rfl
theorem q8h (s:ByteArray) (i:Nat):qb s i < 256:=(s.data.toList.getD i 0).toNat_lt
theorem q16 {s:ByteArray} {i:Nat} {lo hi:Int} (h:qi s i lo hi=true):i < s.size:=by
 simp only[qi,Bool.and_eq_true,decide_eq_true_eq]at h; exact h.1.1
set_option maxHeartbeats 1000000 in
theorem qm (s:ByteArray) (i lo hi:Int) (w:World) (hi1:0≤i) (hi2:i≤140737488351240) :
  Calls Tryz.prog 127 #[.string s,.int .i64 i,.int .u8 lo,.int .u8 hi] w fun e w'=>e=.returned (.bool (qi s i.toNat lo hi))∧w=w':=by
 obtain ⟨i,rfl⟩:=Int.eq_ofNat_of_zero_le hi1
 rw[Int.toNat_natCast]
 have HC:=Lib.hid (show qi s i lo hi=(decide (i < s.size) && decide (lo≤(qb s i:Int)) && decide ((qb s i:Int)≤hi)) from rfl)
 by_cases h:i < s.size
 ·have hb:=q3i s i h
  rw[← hb]at HC
  clear hb
  by_cases h1:lo≤(s[i].toNat:Int)
  ·by_cases h2:(s[i].toNat:Int)≤hi
   all_goals
    first | have HR:=Lib.hid (show qi s i lo hi=true by rw[HC.out,decide_eq_true h,decide_eq_true h1,decide_eq_true h2]; rfl) | have HR:=Lib.hid (show qi s i lo hi=false by rw[HC.out,decide_eq_true h,decide_eq_true h1,decide_eq_false h2]; rfl)
    go_enter Tryz.func127,Tryz.ntmps127
    go_wp2
    go_ret
    exact ⟨by rw[HR.out]; rfl,rfl⟩
  ·have HR:=Lib.hid (show qi s i lo hi=false by rw[HC.out,decide_eq_true h,decide_eq_false h1]; rfl)
   go_enter Tryz.func127,Tryz.ntmps127
   go_wp2
   go_ret
   exact ⟨by rw[HR.out]; rfl,rfl⟩
 ·have HR:=Lib.hid (show qi s i lo hi=false by rw[HC.out,decide_eq_false h]; rfl)
  go_enter Tryz.func127,Tryz.ntmps127
  go_wp2
  go_ret
  exact ⟨by rw[HR.out]; rfl,rfl⟩
set_option maxRecDepth 100000 in
set_option maxHeartbeats 1000000 in
theorem qva (s:ByteArray) (i:Nat) (w:World) (_hs:s.size≤140737488351232) (h:i < s.size) (hc:qb s i < 128) :
  Calls Tryz.prog 108 #[.string s,.int .i64 i] w fun e w'=>q3f (rlen s i) e∧Below w.heap.size w w':=by
 have hb:=q3i s i h
 have hL:lead (qb s i)=(1,0,0):=by unfold lead; repeat (first | rw[if_pos (by omega)] | rw[if_neg (by omega)])
 obtain ⟨b,hx⟩:∃ b:Nat,qb s i=b:=⟨_,rfl⟩
 have g:(s[i].toNat:Int) < 128:=by omega
 have HR:Hid (rlen s i=1):=by unfold Hid rlen; rw[hL]; rfl
 clear hb hL hx hc
 go_enter Tryz.func108,Tryz.ntmps108
 go_wp2
 go_ret2
 exact ⟨⟨_,by rw[HR.out]; rfl⟩,Below.refl _ _⟩
set_option maxRecDepth 100000 in
set_option maxHeartbeats 1000000 in
theorem qvb (s:ByteArray) (i:Nat) (w:World) (_hs:s.size≤140737488351232) (h:i < s.size) (hc:128≤qb s i∧qb s i < 194) :
  Calls Tryz.prog 108 #[.string s,.int .i64 i] w fun e w'=>q3f (rlen s i) e∧Below w.heap.size w w':=by
 have hb:=q3i s i h
 have hL:lead (qb s i)=(0,0,0):=by unfold lead; repeat (first | rw[if_pos (by omega)] | rw[if_neg (by omega)])
 obtain ⟨b,hx⟩:∃ b:Nat,qb s i=b:=⟨_,rfl⟩
 have g:128≤(s[i].toNat:Int)∧(s[i].toNat:Int) < 194:=by omega
 have HR:Hid (rlen s i=0):=by unfold Hid rlen; rw[hL]; rfl
 clear hb hL hx hc
 go_enter Tryz.func108,Tryz.ntmps108
 go_wp2
 go_ret2
 exact ⟨⟨_,by rw[HR.out]; rfl⟩,Below.refl _ _⟩
set_option maxRecDepth 100000 in
set_option maxHeartbeats 1000000 in
theorem qvc (s:ByteArray) (i:Nat) (w:World) (hs:s.size≤140737488351232) (h:i < s.size) (hc:194≤qb s i∧qb s i < 224) :
  Calls Tryz.prog 108 #[.string s,.int .i64 i] w fun e w'=>q3f (rlen s i) e∧Below w.heap.size w w':=by
 have hb:=q3i s i h
 have hL:lead (qb s i)=(2,128,191):=by unfold lead; repeat (first | rw[if_pos (by omega)] | rw[if_neg (by omega)])
 obtain ⟨b,hx⟩:∃ b:Nat,qb s i=b:=⟨_,rfl⟩
 have g:194≤(s[i].toNat:Int)∧(s[i].toNat:Int) < 224:=by omega
 have HR0:rlen s i=(if qi s (i+1) 128 191 then 2 else 0):=by unfold rlen; rw[hL]; rfl
 have j1:(i:Int)+1=((i+1:Nat):Int):=by omega
 clear hb hL hx hc j1
 cases e0:(qi s (i+1) 128 191)
 ·have HR:Hid (rlen s i=0):=by unfold Hid; rw[HR0,e0]; rfl
  have He0:=Lib.hid e0
  clear HR0 e0
  go_enter Tryz.func108,Tryz.ntmps108
  go_wp2_with fail
  refine (qm _ _ _ _ _ (by omega) (by omega)).mono ?_
  rw[show ((i:Int)+1).toNat=i+1 by omega,He0.out]
  rintro e w' ⟨rfl,rfl⟩
  go_wp2
  go_ret2
  exact ⟨⟨_,by rw[HR.out]; rfl⟩,Below.refl _ _⟩
 ·have HR:Hid (rlen s i=2):=by unfold Hid; rw[HR0,e0]; rfl
  have He0:=Lib.hid e0
  have le0:=q16 e0
  clear HR0 e0
  go_enter Tryz.func108,Tryz.ntmps108
  go_wp2_with fail
  refine (qm _ _ _ _ _ (by omega) (by omega)).mono ?_
  rw[show ((i:Int)+1).toNat=i+1 by omega,He0.out]
  rintro e w' ⟨rfl,rfl⟩
  go_wp2
  go_ret2
  exact ⟨⟨_,by rw[HR.out]; rfl⟩,Below.refl _ _⟩
set_option maxRecDepth 100000 in
set_option maxHeartbeats 1000000 in
theorem qvd (s:ByteArray) (i:Nat) (w:World) (hs:s.size≤140737488351232) (h:i < s.size) (hc:qb s i=224) :
  Calls Tryz.prog 108 #[.string s,.int .i64 i] w fun e w'=>q3f (rlen s i) e∧Below w.heap.size w w':=by
 have hb:=q3i s i h
 have hL:lead (qb s i)=(3,160,191):=by unfold lead; repeat (first | rw[if_pos (by omega)] | rw[if_neg (by omega)])
 obtain ⟨b,hx⟩:∃ b:Nat,qb s i=b:=⟨_,rfl⟩
 have g:224≤(s[i].toNat:Int)∧(s[i].toNat:Int)≤224:=by omega
 have HR0:rlen s i=(if qi s (i+1) 160 191 && qi s (i+2) 128 191 then 3 else 0):=by unfold rlen; rw[hL]; rfl
 have j1:(i:Int)+1=((i+1:Nat):Int):=by omega
 clear hb hL hx hc j1
 cases e0:(qi s (i+1) 160 191)
 ·have HR:Hid (rlen s i=0):=by unfold Hid; rw[HR0,e0]; rfl
  have He0:=Lib.hid e0
  clear HR0 e0
  go_enter Tryz.func108,Tryz.ntmps108
  go_wp2_with fail
  refine (qm _ _ _ _ _ (by omega) (by omega)).mono ?_
  rw[show ((i:Int)+1).toNat=i+1 by omega,He0.out]
  rintro e w' ⟨rfl,rfl⟩
  go_wp2
  go_ret2
  exact ⟨⟨_,by rw[HR.out]; rfl⟩,Below.refl _ _⟩
 ·cases e1:(qi s (i+2) 128 191)
  ·have HR:Hid (rlen s i=0):=by unfold Hid; rw[HR0,e0,e1]; rfl
   have He0:=Lib.hid e0
   have le0:=q16 e0
   have He1:=Lib.hid e1
   clear HR0 e0 e1
   go_enter Tryz.func108,Tryz.ntmps108
   go_wp2_with fail
   refine (qm _ _ _ _ _ (by omega) (by omega)).mono ?_
   rw[show ((i:Int)+1).toNat=i+1 by omega,He0.out]
   rintro e w' ⟨rfl,rfl⟩
   go_wp2_with fail
   refine (qm _ _ _ _ _ (by omega) (by omega)).mono ?_
   rw[show ((i:Int)+2).toNat=i+2 by omega,He1.out]
   rintro e w' ⟨rfl,rfl⟩
   go_wp2
   go_ret2
   exact ⟨⟨_,by rw[HR.out]; rfl⟩,Below.refl _ _⟩
  ·have HR:Hid (rlen s i=3):=by unfold Hid; rw[HR0,e0,e1]; rfl
   have He0:=Lib.hid e0
   have le0:=q16 e0
   have He1:=Lib.hid e1
   have le1:=q16 e1
   clear HR0 e0 e1
   go_enter Tryz.func108,Tryz.ntmps108
   go_wp2_with fail
   refine (qm _ _ _ _ _ (by omega) (by omega)).mono ?_
   rw[show ((i:Int)+1).toNat=i+1 by omega,He0.out]
   rintro e w' ⟨rfl,rfl⟩
   go_wp2_with fail
   refine (qm _ _ _ _ _ (by omega) (by omega)).mono ?_
   rw[show ((i:Int)+2).toNat=i+2 by omega,He1.out]
   rintro e w' ⟨rfl,rfl⟩
   go_wp2
   have z1:(0:Int)≤(i:Int)+1:=by omega
   have y1:(i:Int)+1 < (s.size:Int):=by omega
   have z2:(0:Int)≤(i:Int)+2:=by omega
   have y2:(i:Int)+2 < (s.size:Int):=by omega
   have x1:((i:Int)+1).toNat=i+1:=by omega
   have x2:((i:Int)+2).toNat=i+2:=by omega
   have w1:IntKind.i64.wrap ((i:Int)+1)=(i:Int)+1:=IntWalk.i64_in _ (by omega)
   have w2:IntKind.i64.wrap ((i:Int)+2)=(i:Int)+2:=IntWalk.i64_in _ (by omega)
   go_quiet (fail)

   go_wp2
   go_ret2
   exact ⟨⟨_,by rw[HR.out]; rfl⟩,below_drewN (Below.refl _ _) _⟩
set_option maxRecDepth 100000 in
set_option maxHeartbeats 1000000 in
theorem qve (s:ByteArray) (i:Nat) (w:World) (hs:s.size≤140737488351232) (h:i < s.size) (hc:224 < qb s i∧qb s i < 237) :
  Calls Tryz.prog 108 #[.string s,.int .i64 i] w fun e w'=>q3f (rlen s i) e∧Below w.heap.size w w':=by
 have hb:=q3i s i h
 have hL:lead (qb s i)=(3,128,191):=by unfold lead; repeat (first | rw[if_pos (by omega)] | rw[if_neg (by omega)])
 obtain ⟨b,hx⟩:∃ b:Nat,qb s i=b:=⟨_,rfl⟩
 have g:224 < (s[i].toNat:Int)∧(s[i].toNat:Int) < 237:=by omega
 have HR0:rlen s i=(if qi s (i+1) 128 191 && qi s (i+2) 128 191 then 3 else 0):=by unfold rlen; rw[hL]; rfl
 have j1:(i:Int)+1=((i+1:Nat):Int):=by omega
 clear hb hL hx hc j1
 cases e0:(qi s (i+1) 128 191)
 ·have HR:Hid (rlen s i=0):=by unfold Hid; rw[HR0,e0]; rfl
  have He0:=Lib.hid e0
  clear HR0 e0
  go_enter Tryz.func108,Tryz.ntmps108
  go_wp2_with fail
  refine (qm _ _ _ _ _ (by omega) (by omega)).mono ?_
  rw[show ((i:Int)+1).toNat=i+1 by omega,He0.out]
  rintro e w' ⟨rfl,rfl⟩
  go_wp2
  go_ret2
  exact ⟨⟨_,by rw[HR.out]; rfl⟩,Below.refl _ _⟩
 ·cases e1:(qi s (i+2) 128 191)
  ·have HR:Hid (rlen s i=0):=by unfold Hid; rw[HR0,e0,e1]; rfl
   have He0:=Lib.hid e0
   have le0:=q16 e0
   have He1:=Lib.hid e1
   clear HR0 e0 e1
   go_enter Tryz.func108,Tryz.ntmps108
   go_wp2_with fail
   refine (qm _ _ _ _ _ (by omega) (by omega)).mono ?_
   rw[show ((i:Int)+1).toNat=i+1 by omega,He0.out]
   rintro e w' ⟨rfl,rfl⟩
   go_wp2_with fail
   refine (qm _ _ _ _ _ (by omega) (by omega)).mono ?_
   rw[show ((i:Int)+2).toNat=i+2 by omega,He1.out]
   rintro e w' ⟨rfl,rfl⟩
   go_wp2
   go_ret2
   exact ⟨⟨_,by rw[HR.out]; rfl⟩,Below.refl _ _⟩
  ·have HR:Hid (rlen s i=3):=by unfold Hid; rw[HR0,e0,e1]; rfl
   have He0:=Lib.hid e0
   have le0:=q16 e0
   have He1:=Lib.hid e1
   have le1:=q16 e1
   clear HR0 e0 e1
   go_enter Tryz.func108,Tryz.ntmps108
   go_wp2_with fail
   refine (qm _ _ _ _ _ (by omega) (by omega)).mono ?_
   rw[show ((i:Int)+1).toNat=i+1 by omega,He0.out]
   rintro e w' ⟨rfl,rfl⟩
   go_wp2_with fail
   refine (qm _ _ _ _ _ (by omega) (by omega)).mono ?_
   rw[show ((i:Int)+2).toNat=i+2 by omega,He1.out]
   rintro e w' ⟨rfl,rfl⟩
   go_wp2
   have z1:(0:Int)≤(i:Int)+1:=by omega
   have y1:(i:Int)+1 < (s.size:Int):=by omega
   have z2:(0:Int)≤(i:Int)+2:=by omega
   have y2:(i:Int)+2 < (s.size:Int):=by omega
   have x1:((i:Int)+1).toNat=i+1:=by omega
   have x2:((i:Int)+2).toNat=i+2:=by omega
   have w1:IntKind.i64.wrap ((i:Int)+1)=(i:Int)+1:=IntWalk.i64_in _ (by omega)
   have w2:IntKind.i64.wrap ((i:Int)+2)=(i:Int)+2:=IntWalk.i64_in _ (by omega)
   go_quiet (fail)

   go_wp2
   go_ret2
   exact ⟨⟨_,by rw[HR.out]; rfl⟩,below_drewN (Below.refl _ _) _⟩
set_option maxRecDepth 100000 in
set_option maxHeartbeats 1000000 in
theorem qvf (s:ByteArray) (i:Nat) (w:World) (hs:s.size≤140737488351232) (h:i < s.size) (hc:qb s i=237) :
  Calls Tryz.prog 108 #[.string s,.int .i64 i] w fun e w'=>q3f (rlen s i) e∧Below w.heap.size w w':=by
 have hb:=q3i s i h
 have hL:lead (qb s i)=(3,128,159):=by unfold lead; repeat (first | rw[if_pos (by omega)] | rw[if_neg (by omega)])
 obtain ⟨b,hx⟩:∃ b:Nat,qb s i=b:=⟨_,rfl⟩
 have g:237≤(s[i].toNat:Int)∧(s[i].toNat:Int)≤237:=by omega
 have HR0:rlen s i=(if qi s (i+1) 128 159 && qi s (i+2) 128 191 then 3 else 0):=by unfold rlen; rw[hL]; rfl
 have j1:(i:Int)+1=((i+1:Nat):Int):=by omega
 clear hb hL hx hc j1
 cases e0:(qi s (i+1) 128 159)
 ·have HR:Hid (rlen s i=0):=by unfold Hid; rw[HR0,e0]; rfl
  have He0:=Lib.hid e0
  clear HR0 e0
  go_enter Tryz.func108,Tryz.ntmps108
  go_wp2_with fail
  refine (qm _ _ _ _ _ (by omega) (by omega)).mono ?_
  rw[show ((i:Int)+1).toNat=i+1 by omega,He0.out]
  rintro e w' ⟨rfl,rfl⟩
  go_wp2
  go_ret2
  exact ⟨⟨_,by rw[HR.out]; rfl⟩,Below.refl _ _⟩
 ·cases e1:(qi s (i+2) 128 191)
  ·have HR:Hid (rlen s i=0):=by unfold Hid; rw[HR0,e0,e1]; rfl
   have He0:=Lib.hid e0
   have le0:=q16 e0
   have He1:=Lib.hid e1
   clear HR0 e0 e1
   go_enter Tryz.func108,Tryz.ntmps108
   go_wp2_with fail
   refine (qm _ _ _ _ _ (by omega) (by omega)).mono ?_
   rw[show ((i:Int)+1).toNat=i+1 by omega,He0.out]
   rintro e w' ⟨rfl,rfl⟩
   go_wp2_with fail
   refine (qm _ _ _ _ _ (by omega) (by omega)).mono ?_
   rw[show ((i:Int)+2).toNat=i+2 by omega,He1.out]
   rintro e w' ⟨rfl,rfl⟩
   go_wp2
   go_ret2
   exact ⟨⟨_,by rw[HR.out]; rfl⟩,Below.refl _ _⟩
  ·have HR:Hid (rlen s i=3):=by unfold Hid; rw[HR0,e0,e1]; rfl
   have He0:=Lib.hid e0
   have le0:=q16 e0
   have He1:=Lib.hid e1
   have le1:=q16 e1
   clear HR0 e0 e1
   go_enter Tryz.func108,Tryz.ntmps108
   go_wp2_with fail
   refine (qm _ _ _ _ _ (by omega) (by omega)).mono ?_
   rw[show ((i:Int)+1).toNat=i+1 by omega,He0.out]
   rintro e w' ⟨rfl,rfl⟩
   go_wp2_with fail
   refine (qm _ _ _ _ _ (by omega) (by omega)).mono ?_
   rw[show ((i:Int)+2).toNat=i+2 by omega,He1.out]
   rintro e w' ⟨rfl,rfl⟩
   go_wp2
   have z1:(0:Int)≤(i:Int)+1:=by omega
   have y1:(i:Int)+1 < (s.size:Int):=by omega
   have z2:(0:Int)≤(i:Int)+2:=by omega
   have y2:(i:Int)+2 < (s.size:Int):=by omega
   have x1:((i:Int)+1).toNat=i+1:=by omega
   have x2:((i:Int)+2).toNat=i+2:=by omega
   have w1:IntKind.i64.wrap ((i:Int)+1)=(i:Int)+1:=IntWalk.i64_in _ (by omega)
   have w2:IntKind.i64.wrap ((i:Int)+2)=(i:Int)+2:=IntWalk.i64_in _ (by omega)
   go_quiet (fail)

   go_wp2
   go_ret2
   exact ⟨⟨_,by rw[HR.out]; rfl⟩,below_drewN (Below.refl _ _) _⟩
set_option maxRecDepth 100000 in
set_option maxHeartbeats 1000000 in
theorem qvg (s:ByteArray) (i:Nat) (w:World) (hs:s.size≤140737488351232) (h:i < s.size) (hc:237 < qb s i∧qb s i < 240) :
  Calls Tryz.prog 108 #[.string s,.int .i64 i] w fun e w'=>q3f (rlen s i) e∧Below w.heap.size w w':=by
 have hb:=q3i s i h
 have hL:lead (qb s i)=(3,128,191):=by unfold lead; repeat (first | rw[if_pos (by omega)] | rw[if_neg (by omega)])
 obtain ⟨b,hx⟩:∃ b:Nat,qb s i=b:=⟨_,rfl⟩
 have g:237 < (s[i].toNat:Int)∧(s[i].toNat:Int) < 240:=by omega
 have HR0:rlen s i=(if qi s (i+1) 128 191 && qi s (i+2) 128 191 then 3 else 0):=by unfold rlen; rw[hL]; rfl
 have j1:(i:Int)+1=((i+1:Nat):Int):=by omega
 clear hb hL hx hc j1
 cases e0:(qi s (i+1) 128 191)
 ·have HR:Hid (rlen s i=0):=by unfold Hid; rw[HR0,e0]; rfl
  have He0:=Lib.hid e0
  clear HR0 e0
  go_enter Tryz.func108,Tryz.ntmps108
  go_wp2_with fail
  refine (qm _ _ _ _ _ (by omega) (by omega)).mono ?_
  rw[show ((i:Int)+1).toNat=i+1 by omega,He0.out]
  rintro e w' ⟨rfl,rfl⟩
  go_wp2
  go_ret2
  exact ⟨⟨_,by rw[HR.out]; rfl⟩,Below.refl _ _⟩
 ·cases e1:(qi s (i+2) 128 191)
  ·have HR:Hid (rlen s i=0):=by unfold Hid; rw[HR0,e0,e1]; rfl
   have He0:=Lib.hid e0
   have le0:=q16 e0
   have He1:=Lib.hid e1
   clear HR0 e0 e1
   go_enter Tryz.func108,Tryz.ntmps108
   go_wp2_with fail
   refine (qm _ _ _ _ _ (by omega) (by omega)).mono ?_
   rw[show ((i:Int)+1).toNat=i+1 by omega,He0.out]
   rintro e w' ⟨rfl,rfl⟩
   go_wp2_with fail
   refine (qm _ _ _ _ _ (by omega) (by omega)).mono ?_
   rw[show ((i:Int)+2).toNat=i+2 by omega,He1.out]
   rintro e w' ⟨rfl,rfl⟩
   go_wp2
   go_ret2
   exact ⟨⟨_,by rw[HR.out]; rfl⟩,Below.refl _ _⟩
  ·have HR:Hid (rlen s i=3):=by unfold Hid; rw[HR0,e0,e1]; rfl
   have He0:=Lib.hid e0
   have le0:=q16 e0
   have He1:=Lib.hid e1
   have le1:=q16 e1
   clear HR0 e0 e1
   go_enter Tryz.func108,Tryz.ntmps108
   go_wp2_with fail
   refine (qm _ _ _ _ _ (by omega) (by omega)).mono ?_
   rw[show ((i:Int)+1).toNat=i+1 by omega,He0.out]
   rintro e w' ⟨rfl,rfl⟩
   go_wp2_with fail
   refine (qm _ _ _ _ _ (by omega) (by omega)).mono ?_
   rw[show ((i:Int)+2).toNat=i+2 by omega,He1.out]
   rintro e w' ⟨rfl,rfl⟩
   go_wp2
   have z1:(0:Int)≤(i:Int)+1:=by omega
   have y1:(i:Int)+1 < (s.size:Int):=by omega
   have z2:(0:Int)≤(i:Int)+2:=by omega
   have y2:(i:Int)+2 < (s.size:Int):=by omega
   have x1:((i:Int)+1).toNat=i+1:=by omega
   have x2:((i:Int)+2).toNat=i+2:=by omega
   have w1:IntKind.i64.wrap ((i:Int)+1)=(i:Int)+1:=IntWalk.i64_in _ (by omega)
   have w2:IntKind.i64.wrap ((i:Int)+2)=(i:Int)+2:=IntWalk.i64_in _ (by omega)
   go_quiet (fail)

   go_wp2
   go_ret2
   exact ⟨⟨_,by rw[HR.out]; rfl⟩,below_drewN (Below.refl _ _) _⟩
set_option maxRecDepth 100000 in
set_option maxHeartbeats 1000000 in
theorem qvh (s:ByteArray) (i:Nat) (w:World) (hs:s.size≤140737488351232) (h:i < s.size) (hc:qb s i=240) :
  Calls Tryz.prog 108 #[.string s,.int .i64 i] w fun e w'=>q3f (rlen s i) e∧Below w.heap.size w w':=by
 have hb:=q3i s i h
 have hL:lead (qb s i)=(4,144,191):=by unfold lead; repeat (first | rw[if_pos (by omega)] | rw[if_neg (by omega)])
 obtain ⟨b,hx⟩:∃ b:Nat,qb s i=b:=⟨_,rfl⟩
 have g:240≤(s[i].toNat:Int)∧(s[i].toNat:Int)≤240:=by omega
 have HR0:rlen s i=(if qi s (i+1) 144 191 && qi s (i+2) 128 191 && qi s (i+3) 128 191 then 4 else 0):=by unfold rlen; rw[hL]; rfl
 have j1:(i:Int)+1=((i+1:Nat):Int):=by omega
 clear hb hL hx hc j1
 cases e0:(qi s (i+1) 144 191)
 ·have HR:Hid (rlen s i=0):=by unfold Hid; rw[HR0,e0]; rfl
  have He0:=Lib.hid e0
  clear HR0 e0
  go_enter Tryz.func108,Tryz.ntmps108
  go_wp2_with fail
  refine (qm _ _ _ _ _ (by omega) (by omega)).mono ?_
  rw[show ((i:Int)+1).toNat=i+1 by omega,He0.out]
  rintro e w' ⟨rfl,rfl⟩
  go_wp2
  go_ret2
  exact ⟨⟨_,by rw[HR.out]; rfl⟩,Below.refl _ _⟩
 ·cases e1:(qi s (i+2) 128 191)
  ·have HR:Hid (rlen s i=0):=by unfold Hid; rw[HR0,e0,e1]; rfl
   have He0:=Lib.hid e0
   have le0:=q16 e0
   have He1:=Lib.hid e1
   clear HR0 e0 e1
   go_enter Tryz.func108,Tryz.ntmps108
   go_wp2_with fail
   refine (qm _ _ _ _ _ (by omega) (by omega)).mono ?_
   rw[show ((i:Int)+1).toNat=i+1 by omega,He0.out]
   rintro e w' ⟨rfl,rfl⟩
   go_wp2_with fail
   refine (qm _ _ _ _ _ (by omega) (by omega)).mono ?_
   rw[show ((i:Int)+2).toNat=i+2 by omega,He1.out]
   rintro e w' ⟨rfl,rfl⟩
   go_wp2
   go_ret2
   exact ⟨⟨_,by rw[HR.out]; rfl⟩,Below.refl _ _⟩
  ·cases e2:(qi s (i+3) 128 191)
   ·have HR:Hid (rlen s i=0):=by unfold Hid; rw[HR0,e0,e1,e2]; rfl
    have He0:=Lib.hid e0
    have le0:=q16 e0
    have He1:=Lib.hid e1
    have le1:=q16 e1
    have He2:=Lib.hid e2
    clear HR0 e0 e1 e2
    go_enter Tryz.func108,Tryz.ntmps108
    go_wp2_with fail
    refine (qm _ _ _ _ _ (by omega) (by omega)).mono ?_
    rw[show ((i:Int)+1).toNat=i+1 by omega,He0.out]
    rintro e w' ⟨rfl,rfl⟩
    go_wp2_with fail
    refine (qm _ _ _ _ _ (by omega) (by omega)).mono ?_
    rw[show ((i:Int)+2).toNat=i+2 by omega,He1.out]
    rintro e w' ⟨rfl,rfl⟩
    go_wp2_with fail
    refine (qm _ _ _ _ _ (by omega) (by omega)).mono ?_
    rw[show ((i:Int)+3).toNat=i+3 by omega,He2.out]
    rintro e w' ⟨rfl,rfl⟩
    go_wp2
    go_ret2
    exact ⟨⟨_,by rw[HR.out]; rfl⟩,Below.refl _ _⟩
   ·have HR:Hid (rlen s i=4):=by unfold Hid; rw[HR0,e0,e1,e2]; rfl
    have He0:=Lib.hid e0
    have le0:=q16 e0
    have He1:=Lib.hid e1
    have le1:=q16 e1
    have He2:=Lib.hid e2
    have le2:=q16 e2
    clear HR0 e0 e1 e2
    go_enter Tryz.func108,Tryz.ntmps108
    go_wp2_with fail
    refine (qm _ _ _ _ _ (by omega) (by omega)).mono ?_
    rw[show ((i:Int)+1).toNat=i+1 by omega,He0.out]
    rintro e w' ⟨rfl,rfl⟩
    go_wp2_with fail
    refine (qm _ _ _ _ _ (by omega) (by omega)).mono ?_
    rw[show ((i:Int)+2).toNat=i+2 by omega,He1.out]
    rintro e w' ⟨rfl,rfl⟩
    go_wp2_with fail
    refine (qm _ _ _ _ _ (by omega) (by omega)).mono ?_
    rw[show ((i:Int)+3).toNat=i+3 by omega,He2.out]
    rintro e w' ⟨rfl,rfl⟩
    go_wp2
    have z1:(0:Int)≤(i:Int)+1:=by omega
    have y1:(i:Int)+1 < (s.size:Int):=by omega
    have z2:(0:Int)≤(i:Int)+2:=by omega
    have y2:(i:Int)+2 < (s.size:Int):=by omega
    have z3:(0:Int)≤(i:Int)+3:=by omega
    have y3:(i:Int)+3 < (s.size:Int):=by omega
    have x1:((i:Int)+1).toNat=i+1:=by omega
    have x2:((i:Int)+2).toNat=i+2:=by omega
    have x3:((i:Int)+3).toNat=i+3:=by omega
    have w1:IntKind.i64.wrap ((i:Int)+1)=(i:Int)+1:=IntWalk.i64_in _ (by omega)
    have w2:IntKind.i64.wrap ((i:Int)+2)=(i:Int)+2:=IntWalk.i64_in _ (by omega)
    have w3:IntKind.i64.wrap ((i:Int)+3)=(i:Int)+3:=IntWalk.i64_in _ (by omega)
    go_quiet (fail)

    go_wp2
    go_ret2
    exact ⟨⟨_,by rw[HR.out]; rfl⟩,below_drewN (Below.refl _ _) _⟩
set_option maxRecDepth 100000 in
set_option maxHeartbeats 1000000 in
theorem qvi (s:ByteArray) (i:Nat) (w:World) (hs:s.size≤140737488351232) (h:i < s.size) (hc:240 < qb s i∧qb s i < 244) :
  Calls Tryz.prog 108 #[.string s,.int .i64 i] w fun e w'=>q3f (rlen s i) e∧Below w.heap.size w w':=by
 have hb:=q3i s i h
 have hL:lead (qb s i)=(4,128,191):=by unfold lead; repeat (first | rw[if_pos (by omega)] | rw[if_neg (by omega)])
 obtain ⟨b,hx⟩:∃ b:Nat,qb s i=b:=⟨_,rfl⟩
 have g:240 < (s[i].toNat:Int)∧(s[i].toNat:Int) < 244:=by omega
 have HR0:rlen s i=(if qi s (i+1) 128 191 && qi s (i+2) 128 191 && qi s (i+3) 128 191 then 4 else 0):=by unfold rlen; rw[hL]; rfl
 have j1:(i:Int)+1=((i+1:Nat):Int):=by omega
 clear hb hL hx hc j1
 cases e0:(qi s (i+1) 128 191)
 ·have HR:Hid (rlen s i=0):=by unfold Hid; rw[HR0,e0]; rfl
  have He0:=Lib.hid e0
  clear HR0 e0
  go_enter Tryz.func108,Tryz.ntmps108
  go_wp2_with fail
  refine (qm _ _ _ _ _ (by omega) (by omega)).mono ?_
  rw[show ((i:Int)+1).toNat=i+1 by omega,He0.out]
  rintro e w' ⟨rfl,rfl⟩
  go_wp2
  go_ret2
  exact ⟨⟨_,by rw[HR.out]; rfl⟩,Below.refl _ _⟩
 ·cases e1:(qi s (i+2) 128 191)
  ·have HR:Hid (rlen s i=0):=by unfold Hid; rw[HR0,e0,e1]; rfl
   have He0:=Lib.hid e0
   have le0:=q16 e0
   have He1:=Lib.hid e1
   clear HR0 e0 e1
   go_enter Tryz.func108,Tryz.ntmps108
   go_wp2_with fail
   refine (qm _ _ _ _ _ (by omega) (by omega)).mono ?_
   rw[show ((i:Int)+1).toNat=i+1 by omega,He0.out]
   rintro e w' ⟨rfl,rfl⟩
   go_wp2_with fail
   refine (qm _ _ _ _ _ (by omega) (by omega)).mono ?_
   rw[show ((i:Int)+2).toNat=i+2 by omega,He1.out]
   rintro e w' ⟨rfl,rfl⟩
   go_wp2
   go_ret2
   exact ⟨⟨_,by rw[HR.out]; rfl⟩,Below.refl _ _⟩
  ·cases e2:(qi s (i+3) 128 191)
   ·have HR:Hid (rlen s i=0):=by unfold Hid; rw[HR0,e0,e1,e2]; rfl
    have He0:=Lib.hid e0
    have le0:=q16 e0
    have He1:=Lib.hid e1
    have le1:=q16 e1
    have He2:=Lib.hid e2
    clear HR0 e0 e1 e2
    go_enter Tryz.func108,Tryz.ntmps108
    go_wp2_with fail
    refine (qm _ _ _ _ _ (by omega) (by omega)).mono ?_
    rw[show ((i:Int)+1).toNat=i+1 by omega,He0.out]
    rintro e w' ⟨rfl,rfl⟩
    go_wp2_with fail
    refine (qm _ _ _ _ _ (by omega) (by omega)).mono ?_
    rw[show ((i:Int)+2).toNat=i+2 by omega,He1.out]
    rintro e w' ⟨rfl,rfl⟩
    go_wp2_with fail
    refine (qm _ _ _ _ _ (by omega) (by omega)).mono ?_
    rw[show ((i:Int)+3).toNat=i+3 by omega,He2.out]
    rintro e w' ⟨rfl,rfl⟩
    go_wp2
    go_ret2
    exact ⟨⟨_,by rw[HR.out]; rfl⟩,Below.refl _ _⟩
   ·have HR:Hid (rlen s i=4):=by unfold Hid; rw[HR0,e0,e1,e2]; rfl
    have He0:=Lib.hid e0
    have le0:=q16 e0
    have He1:=Lib.hid e1
    have le1:=q16 e1
    have He2:=Lib.hid e2
    have le2:=q16 e2
    clear HR0 e0 e1 e2
    go_enter Tryz.func108,Tryz.ntmps108
    go_wp2_with fail
    refine (qm _ _ _ _ _ (by omega) (by omega)).mono ?_
    rw[show ((i:Int)+1).toNat=i+1 by omega,He0.out]
    rintro e w' ⟨rfl,rfl⟩
    go_wp2_with fail
    refine (qm _ _ _ _ _ (by omega) (by omega)).mono ?_
    rw[show ((i:Int)+2).toNat=i+2 by omega,He1.out]
    rintro e w' ⟨rfl,rfl⟩
    go_wp2_with fail
    refine (qm _ _ _ _ _ (by omega) (by omega)).mono ?_
    rw[show ((i:Int)+3).toNat=i+3 by omega,He2.out]
    rintro e w' ⟨rfl,rfl⟩
    go_wp2
    have z1:(0:Int)≤(i:Int)+1:=by omega
    have y1:(i:Int)+1 < (s.size:Int):=by omega
    have z2:(0:Int)≤(i:Int)+2:=by omega
    have y2:(i:Int)+2 < (s.size:Int):=by omega
    have z3:(0:Int)≤(i:Int)+3:=by omega
    have y3:(i:Int)+3 < (s.size:Int):=by omega
    have x1:((i:Int)+1).toNat=i+1:=by omega
    have x2:((i:Int)+2).toNat=i+2:=by omega
    have x3:((i:Int)+3).toNat=i+3:=by omega
    have w1:IntKind.i64.wrap ((i:Int)+1)=(i:Int)+1:=IntWalk.i64_in _ (by omega)
    have w2:IntKind.i64.wrap ((i:Int)+2)=(i:Int)+2:=IntWalk.i64_in _ (by omega)
    have w3:IntKind.i64.wrap ((i:Int)+3)=(i:Int)+3:=IntWalk.i64_in _ (by omega)
    go_quiet (fail)

    go_wp2
    go_ret2
    exact ⟨⟨_,by rw[HR.out]; rfl⟩,below_drewN (Below.refl _ _) _⟩
set_option maxRecDepth 100000 in
set_option maxHeartbeats 1000000 in
theorem qvj (s:ByteArray) (i:Nat) (w:World) (hs:s.size≤140737488351232) (h:i < s.size) (hc:qb s i=244) :
  Calls Tryz.prog 108 #[.string s,.int .i64 i] w fun e w'=>q3f (rlen s i) e∧Below w.heap.size w w':=by
 have hb:=q3i s i h
 have hL:lead (qb s i)=(4,128,143):=by unfold lead; repeat (first | rw[if_pos (by omega)] | rw[if_neg (by omega)])
 obtain ⟨b,hx⟩:∃ b:Nat,qb s i=b:=⟨_,rfl⟩
 have g:244≤(s[i].toNat:Int)∧(s[i].toNat:Int)≤244:=by omega
 have HR0:rlen s i=(if qi s (i+1) 128 143 && qi s (i+2) 128 191 && qi s (i+3) 128 191 then 4 else 0):=by unfold rlen; rw[hL]; rfl
 have j1:(i:Int)+1=((i+1:Nat):Int):=by omega
 clear hb hL hx hc j1
 cases e0:(qi s (i+1) 128 143)
 ·have HR:Hid (rlen s i=0):=by unfold Hid; rw[HR0,e0]; rfl
  have He0:=Lib.hid e0
  clear HR0 e0
  go_enter Tryz.func108,Tryz.ntmps108
  go_wp2_with fail
  refine (qm _ _ _ _ _ (by omega) (by omega)).mono ?_
  rw[show ((i:Int)+1).toNat=i+1 by omega,He0.out]
  rintro e w' ⟨rfl,rfl⟩
  go_wp2
  go_ret2
  exact ⟨⟨_,by rw[HR.out]; rfl⟩,Below.refl _ _⟩
 ·cases e1:(qi s (i+2) 128 191)
  ·have HR:Hid (rlen s i=0):=by unfold Hid; rw[HR0,e0,e1]; rfl
   have He0:=Lib.hid e0
   have le0:=q16 e0
   have He1:=Lib.hid e1
   clear HR0 e0 e1
   go_enter Tryz.func108,Tryz.ntmps108
   go_wp2_with fail
   refine (qm _ _ _ _ _ (by omega) (by omega)).mono ?_
   rw[show ((i:Int)+1).toNat=i+1 by omega,He0.out]
   rintro e w' ⟨rfl,rfl⟩
   go_wp2_with fail
   refine (qm _ _ _ _ _ (by omega) (by omega)).mono ?_
   rw[show ((i:Int)+2).toNat=i+2 by omega,He1.out]
   rintro e w' ⟨rfl,rfl⟩
   go_wp2
   go_ret2
   exact ⟨⟨_,by rw[HR.out]; rfl⟩,Below.refl _ _⟩
  ·cases e2:(qi s (i+3) 128 191)
   ·have HR:Hid (rlen s i=0):=by unfold Hid; rw[HR0,e0,e1,e2]; rfl
    have He0:=Lib.hid e0
    have le0:=q16 e0
    have He1:=Lib.hid e1
    have le1:=q16 e1
    have He2:=Lib.hid e2
    clear HR0 e0 e1 e2
    go_enter Tryz.func108,Tryz.ntmps108
    go_wp2_with fail
    refine (qm _ _ _ _ _ (by omega) (by omega)).mono ?_
    rw[show ((i:Int)+1).toNat=i+1 by omega,He0.out]
    rintro e w' ⟨rfl,rfl⟩
    go_wp2_with fail
    refine (qm _ _ _ _ _ (by omega) (by omega)).mono ?_
    rw[show ((i:Int)+2).toNat=i+2 by omega,He1.out]
    rintro e w' ⟨rfl,rfl⟩
    go_wp2_with fail
    refine (qm _ _ _ _ _ (by omega) (by omega)).mono ?_
    rw[show ((i:Int)+3).toNat=i+3 by omega,He2.out]
    rintro e w' ⟨rfl,rfl⟩
    go_wp2
    go_ret2
    exact ⟨⟨_,by rw[HR.out]; rfl⟩,Below.refl _ _⟩
   ·have HR:Hid (rlen s i=4):=by unfold Hid; rw[HR0,e0,e1,e2]; rfl
    have He0:=Lib.hid e0
    have le0:=q16 e0
    have He1:=Lib.hid e1
    have le1:=q16 e1
    have He2:=Lib.hid e2
    have le2:=q16 e2
    clear HR0 e0 e1 e2
    go_enter Tryz.func108,Tryz.ntmps108
    go_wp2_with fail
    refine (qm _ _ _ _ _ (by omega) (by omega)).mono ?_
    rw[show ((i:Int)+1).toNat=i+1 by omega,He0.out]
    rintro e w' ⟨rfl,rfl⟩
    go_wp2_with fail
    refine (qm _ _ _ _ _ (by omega) (by omega)).mono ?_
    rw[show ((i:Int)+2).toNat=i+2 by omega,He1.out]
    rintro e w' ⟨rfl,rfl⟩
    go_wp2_with fail
    refine (qm _ _ _ _ _ (by omega) (by omega)).mono ?_
    rw[show ((i:Int)+3).toNat=i+3 by omega,He2.out]
    rintro e w' ⟨rfl,rfl⟩
    go_wp2
    have z1:(0:Int)≤(i:Int)+1:=by omega
    have y1:(i:Int)+1 < (s.size:Int):=by omega
    have z2:(0:Int)≤(i:Int)+2:=by omega
    have y2:(i:Int)+2 < (s.size:Int):=by omega
    have z3:(0:Int)≤(i:Int)+3:=by omega
    have y3:(i:Int)+3 < (s.size:Int):=by omega
    have x1:((i:Int)+1).toNat=i+1:=by omega
    have x2:((i:Int)+2).toNat=i+2:=by omega
    have x3:((i:Int)+3).toNat=i+3:=by omega
    have w1:IntKind.i64.wrap ((i:Int)+1)=(i:Int)+1:=IntWalk.i64_in _ (by omega)
    have w2:IntKind.i64.wrap ((i:Int)+2)=(i:Int)+2:=IntWalk.i64_in _ (by omega)
    have w3:IntKind.i64.wrap ((i:Int)+3)=(i:Int)+3:=IntWalk.i64_in _ (by omega)
    go_quiet (fail)

    go_wp2
    go_ret2
    exact ⟨⟨_,by rw[HR.out]; rfl⟩,below_drewN (Below.refl _ _) _⟩
set_option maxRecDepth 100000 in
set_option maxHeartbeats 1000000 in
theorem qvk (s:ByteArray) (i:Nat) (w:World) (_hs:s.size≤140737488351232) (h:i < s.size) (hc:244 < qb s i) :
  Calls Tryz.prog 108 #[.string s,.int .i64 i] w fun e w'=>q3f (rlen s i) e∧Below w.heap.size w w':=by
 have hb:=q3i s i h
 have hL:lead (qb s i)=(0,0,0):=by unfold lead; repeat (first | rw[if_pos (by omega)] | rw[if_neg (by omega)])
 obtain ⟨b,hx⟩:∃ b:Nat,qb s i=b:=⟨_,rfl⟩
 have g:244 < (s[i].toNat:Int):=by omega
 have HR:Hid (rlen s i=0):=by unfold Hid rlen; rw[hL]; rfl
 clear hb hL hx hc
 go_enter Tryz.func108,Tryz.ntmps108
 go_wp2
 go_ret2
 exact ⟨⟨_,by rw[HR.out]; rfl⟩,Below.refl _ _⟩
theorem qmn (s:ByteArray) (i:Nat) (w:World) (hs:s.size≤140737488351232) (h:i < s.size) :
  Calls Tryz.prog 108 #[.string s,.int .i64 i] w fun e w'=>q3f (rlen s i) e∧Below w.heap.size w w':=by
 by_cases ca:qb s i < 128
 ·exact qva s i w hs h ca
 by_cases cb:128≤qb s i∧qb s i < 194
 ·exact qvb s i w hs h cb
 by_cases cc:194≤qb s i∧qb s i < 224
 ·exact qvc s i w hs h cc
 by_cases cd:qb s i=224
 ·exact qvd s i w hs h cd
 by_cases ce:224 < qb s i∧qb s i < 237
 ·exact qve s i w hs h ce
 by_cases cf:qb s i=237
 ·exact qvf s i w hs h cf
 by_cases cg:237 < qb s i∧qb s i < 240
 ·exact qvg s i w hs h cg
 by_cases ch:qb s i=240
 ·exact qvh s i w hs h ch
 by_cases ci:240 < qb s i∧qb s i < 244
 ·exact qvi s i w hs h ci
 by_cases cj:qb s i=244
 ·exact qvj s i w hs h cj
 exact qvk s i w hs h (by omega)
theorem qsg:∀ b:Fin 256,128≤b.val→((lead b.val).1=0∧Lib.firstT b.val % 8≠2∧Lib.firstT b.val % 8≠3∧Lib.firstT b.val % 8≠4)∨((lead b.val).1=Lib.firstT b.val % 8∧((lead b.val).1=2∨(lead b.val).1=3∨(lead b.val).1=4)∧(lead b.val).2.1=Lib.accLo (Lib.firstT b.val / 16)∧(lead b.val).2.2=Lib.accHi (Lib.firstT b.val / 16)):=by decide +kernel
theorem q8v (s:ByteArray) (i k:Nat):((s.data.toList.drop i).getD k 0).toNat=qb s (i+k):=by
 unfold qb; simp[List.getElem?_drop]
theorem q72 (s:ByteArray) (i:Nat) (lo hi:Int):qi s i lo hi=true ↔ i < s.size∧lo≤(qb s i:Int)∧(qb s i:Int)≤hi:=by
 simp only[qi,Bool.and_eq_true,decide_eq_true_eq,and_assoc]
theorem qpz (n b1 b2 b3 sz lo hi:Nat) (c1 c2 c3:Bool) (h1:c1=true ↔ 1 < n∧lo≤b1∧b1≤hi) (h2:c2=true ↔ 2 < n∧128≤b2∧b2≤191) (h3:c3=true ↔ 3 < n∧128≤b3∧b3≤191) (hsz:sz=2∨sz=3∨sz=4) :
  (Lib.checkN n b1 b2 b3 sz lo hi=if (if sz=2 then (if c1 then 2 else 0) else if sz=3 then (if c1 && c2 then 3 else 0) else (if c1 && c2 && c3 then 4 else 0))=0 then none else some (if sz=2 then (if c1 then 2 else 0) else if sz=3 then (if c1 && c2 then 3 else 0) else (if c1 && c2 && c3 then 4 else 0)))∧(if sz=2 then (if c1 then 2 else 0) else if sz=3 then (if c1 && c2 then 3 else 0) else (if c1 && c2 && c3 then 4 else 0))≤n:=by
 have k1:c1=false→¬ (1 < n∧lo≤b1∧b1≤hi):=fun e h=>by rw[h1.2 h]at e; cases e
 have k2:c2=false→¬ (2 < n∧128≤b2∧b2≤191):=fun e h=>by rw[h2.2 h]at e; cases e
 have k3:c3=false→¬ (3 < n∧128≤b3∧b3≤191):=fun e h=>by rw[h3.2 h]at e; cases e
 unfold Lib.checkN
 rcases hsz with rfl | rfl | rfl <;> cases c1 <;> cases c2 <;> cases c3
 all_goals
  simp only[reduceCtorEq,Bool.false_eq_true,if_false,if_true,Bool.and_true,Bool.and_false,Bool.and_self,Nat.reduceEqDiff,false_iff,true_iff]at h1 h2 h3 ⊢
  first | (rw[if_pos (by omega)]; exact ⟨rfl,by omega⟩) | (rw[if_neg (by omega)]; exact ⟨rfl,by omega⟩)
theorem qwv (s:ByteArray) (i:Nat) (h:i < s.size) :
  (rlen s i=0→Lib.validD (s.data.toList.drop i)=false)∧(rlen s i≠0→Lib.validD (s.data.toList.drop i)=Lib.validD (s.data.toList.drop (i+rlen s i))∧i+rlen s i≤s.size):=by
 have hlen:(s.data.toList.drop i).length=s.size - i:=by rw[List.length_drop,Array.length_toList,ByteArray.size_data]
 have hne:s.data.toList.drop i≠[]:=by intro e; rw[e]at hlen; simp at hlen; omega
 have hlt:=q8h s i
 have hg0:=q8v s i 0
 rw[Nat.add_zero]at hg0
 by_cases hb:qb s i < 128
 ·have hr:rlen s i=1:=by unfold rlen; rw[show lead (qb s i)=(1,0,0) by unfold lead; rw[if_pos hb]]; rfl
  rw[hr]
  refine ⟨fun h=>absurd h (by decide),fun _=>⟨?_,by omega⟩⟩
  cases hd:s.data.toList.drop i with
  | nil=>exact absurd hd hne
  | cons b t =>
   rw[hd]at hg0
   rw[Lib.validD_cons b t (by have:((b::t).getD 0 0).toNat=b.toNat:=rfl; omega)]
   rw[← List.drop_drop,hd]; rfl
 ·have hv:=Lib.validD_lead (s.data.toList.drop i) hne (by omega)
  rw[hlen,hg0,q8v,q8v,q8v]at hv
  rw[hv]
  have c1:=q72 s (i+1)
  have c2:=q72 s (i+2) 128 191
  have c3:=q72 s (i+3) 128 191
  rcases qsg ⟨qb s i,hlt⟩ (by simpa using hb) with ⟨h1,h2,h3,h4⟩ | ⟨h1,h2,h3,h4⟩
  ·have hr:rlen s i=0:=by unfold rlen; simp only at h1; rw[h1]; rfl
   have hc:Lib.checkN (s.size - i) (qb s (i+1)) (qb s (i+2)) (qb s (i+3)) (Lib.firstT (qb s i) % 8) (Lib.accLo (Lib.firstT (qb s i) / 16)) (Lib.accHi (Lib.firstT (qb s i) / 16))=none:=by
    simp only at h2 h3 h4
    unfold Lib.checkN; rw[if_neg h2,if_neg h3,if_neg h4]
   rw[hr,hc]
   exact ⟨fun _=>rfl,fun h=>absurd rfl h⟩
  ·simp only at h1 h2 h3 h4
   have c1':=c1 (lead (qb s i)).2.1 (lead (qb s i)).2.2
   rw[h3,h4]at c1'
   have hk:=qpz (s.size - i) (qb s (i+1)) (qb s (i+2)) (qb s (i+3)) (lead (qb s i)).1 (Lib.accLo (Lib.firstT (qb s i) / 16)) (Lib.accHi (Lib.firstT (qb s i) / 16)) _ _ _ (c1'.trans (by omega)) (c2.trans (by omega)) (c3.trans (by omega)) h2
   have hr:rlen s i=if (lead (qb s i)).1=2 then (if qi s (i+1) (Lib.accLo (Lib.firstT (qb s i) / 16):Nat) (Lib.accHi (Lib.firstT (qb s i) / 16):Nat) then 2 else 0) else if (lead (qb s i)).1=3 then (if qi s (i+1) (Lib.accLo (Lib.firstT (qb s i) / 16):Nat) (Lib.accHi (Lib.firstT (qb s i) / 16):Nat) && qi s (i+2) 128 191 then 3 else 0) else (if qi s (i+1) (Lib.accLo (Lib.firstT (qb s i) / 16):Nat) (Lib.accHi (Lib.firstT (qb s i) / 16):Nat) && qi s (i+2) 128 191 && qi s (i+3) 128 191 then 4 else 0):=by
    unfold rlen
    rw[h3,h4]
    rcases h2 with h2 | h2 | h2 <;> rw[h2] <;> rfl
   rw[← h1,hk.1,← hr]
   rw[← hr]at hk
   by_cases h0:rlen s i=0
   ·rw[if_pos h0]; exact ⟨fun _=>rfl,fun h=>absurd h0 h⟩
   ·rw[if_neg h0]; refine ⟨fun h=>absurd h h0,fun _=>⟨by simp only[List.drop_drop],by have:=hk.2; omega⟩⟩
def utfB (s:ByteArray):Bool:=decide (s.size≤4096) && Lib.validD s.data.toList
theorem qqm (s:ByteArray) (k:Nat) (h:k < s.size):s.data.toList.drop k≠[]:=by
 intro e; have:=congrArg List.length e; simp at this; have:=ByteArray.size_data (a:=s); omega
theorem qql (s:ByteArray):s.data.toList.drop s.size=[]:=by simp
set_option maxRecDepth 100000 in
set_option maxHeartbeats 1000000 in
theorem qn4 (s:ByteArray) (w:World) (hs:s.size≤140737488351232) :
  Calls Tryz.prog 112 #[.string s] w fun e w'=>e=.returned (.bool (utfB s))∧Below w.heap.size w w':=by
 have HU:=Lib.hid (show utfB s=(decide (s.size≤4096) && Lib.validD s.data.toList) from rfl)
 by_cases h:s.size≤4096
 ·go_enter Tryz.func112,Tryz.ntmps112
  go_wp2_with fail
  go_loopw [3] (fun i wr=>∃ k:Nat,k≤s.size∧i=.int .i64 k∧Lib.validD (s.data.toList.drop k)=Lib.validD s.data.toList∧Below w.heap.size w wr) (fun i _=>s.size - (intOf i).toNat)
  case atStart=>exact ⟨0,Nat.zero_le _,rfl,rfl,Below.refl _ _⟩
  case round =>
   obtain ⟨k,hk,rfl,hv,hbe⟩:=hrel
   have HV:=Lib.hid hv
   have HBE:=Lib.hid hbe
   clear hv hbe
   by_cases hlt:k < s.size
   ·obtain ⟨s1,s2⟩:=qwv s k hlt
    have HR:=Lib.hid (qmn s k wr hs hlt)
    have HD:=Lib.hid (qqm s k hlt)
    generalize rlen s k=r at *
    by_cases hr:r=0
    ·subst hr
     have H1:=Lib.hid (s1 rfl)
     clear s1 s2
     go_wp2_with fail
     refine HR.out.mono ?_
     rintro e w1 ⟨⟨c,rfl⟩,hb1⟩
     have HB1:=Lib.hid hb1
     clear hb1
     go_wp2_with fail
     go_ret
     exact ⟨by rw[HU.out,← HV.out,H1.out,Bool.and_false]; rfl,HBE.out.trans (HB1.out.mono HBE.out.size)⟩
    ·obtain ⟨s3,s4⟩:=s2 hr
     have H1:=Lib.hid s3
     have t0:((r:Int) == 0)=false:=by simpa using hr
     clear s1 s2 s3
     go_wp2_with fail
     refine HR.out.mono ?_
     rintro e w1 ⟨⟨c,rfl⟩,hb1⟩
     have HB1:=Lib.hid hb1
     clear hb1
     go_wp2_with fail
     go_roundw
     case rel=>exact ⟨k+r,by omega,by go_num,by rw[← H1.out]; exact HV.out,HBE.out.trans (HB1.out.mono HBE.out.size)⟩
     case measure=>simp[intOf]; omega
   ·obtain rfl:k=s.size:=by omega
    go_wp2_with fail
    go_ret
    exact ⟨by rw[HU.out,← HV.out,decide_eq_true h,qql,Lib.validD_nil]; rfl,HBE.out⟩
 ·have h':(4096:Int) < s.size:=by omega
  go_enter Tryz.func112,Tryz.ntmps112
  go_wp2_with fail
  go_ret
  exact ⟨by rw[HU.out,decide_eq_false h]; rfl,Below.refl _ _⟩
end Go.Proofs.YtpidpioifnnllaaGreatDoor
