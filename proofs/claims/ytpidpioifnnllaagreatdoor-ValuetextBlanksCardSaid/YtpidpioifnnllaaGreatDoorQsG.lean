/-
  Plain laws: bytes of strings; what strlit.escape and hexadecimal answer.
  strlit.Quote: a string's literal, written byte by byte.
  strlit.Unquote: the string that a literal denotes, read code point by code point.
  strlit.Quote and Unquote as contracts by values.
-/
import Derived.Test.YtpidpioifnnllaaGreatDoorFnA
import Derived.Test.YtpidpioifnnllaaGreatDoorPlA
import Derived.IntWalk
import Derived.Test.YtpidpioifnnllaaGreatDoorCtP
import Derived.Test.YtpidpioifnnllaaGreatDoorShB
import Derived.Lib.MapLaws
import Derived.Handy
import Derived.Test.YtpidpioifnnllaaGreatDoorAbsB
import Derived.Test.YtpidpioifnnllaaGreatDoorAbsO
namespace Go.Proofs.YtpidpioifnnllaaGreatDoor
set_option linter.unusedSimpArgs false
set_option linter.unusedVariables false
namespace Abs
open Go.RowKit
set_option maxRecDepth 100000
abbrev bL (s:ByteArray):List UInt8:=s.data.toList
def bS (l:List UInt8):ByteArray:=⟨l.toArray⟩
theorem q4l (l:List UInt8):bL (bS l)=l:=rfl
theorem qae (s:ByteArray):bS (bL s)=s:=by cases s; rfl
theorem q2c (s:ByteArray):(bL s).length=s.size:=by simp[bL]
theorem q6y {s t:ByteArray} (h:bL s=bL t):s=t:=by rw[← qae s,← qae t,h]
theorem qby {s:ByteArray} {i:Nat} {b:UInt8} (h:(bL s)[i]?=some b):sidx s (i:Int)=some ((b.toNat:Nat):Int):=by
 have hi:i < s.size:=by
  have:=(List.getElem?_eq_some_iff.1 h).1
  simpa [bL] using this
 unfold sidx
 rw[dif_pos ⟨by omega,by omega⟩]
 have:(bL s)[i]?=some s[i]:=by
  rw[List.getElem?_eq_getElem (by simpa [bL] using hi)]; rfl
 rw[this]at h
 rw[← Option.some.inj h]
 simp
theorem qfy {s:ByteArray} {i:Nat} {b:UInt8} {r:List UInt8} (h:(bL s).drop i=b::r):sidx s (i:Int)=some ((b.toNat:Nat):Int):=qby (q3l h).2.1
theorem qad (s:ByteArray) (i j:Nat):bL (s.extract i j)=((bL s).drop i).take (j - i):=by
 unfold bL
 rw[ByteArray.data_extract,Array.toList_extract,List.extract_eq_take_drop]
theorem qg6 {s:ByteArray} {i:Nat} (h:i≤s.size):sslc s (i:Int) (s.size:Int)=some (bS ((bL s).drop i)):=by
 unfold sslc
 rw[if_pos ⟨by omega,by omega,by omega⟩]
 congr 1
 apply q6y
 rw[q4l,qad,Int.toNat_natCast,Int.toNat_natCast]
 exact List.take_of_length_le (by simp[bL])
theorem q26 (l:List UInt8):(bS l).size=l.length:=by unfold bS; simp[ByteArray.size]
theorem qgq {n:Int} (h0:-2147483648≤n) (h1:n≤2147483647):IntKind.i32.wrap n=n:=by rw[IntKind.wrap_i32]; omega
theorem q80 {c d:UInt8} (h:c.toNat=d.toNat):c=d:=UInt8.toNat_inj.1 h
theorem qx (c d:UInt8):decide ((c.toNat:Int)=(d.toNat:Int))=decide (c=d):=by
 by_cases h:c=d
 ·subst h; simp
 ·rw[decide_eq_false h,decide_eq_false fun k=>h (q80 (by omega))]
def hexV (c:UInt8):Option Nat:=if 48≤c.toNat∧c.toNat≤57 then some (c.toNat - 48) else if 97≤c.toNat∧c.toNat≤102 then some (c.toNat - 87) else none
theorem qe8 {c:UInt8} {d:Nat} (h:hexV c=some d):d < 16:=by
 unfold hexV at h
 split at h
 ·simp at h; omega
 ·split at h
  ·simp at h; omega
  ·cases h
theorem qrr:∀ c:Fin 256,Lib.indexByte [48,49,50,51,52,53,54,55,56,57,97,98,99,100,101,102] (UInt8.ofNat c.val)=match hexV (UInt8.ofNat c.val) with | some d=>(d:Int) | none=>-1:=by decide +kernel
theorem m_hex (c:UInt8):q6f (⟨#[48,49,50,51,52,53,54,55,56,57,97,98,99,100,101,102]⟩:ByteArray) ((c.toNat:Nat):Int)=some (match hexV c with | some d=>(d:Int) | none=>-1):=by
 unfold q6f
 have:=qrr ⟨c.toNat,c.toNat_lt⟩
 simp only[UInt8.ofNat_toNat]at this
 rw[← this]
 simp
def q1m:Nat→List UInt8→Nat→Nat→Nat×Nat×List UInt8
 | 0,l,n,i=>(n,i,l)
 | f+1,[],n,i=>(n,i,[])
 | f+1,c::r,n,i=>match hexV c with
  | some d=>q1m f r (16*n+d) (i+1)
  | none=>(n,i,c::r)
def q2y (l:List UInt8) (q:Nat×Nat×List UInt8):Int×Int×Int :=
 match q.2.2 with
 | []=>(0,0,40)
 | c::_=>if c≠125∨q.2.1=0∨(1 < q.2.1∧l.head?=some 48)∨Lib.validRune q.1=false then (0,0,2) else (q.1,(q.2.1:Int)+1,0)
def hexS (l:List UInt8):Int×Int×Int:=q2y l (q1m 6 l 0 0)
theorem qjr:∀ (f:Nat) (l:List UInt8) (n i:Nat),(q1m f l n i).2.1+(q1m f l n i).2.2.length=i+l.length∧i≤(q1m f l n i).2.1∧(q1m f l n i).2.1≤i+f
 | 0,l,n,i=>⟨rfl,Nat.le_refl _,Nat.le_refl _⟩
 | f+1,[],n,i=>⟨rfl,Nat.le_refl _,by simp[q1m]⟩
 | f+1,c::r,n,i=>by
  unfold q1m
  split
  ·have:=qjr f r (16*n+‹Nat›) (i+1)
   simp only[List.length_cons]; omega
  ·simp
noncomputable def q5h (s:ByteArray) (n:Int) (i:Int):Option (Int×Int×Int) :=
 bif decide (i=(s.size:Int)) then some (0,0,40) else (sidx s i).bind fun c7=>bif (!decide (c7=125)) then some (0,0,2) else bif (decide (i=0)) then some (0,0,2) else bif (decide (i > 1)) then (sidx s 0).bind fun c11=>bif (decide (c11=48)) then some (0,0,2) else (q33 n).bind fun y13=>bif (!y13) then some (0,0,2) else some (n,(IntKind.i64.wrap (i+1)),0) else (q33 n).bind fun y15=>bif (!y15) then some (0,0,2) else some (n,(IntKind.i64.wrap (i+1)),0)
theorem qe7 (s:ByteArray) (n i:Nat) (hs:s.size≤140737488355328) (hi:i≤s.size):q5h s n i=some (q2y (bL s) (n,i,(bL s).drop i)):=by
 unfold q5h q2y
 simp only
 cases hd:(bL s).drop i with
 | nil =>
  have:i=s.size:=by
   have:=congrArg List.length hd
   rw[List.length_drop,q2c]at this
   simp at this; omega
  subst this
  simp
 | cons c r =>
  have hlt:i < s.size:=by have:=(q3l hd).1; rwa [q2c]at this
  rw[decide_eq_false (show ¬ (i:Int)=(s.size:Int) by omega),cond_false,qfy hd,Option.bind_some]
  by_cases h1:c=125
  ·subst h1
   rw[show decide ((((125:UInt8).toNat:Nat):Int)=125)=true from rfl]
   simp only[Bool.not_true,cond_false]
   by_cases h2:i=0
   ·subst h2; simp
   ·rw[decide_eq_false (show ¬ (i:Int)=0 by omega),cond_false]
    by_cases h3:1 < i
    ·rw[decide_eq_true (show (i:Int) > 1 by omega),cond_true]
     cases hl:bL s with
     | nil=>rw[hl]at hd; simp at hd
     | cons a t =>
      have h0:sidx s 0=some ((a.toNat:Nat):Int):=qby (i:=0) (by rw[hl]; rfl)
      rw[h0,Option.bind_some]
      have:=qx a 48
      rw[show (((48:UInt8).toNat:Nat):Int)=48 from rfl]at this
      rw[this]
      by_cases h4:a=48
      ·subst h4; simp[h2,h3]
      ·rw[decide_eq_false h4,cond_false]
       unfold q33
       rw[Option.bind_some]
       cases hv:Lib.validRune n
       ·simp[hv]
       ·simp only[Bool.not_true,cond_false]
        rw[q37 hlt (by omega)]
        simp[hv,h2,h4]
    ·rw[decide_eq_false (show ¬ (i:Int) > 1 by omega),cond_false]
     unfold q33
     rw[Option.bind_some]
     cases hv:Lib.validRune n
     ·simp[hv]
     ·simp only[Bool.not_true,cond_false]
      rw[q37 hlt (by omega)]
      simp[hv,h2,h3]
  ·have:=qx c 125
   rw[show (((125:UInt8).toNat:Nat):Int)=125 from rfl]at this
   rw[this,decide_eq_false h1]
   simp[h1]
theorem qe9 (s:ByteArray) (n i:Int):gQ3v s (n,i) =
  bif (decide (i < (s.size:Int))) then bif (decide (i < 6)) then (sidx s i).bind fun c3=>(q6f (⟨#[48,49,50,51,52,53,54,55,56,57,97,98,99,100,101,102]⟩:ByteArray) c3).bind fun y4=>bif (decide (y4 < 0)) then (q5h s n i).map .inr
   else some (.inl ((IntKind.i32.wrap ((IntKind.i32.wrap (16*n))+(IntKind.i32.wrap y4))),(IntKind.i64.wrap (i+1)))) else (q5h s n i).map .inr else (q5h s n i).map .inr:=by
 have key:∀ e:Option (Int×Int×Int),e=q5h s n i→True:=fun _ _=>trivial
 have ht:(q5h s n i).map (Sum.inr (α:=Int×Int))=bif decide (i=(s.size:Int)) then some (.inr (0,0,40)) else (sidx s i).bind fun c7=>bif (!decide (c7=125)) then some (.inr (0,0,2)) else bif (decide (i=0)) then some (.inr (0,0,2)) else bif (decide (i > 1)) then (sidx s 0).bind fun c11=>bif (decide (c11=48)) then some (.inr (0,0,2)) else (q33 n).bind fun y13=>bif (!y13) then some (.inr (0,0,2)) else some (.inr (n,(IntKind.i64.wrap (i+1)),0)) else (q33 n).bind fun y15=>bif (!y15) then some (.inr (0,0,2)) else some (.inr (n,(IntKind.i64.wrap (i+1)),0)):=by
  unfold q5h q33
  cases decide (i=(s.size:Int)) with
  | true=>rfl
  | false =>
   simp only[cond_false]
   cases sidx s i with
   | none=>rfl
   | some c =>
    simp only[Option.bind_some]
    cases (!decide (c=125)) with
    | true=>rfl
    | false =>
     simp only[cond_false]
     cases decide (i=0) with
     | true=>rfl
     | false =>
      simp only[cond_false]
      cases decide (i > 1) with
      | true =>
       simp only[cond_true]
       cases sidx s 0 with
       | none=>rfl
       | some d =>
        simp only[Option.bind_some]
        cases decide (d=48) with
        | true=>rfl
        | false=>cases Lib.validRune n <;> rfl
      | false=>cases Lib.validRune n <;> rfl
 rw[ht]
 rfl
theorem qrs (s:ByteArray) (hs:s.size≤140737488355328):∀ (f i n:Nat),i+f=6→i≤s.size→n < 16 ^ i→qf (gQ3v s) ((n:Int),(i:Int))=some (q2y (bL s) (q1m f ((bL s).drop i) n i)):=by
 intro f
 induction f with
 | zero =>
  intro i n h6 hi hn
  obtain rfl:i=6:=by omega
  refine qs ?_
  rw[qe9,qe7 s n 6 hs hi]
  rw[decide_eq_false (show ¬ ((6:Nat):Int) < 6 by omega)]
  cases decide (((6:Nat):Int) < (s.size:Int)) <;> rfl
 | succ f ih =>
  intro i n h6 hi hn
  cases hd:(bL s).drop i with
  | nil =>
   refine qs ?_
   have h0:i=s.size:=by
    have:=congrArg List.length hd
    rw[List.length_drop,q2c]at this
    simp at this; omega
   rw[qe9,qe7 s n i hs hi,decide_eq_false (show ¬ ((i:Nat):Int) < (s.size:Int) by omega),hd]
   rfl
  | cons c r =>
   have hlt:i < s.size:=by have:=(q3l hd).1; rwa [q2c]at this
   have hr:=(q3l hd).2.2
   have hb:gQ3v s ((n:Int),(i:Int))=match hexV c with
     | some d=>some (.inl (((16*n+d:Nat):Int),((i+1:Nat):Int)))
     | none=>some (.inr (q2y (bL s) (n,i,c::r))):=by
    rw[qe9,qe7 s n i hs hi,decide_eq_true (show ((i:Nat):Int) < (s.size:Int) by omega),decide_eq_true (show ((i:Nat):Int) < 6 by omega),cond_true,cond_true,qfy hd,Option.bind_some,m_hex,Option.bind_some,hd]
    cases hv:hexV c with
    | none=>rfl
    | some d =>
     have hdl:=qe8 hv
     have hn5:n < 16 ^ 5:=Nat.lt_of_lt_of_le hn (Nat.pow_le_pow_right (by decide) (by omega))
     simp only
     rw[decide_eq_false (show ¬ (d:Int) < 0 by omega),cond_false,qgq (n:=16*(n:Int)) (by omega) (by omega),qgq (n:=(d:Int)) (by omega) (by omega),qgq (by omega) (by omega),q37 hlt (by omega)]
     congr 3
   unfold q1m
   cases hv:hexV c with
   | none =>
    rw[hv]at hb
    exact qs hb
   | some d =>
    rw[hv]at hb
    have hdl:=qe8 hv
    rw[q1v hb,ih (i+1) (16*n+d) (by omega) (by omega) (by rw[Nat.pow_succ]; omega),hr]
theorem hex_eq (s:ByteArray) (hs:s.size≤140737488355328):gQ3u s=some (hexS (bL s)):=by
 have:=qrs s hs 6 0 0 rfl (Nat.zero_le _) (by decide)
 unfold gQ3u hexS
 simpa using this
theorem qe6 (l:List UInt8):0≤(hexS l).2.1∧(hexS l).2.1≤l.length∧(hexS l).2.1≤7:=by
 have:=qjr 6 l 0 0
 unfold hexS q2y
 split
 ·simp
 ·rename_i c r h
  split
  ·simp
  ·simp only
   rw[h]at this
   simp only[List.length_cons]at this
   omega
theorem qjs (l:List UInt8) (h:(hexS l).2.2=0):Lib.validRune (hexS l).1=true∧0 < (hexS l).2.1:=by
 unfold hexS q2y at h ⊢
 split at h
 ·simp at h
 ·rename_i c r e
  split at h
  ·simp at h
  ·rename_i hc
   rw[if_neg hc]
   refine ⟨?_,by simp only; omega⟩
   cases hv:Lib.validRune ((q1m 6 l 0 0).1:Int) with
   | true=>rfl
   | false=>exact absurd (.inr (.inr (.inr hv))) hc
def escS:List UInt8→Int×Int×Int
 | []=>(0,0,40)
 | c::r=>if c=110 then (10,1,0) else if c=114 then (13,1,0) else if c=116 then (9,1,0) else if c=34 then (34,1,0) else if c=92 then (92,1,0) else if c=117 then
   match r with
   | []=>(0,0,40)
   | d::t=>if d=123 then ((hexS t).1,(hexS t).2.1+2,(hexS t).2.2) else (0,0,2)
  else (0,0,2)
theorem q5d (c : UInt8) (r : List UInt8) : escS (c :: r) = if c = 110 then (10, 1, 0) else if c = 114 then (13, 1, 0) else if c = 116 then (9, 1, 0) else if c = 34 then (34, 1, 0) else if c = 92 then (92, 1, 0) else if c = 117 then
      match r with
      | [] => (0, 0, 40)
      | d :: t => if d = 123 then ((hexS t).1, (hexS t).2.1 + 2, (hexS t).2.2) else (0, 0, 2)
    else (0, 0, 2) := rfl
theorem eS_bL {s:ByteArray}:s=eS ↔ bL s=[]:=by
 constructor
 ·rintro rfl; rfl
 ·intro h; exact q6y h
theorem esc_eq (s:ByteArray) (hs:s.size≤140737488355328):gQ3s s=some (escS (bL s)):=by
 unfold gQ3s
 cases hl:bL s with
 | nil =>
  rw[decide_eq_true (eS_bL.2 hl)]
  rfl
 | cons c r =>
  rw[decide_eq_false (fun h=>by rw[eS_bL.1 h]at hl; cases hl),cond_false]
  have h0:sidx s 0=some ((c.toNat:Nat):Int):=qby (i:=0) (by rw[hl]; rfl)
  rw[h0,Option.bind_some]
  have t:∀ d:UInt8,∀ k:Int,((d.toNat:Nat):Int)=k→decide (((c.toNat:Nat):Int)=k)=decide (c=d):=fun d k h=>by rw[← h]; exact qx c d
  rw[t 110 110 rfl,t 114 114 rfl,t 116 116 rfl,t 34 34 rfl,t 92 92 rfl,t 117 117 rfl]
  rw[q5d]
  by_cases h1:c=110
  ·subst h1; rfl
  rw[decide_eq_false h1,cond_false,if_neg h1]
  by_cases h2:c=114
  ·subst h2; rfl
  rw[decide_eq_false h2,cond_false,if_neg h2]
  by_cases h3:c=116
  ·subst h3; rfl
  rw[decide_eq_false h3,cond_false,if_neg h3]
  by_cases h4:c=34
  ·subst h4; rfl
  rw[decide_eq_false h4,cond_false,if_neg h4]
  by_cases h5:c=92
  ·subst h5; rfl
  rw[decide_eq_false h5,cond_false,if_neg h5]
  by_cases h6:c=117
  ·subst h6
   rw[decide_eq_true rfl,cond_true,if_pos rfl]
   have hsz:=q2c s
   rw[hl,List.length_cons]at hsz
   cases r with
   | nil=>rw[decide_eq_true (by simp at hsz; omega)]; rfl
   | cons d t' =>
    rw[List.length_cons]at hsz
    rw[decide_eq_false (by omega),cond_false]
    have h1':sidx s 1=some ((d.toNat:Nat):Int):=qby (i:=1) (by rw[hl]; rfl)
    rw[h1',Option.bind_some]
    have:=qx d 123
    rw[show (((123:UInt8).toNat:Nat):Int)=123 from rfl]at this
    rw[this]
    by_cases h7:d=123
    ·subst h7
     have hsl:=qg6 (s:=s) (i:=2) (by omega)
     rw[hl]at hsl
     rw[show sslc s 2 (s.size:Int)=some (bS t') from hsl,Option.bind_some,hex_eq _ (by rw[q26]; omega),Option.bind_some,q4l]
     have hle:=qe6 t'
     rw[q13 (by omega) (by omega)]
     simp
    ·rw[decide_eq_false h7]; simp[h7]
  ·rw[decide_eq_false h6,cond_false,if_neg h6]
theorem qat (l:List UInt8):0≤(escS l).2.1∧(escS l).2.1≤l.length∧(escS l).2.1≤9:=by
 cases l with
 | nil=>exact ⟨by decide,by decide,by decide⟩
 | cons c r =>
  have one:∀ x:Int,(0:Int)≤((x,1,0):Int×Int×Int).2.1∧((x,1,0):Int×Int×Int).2.1≤((c::r).length:Nat)∧((x,1,0):Int×Int×Int).2.1≤9:=fun x=>⟨by simp,by simp only[List.length_cons]; omega,by simp⟩
  have zero:∀ x e:Int,(0:Int)≤((x,0,e):Int×Int×Int).2.1∧((x,0,e):Int×Int×Int).2.1≤((c::r).length:Nat)∧((x,0,e):Int×Int×Int).2.1≤9:=fun x e=>⟨by simp,by simp only[List.length_cons]; omega,by simp⟩
  rw[q5d]
  split
  ·exact one _
  split
  ·exact one _
  split
  ·exact one _
  split
  ·exact one _
  split
  ·exact one _
  split
  ·cases r with
   | nil=>exact zero _ _
   | cons d t =>
    simp only
    split
    ·have:=qe6 t
     refine ⟨?_,?_,?_⟩ <;> simp only[List.length_cons] <;> omega
    ·exact zero _ _
  ·exact zero _ _
theorem qqv (l:List UInt8) (h:(escS l).2.2=0):Lib.validRune (escS l).1=true∧0 < (escS l).2.1:=by
 cases l with
 | nil=>simp[escS]at h
 | cons c r =>
  rw[q5d]at h ⊢
  split at h
  ·rename_i h1; rw[if_pos h1]; exact ⟨by decide,by decide⟩
  rename_i h1; rw[if_neg h1]
  split at h
  ·rename_i h1; rw[if_pos h1]; exact ⟨by decide,by decide⟩
  rename_i h1; rw[if_neg h1]
  split at h
  ·rename_i h1; rw[if_pos h1]; exact ⟨by decide,by decide⟩
  rename_i h1; rw[if_neg h1]
  split at h
  ·rename_i h1; rw[if_pos h1]; exact ⟨by decide,by decide⟩
  rename_i h1; rw[if_neg h1]
  split at h
  ·rename_i h1; rw[if_pos h1]; exact ⟨by decide,by decide⟩
  rename_i h1; rw[if_neg h1]
  split at h
  ·rename_i h1; rw[if_pos h1]
   cases r with
   | nil=>simp at h
   | cons d t =>
    simp only at h ⊢
    split at h
    ·rename_i h2; rw[if_pos h2]
     have:=qjs t h
     exact ⟨this.1,by simp only; omega⟩
    ·simp at h
  ·simp at h
end Abs
end Go.Proofs.YtpidpioifnnllaaGreatDoor
namespace Go.Proofs.YtpidpioifnnllaaGreatDoor
set_option linter.unusedSimpArgs false
set_option linter.unusedVariables false
open Go.RowKit Go.Lib
def escB (c:UInt8):List UInt8 :=
 if c=10 then [92,110] else if c=13 then [92,114] else if c=9 then [92,116] else if c=34∨c=92 then [92,c] else
 if c < 32∨c=127 then [92,117,123]++(hexI c.toNat).map (fun n=>UInt8.ofNat n.toNat)++[125] else [c]
def q12 (l:List UInt8):List UInt8:=34::(l.flatMap escB++[34])
abbrev IsB (B b:Nat) (l:List UInt8) (w:World):Prop:=Lib.IsBuilderF 47 5 B b (Lib.byteCells l) w
theorem qed (w:World):IsB w.heap.size w.heap.size [] (w.alloc (.cells #[.pointer none,.slice none 0 0] 47)):=Lib.IsBuilderF.of (Lib.fresh_isBuilder 47 5 w)
theorem q6m (B b:Nat) (l:List UInt8) (c:UInt8) (w:World) (h:IsB B b l w) (hl:l.length+1≤140737488355328) (hB:B≤w.heap.size) :
  Calls Tryz.prog 84 #[.pointer (some ⟨b,0,none⟩),.int .u8 c.toNat] w fun e w'=>e=.returned .nilIface∧IsB B b (l++[c]) w'∧Below B w w':=by
 refine (Tryz.Builder_WriteByte B b (Lib.byteCells l) c.toNat w h (by simpa [Lib.byteCells] using hl) hB).mono ?_
 rintro e w' ⟨rfl,h1,h2,_⟩
 refine ⟨rfl,.inr ?_,h2⟩
 simpa [Lib.byteCells] using h1
theorem q9v (B b:Nat) (l:List UInt8) (s:ByteArray) (w:World) (h:IsB B b l w) (hl:l.length+s.size≤140737488355328) (hB:B≤w.heap.size) :
  Calls Tryz.prog 36 #[.pointer (some ⟨b,0,none⟩),.string s] w fun e w'=>e=.returned (.tuple #[.int .i64 s.size,.nilIface])∧IsB B b (l++s.data.toList) w'∧Below B w w'∧Lib.OthersKept 5 (some b) w w':=by
 refine (Tryz.Builder_WriteString B b (Lib.byteCells l) s w h (by simpa [Lib.byteCells] using hl) hB).mono ?_
 rintro e w' ⟨rfl,h1,h2,h4⟩
 refine ⟨rfl,.inr ?_,h2,h4⟩
 rw[Lib.strCells_eq]at h1
 simpa [Lib.byteCells] using h1
theorem wStr (B b:Nat) (l:List UInt8) (s:ByteArray) (w:World) (h:IsB B b l w) (hl:l.length+s.size≤140737488355328) (hB:B≤w.heap.size) :
  Calls Tryz.prog 36 #[.pointer (some ⟨b,0,none⟩),.string s] w fun e w'=>e=.returned (.tuple #[.int .i64 s.size,.nilIface])∧IsB B b (l++s.data.toList) w'∧Below B w w' :=
 (q9v B b l s w h hl hB).mono fun e w' ⟨h1,h2,h3,_⟩=>⟨h1,h2,h3⟩
theorem bStr (B b:Nat) (l:List UInt8) (w:World) (h:IsB B b l w) (hB:B≤w.heap.size) :
  Calls Tryz.prog 23 #[.pointer (some ⟨b,0,none⟩)] w fun e w'=>e=.returned (.string ⟨l.toArray⟩)∧IsB B b l w'∧Below B w w' :=
 (Tryz.Builder_String_any_k B b l w h hB).mono fun e w' ⟨h1,h2,h3,_⟩=>⟨h1,h2,h3⟩
theorem qix (c:UInt8):(escB c).length≤6:=by
 unfold escB hexI
 repeat' split
 all_goals simp
theorem qau:∀ l:List UInt8,(l.flatMap escB).length≤6*l.length
 | []=>by simp
 | c::r=>by
  have:=qau r
  have:=qix c
  simp only[List.flatMap_cons,List.length_append,List.length_cons]
  omega
theorem qw9 (s:ByteArray) (k:Nat) (h:k < s.size):(s.data.toList.take (k+1)).flatMap escB=(s.data.toList.take k).flatMap escB++escB (s[k]'h):=by
 have hk:k < s.data.toList.length:=by simpa using h
 rw[List.take_succ_eq_append_getElem hk,List.flatMap_append]
 simp only[List.flatMap_cons,List.flatMap_nil,List.append_nil]
 rfl
theorem qru (c:Nat) (hc:c < 128):(strOfNums (hexI c)).data.toList=(hexI c).map fun n=>UInt8.ofNat n.toNat:=by
 rw[strOfNums_data]
theorem qrt (c:Nat):(strOfNums (hexI c)).size≤2:=by
 show (strOfNums (hexI c)).data.size≤2
 rw[← Array.length_toList,strOfNums_data,List.length_map]
 unfold hexI
 split <;> simp
theorem ql3 {B b:Nat} {l:List UInt8} {w:World} (h:IsB B b l w):b < w.heap.size:=by
 rcases h with h | h <;> exact h.lt
theorem qhp {T e:TypeId} {B b:Nat} {p:Value} {bs:List Value} {w w':World} (h:Lib.BuilderAtF T e B b p bs w) (hb:Below w.heap.size w w'):Lib.BuilderAtF T e B b p bs w':=by
 have hlt:=h.lt
 obtain ⟨hB,v,h1,hown,hne⟩:=h
 exact ⟨hB,v,(hb.block b hlt).trans h1,hown.kept (row:=some b) ⟨hb.os,hb.tape,hb.output,hb.size,fun k hk _=>hb.block k hk⟩ (Or.inr hne),hne⟩
theorem q2s {B b:Nat} {l:List UInt8} {w w':World} (h:IsB B b l w) (hb:Below w.heap.size w w'):IsB B b l w' :=
 h.elim (fun h=>.inl (qhp h hb)) (fun h=>.inr (qhp h hb))
set_option maxHeartbeats 4000000 in
set_option maxRecDepth 100000 in
theorem qv5 (s:ByteArray) (w:World) (hs:s.size≤1099511627776) (hd:w.cell? ⟨7,15,none⟩=some (.int .u8 4)) :
  Calls Tryz.prog 52 #[.string s] w fun e w'=>e=.returned (.string ⟨(q12 s.data.toList).toArray⟩)∧Below w.heap.size w w':=by
 have h0:=qed w
 have b0:Below w.heap.size w (w.alloc (.cells #[.pointer none,.slice none 0 0] 47)):=(Below.refl _ w).alloc (Nat.le_refl _) _
 have HD:=Lib.hid hd
 clear hd
 have hlen:=qau s.data.toList
 have hsl:s.data.toList.length=s.size:=by simp
 have HL:=Lib.hid (show ∀ k,k≤s.size→((34::(s.data.toList.take k).flatMap escB).length)≤6*s.size+1 by
  intro k hk
  have:=qau (s.data.toList.take k)
  rw[List.length_take,hsl]at this
  rw[List.length_cons]
  have:min k s.size≤s.size:=Nat.min_le_right _ _
  omega)
 clear hlen hsl
 go_enter Tryz.func52,Tryz.ntmps52
 go_wp2_with (go_at_call 84; refine (q6m w.heap.size w.heap.size [] 34 _ h0 (by simp) b0.size).mono ?_; rintro e w1 ⟨rfl,h1,b1⟩)
 have H1:=Lib.hid (show IsB w.heap.size w.heap.size (34::(s.data.toList.take 0).flatMap escB) w1 from h1)
 have B1:=Lib.hid (b0.trans b1)
 clear h0 b0 h1 b1
 go_wp2_with fail
 go_loopw [9] (fun i wr=>∃ k:Nat,k≤s.size∧i=.int .i64 k∧IsB w.heap.size w.heap.size (34::(s.data.toList.take k).flatMap escB) wr∧Below w.heap.size w wr) (fun i _=>s.size - (intOf i).toNat)
 case atStart=>exact ⟨0,Nat.zero_le _,rfl,H1.out,B1.out⟩
 case round =>
  obtain ⟨k,hk,rfl,hB,hb⟩:=hrel
  have HB:=Lib.hid hB
  have BB:=Lib.hid hb
  have HS:=Lib.hid (HL.out k hk)
  clear hB hb H1 B1
  by_cases hlt:k < s.size
  ·have HT:=Lib.hid (qw9 s k hlt)
   have hl6:(34::(s.data.toList.take k).flatMap escB).length+6≤140737488355328:=by have:=HS.out; omega
   obtain ⟨c,hc⟩:∃ c,c=s[k]'hlt:=⟨_,rfl⟩
   have hcn:((s[k]'hlt).toNat:Int)=(c.toNat:Int):=by rw[hc]
   rw[← hc]at HT
   have hU:∀ n:UInt8,c.toNat=n.toNat→c=n:=fun n h=>UInt8.toNat_inj.1 h
   by_cases q:c=10
   ·subst q
    have hcn':((s[k]'hlt).toNat:Int)=10:=hcn
    have EB:=Lib.hid (show escB 10=[92,110] from rfl)
    clear hc hcn hU
    go_wp2_with fail
    refine (wStr w.heap.size w.heap.size _ ⟨#[92,110]⟩ _ HB.out (by show _+2≤_; omega) BB.out.size).mono ?_
    rintro e w2 ⟨rfl,h2,b2⟩
    have H2:=Lib.hid h2
    have B2:=Lib.hid (BB.out.trans b2)
    clear h2 b2
    go_wp2_with fail
    go_roundw
    case rel=>exact ⟨k+1,by omega,by go_num,by rw[HT.out,EB.out]; simpa using H2.out,B2.out⟩
    case measure=>simp[intOf]; omega
    
   have n10:¬ (c.toNat:Int)=10:=fun h=>q (hU 10 (by have:((10:UInt8).toNat:Int)=10:=rfl; omega))
   have m10:=q
   clear q
   by_cases q:c=13
   ·subst q
    have hcn':((s[k]'hlt).toNat:Int)=13:=hcn
    have EB:=Lib.hid (show escB 13=[92,114] from rfl)
    clear hc hcn hU
    go_wp2_with fail
    refine (wStr w.heap.size w.heap.size _ ⟨#[92,114]⟩ _ HB.out (by show _+2≤_; omega) BB.out.size).mono ?_
    rintro e w2 ⟨rfl,h2,b2⟩
    have H2:=Lib.hid h2
    have B2:=Lib.hid (BB.out.trans b2)
    clear h2 b2
    go_wp2_with fail
    go_roundw
    case rel=>exact ⟨k+1,by omega,by go_num,by rw[HT.out,EB.out]; simpa using H2.out,B2.out⟩
    case measure=>simp[intOf]; omega
    
   have n13:¬ (c.toNat:Int)=13:=fun h=>q (hU 13 (by have:((13:UInt8).toNat:Int)=13:=rfl; omega))
   have m13:=q
   clear q
   by_cases q:c=9
   ·subst q
    have hcn':((s[k]'hlt).toNat:Int)=9:=hcn
    have EB:=Lib.hid (show escB 9=[92,116] from rfl)
    clear hc hcn hU
    go_wp2_with fail
    refine (wStr w.heap.size w.heap.size _ ⟨#[92,116]⟩ _ HB.out (by show _+2≤_; omega) BB.out.size).mono ?_
    rintro e w2 ⟨rfl,h2,b2⟩
    have H2:=Lib.hid h2
    have B2:=Lib.hid (BB.out.trans b2)
    clear h2 b2
    go_wp2_with fail
    go_roundw
    case rel=>exact ⟨k+1,by omega,by go_num,by rw[HT.out,EB.out]; simpa using H2.out,B2.out⟩
    case measure=>simp[intOf]; omega
    
   have n9:¬ (c.toNat:Int)=9:=fun h=>q (hU 9 (by have:((9:UInt8).toNat:Int)=9:=rfl; omega))
   have m9:=q
   clear q
   by_cases q:c=34
   ·subst q
    have hcn':((s[k]'hlt).toNat:Int)=34:=hcn
    clear hc hcn hU
    have EB:=Lib.hid (show escB 34=[92,34] from rfl)
    go_wp2_with fail
    refine (q6m w.heap.size w.heap.size _ 92 _ HB.out (Nat.le_trans (Nat.add_le_add_left (by decide) _) hl6) BB.out.size).mono ?_
    rintro e w2 ⟨rfl,h2,b2⟩
    have H2:=Lib.hid h2
    have B2:=Lib.hid (BB.out.trans b2)
    clear h2 b2
    go_wp2_with fail
    refine (q6m w.heap.size w.heap.size _ 34 _ H2.out (by simp only[List.length_append,List.length_cons,List.length_nil]at hl6 ⊢; omega) B2.out.size).mono ?_
    rintro e w3 ⟨rfl,h2,b2⟩
    have H3:=Lib.hid h2
    have B3:=Lib.hid (B2.out.trans b2)
    clear h2 b2
    go_wp2_with fail
    go_roundw
    case rel=>exact ⟨k+1,by omega,by go_num,by rw[HT.out,EB.out]; simpa using H3.out,B3.out⟩
    case measure=>simp[intOf]; omega
    
   have n34:¬ (c.toNat:Int)=34:=fun h=>q (hU 34 (by have:((34:UInt8).toNat:Int)=34:=rfl; omega))
   have m34:=q
   clear q
   by_cases q:c=92
   ·subst q
    have hcn':((s[k]'hlt).toNat:Int)=92:=hcn
    clear hc hcn hU
    have EB:=Lib.hid (show escB 92=[92,92] from rfl)
    go_wp2_with fail
    refine (q6m w.heap.size w.heap.size _ 92 _ HB.out (Nat.le_trans (Nat.add_le_add_left (by decide) _) hl6) BB.out.size).mono ?_
    rintro e w2 ⟨rfl,h2,b2⟩
    have H2:=Lib.hid h2
    have B2:=Lib.hid (BB.out.trans b2)
    clear h2 b2
    go_wp2_with fail
    refine (q6m w.heap.size w.heap.size _ 92 _ H2.out (by simp only[List.length_append,List.length_cons,List.length_nil]at hl6 ⊢; omega) B2.out.size).mono ?_
    rintro e w3 ⟨rfl,h2,b2⟩
    have H3:=Lib.hid h2
    have B3:=Lib.hid (B2.out.trans b2)
    clear h2 b2
    go_wp2_with fail
    go_roundw
    case rel=>exact ⟨k+1,by omega,by go_num,by rw[HT.out,EB.out]; simpa using H3.out,B3.out⟩
    case measure=>simp[intOf]; omega
    
   have n92:¬ (c.toNat:Int)=92:=fun h=>q (hU 92 (by have:((92:UInt8).toNat:Int)=92:=rfl; omega))
   have m92:=q
   clear q
   have b34:((c.toNat:Int) == 34)=false:=by simpa using n34
   have b92:((c.toNat:Int) == 92)=false:=by simpa using n92
   clear n34 n92
   by_cases q:c < 32∨c=127
   ·have hc128:c.toNat < 128:=by
     rcases q with q | q
     ·have:c.toNat < (32:UInt8).toNat:=UInt8.lt_iff_toNat_lt.1 q
      have:(32:UInt8).toNat=32:=rfl
      omega
     ·subst q; decide
    have EB0:escB c=[92,117,123]++(strOfNums (hexI c.toNat)).data.toList++[125]:=by
     unfold escB
     rw[if_neg m10,if_neg m13,if_neg m9,if_neg (by rintro (h | h); exact m34 h; exact m92 h),if_pos q,qru c.toNat hc128]
    have hS0:=qrt c.toNat
    have F0:=fmt16 c.toNat hc128 wr (qi2 HD.out BB.out)
    generalize strOfNums (hexI c.toNat)=S at EB0 hS0 F0
    have EB:=Lib.hid EB0
    have FF:=Lib.hid F0
    have HL6:=Lib.hid hl6
    have HZ:=Lib.hid (show ((⟨#[92,117,123]⟩:ByteArray)++S++⟨#[125]⟩).size≤6 by
     rw[ByteArray.size_append,ByteArray.size_append]
     show 3+S.size+1≤6
     omega)
    clear EB0 F0 m10 m13 m9 m34 m92 hU
    rcases q with q | q
    ·have q32:(c.toNat:Int) < 32:=by
      have:c.toNat < (32:UInt8).toNat:=UInt8.lt_iff_toNat_lt.1 q
      have:(32:UInt8).toNat=32:=rfl
      omega
     clear hl6 hc
     go_wp2_with fail
     refine FF.out.mono ?_
     rintro e w2 ⟨rfl,b2⟩
     have B2:=Lib.hid (BB.out.trans (b2.mono BB.out.size))
     have H2:=Lib.hid (q2s HB.out b2)
     clear b2
     go_wp2_with fail
     refine (wStr w.heap.size w.heap.size _ _ _ H2.out (Nat.le_trans (Nat.add_le_add_left HZ.out _) HL6.out) B2.out.size).mono ?_
     rintro e w3 ⟨rfl,h2,b2⟩
     have H3:=Lib.hid h2
     have B3:=Lib.hid (B2.out.trans b2)
     clear h2 b2
     go_wp2_with fail
     go_roundw
     case rel=>exact ⟨k+1,by omega,by go_num,by rw[HT.out,EB.out]; have:=H3.out; simpa using this,B3.out⟩
     case measure=>simp[intOf]; omega
     
    ·subst q
     have hcn':((s[k]'hlt).toNat:Int)=127:=hcn
     have F1:=Lib.hid (show Calls Tryz.prog 85 #[.int .i64 127,.int .i64 16] wr (fun e w'=>e=.returned (.string S)∧Below wr.heap.size wr w') from FF.out)
     clear hcn n10 n13 n9 b34 b92 FF hl6 hc hc128
     go_wp2_with fail
     refine F1.out.mono ?_
     rintro e w2 ⟨rfl,b2⟩
     have B2:=Lib.hid (BB.out.trans (b2.mono BB.out.size))
     have H2:=Lib.hid (q2s HB.out b2)
     clear b2
     go_wp2_with fail
     refine (wStr w.heap.size w.heap.size _ _ _ H2.out (Nat.le_trans (Nat.add_le_add_left HZ.out _) HL6.out) B2.out.size).mono ?_
     rintro e w3 ⟨rfl,h2,b2⟩
     have H3:=Lib.hid h2
     have B3:=Lib.hid (B2.out.trans b2)
     clear h2 b2
     go_wp2_with fail
     go_roundw
     case rel=>exact ⟨k+1,by omega,by go_num,by rw[HT.out,EB.out]; have:=H3.out; simpa using this,B3.out⟩
     case measure=>simp[intOf]; omega
   ·have n32:¬ (c.toNat:Int) < 32:=fun h=>q (.inl (UInt8.lt_iff_toNat_lt.2 (by have:(32:UInt8).toNat=32:=rfl; omega)))
    have d32:decide ((c.toNat:Int) < 32)=false:=decide_eq_false n32
    have n127:¬ (c.toNat:Int)=127:=fun h=>q (.inr (hU 127 (by have:(127:UInt8).toNat=127:=rfl; omega)))
    have EB0:escB c=[c]:=by
     unfold escB
     rw[if_neg m10,if_neg m13,if_neg m9,if_neg (by rintro (h | h); exact m34 h; exact m92 h),if_neg q]
    have EB:=Lib.hid EB0
    have b127:((c.toNat:Int) == 127)=false:=by simpa using n127
    clear EB0 m10 m13 m9 m34 m92 hU q n32 n127
    go_wp2_with fail
    refine (q6m w.heap.size w.heap.size _ c _ HB.out (Nat.le_trans (Nat.add_le_add_left (by decide) _) hl6) BB.out.size).mono ?_
    rintro e w2 ⟨rfl,h2,b2⟩
    have H2:=Lib.hid h2
    have B2:=Lib.hid (BB.out.trans b2)
    clear h2 b2
    go_wp2_with fail
    go_roundw
    case rel=>exact ⟨k+1,by omega,by go_num,by rw[HT.out,EB.out]; simpa using H2.out,B2.out⟩
    case measure=>simp[intOf]; omega
  ·obtain rfl:k=s.size:=by omega
   go_wp2_with fail
   refine (q6m w.heap.size w.heap.size _ 34 _ HB.out (by have:=HS.out; omega) BB.out.size).mono ?_
   rintro e w2 ⟨rfl,h2,b2⟩
   have B2:=Lib.hid (BB.out.trans b2)
   have H2:=Lib.hid h2
   clear h2 b2
   go_wp2_with fail
   refine (bStr w.heap.size w.heap.size _ _ H2.out B2.out.size).mono ?_
   rintro e w3 ⟨rfl,h3,b3⟩
   have B3:=Lib.hid (B2.out.trans b3)
   clear h3 b3
   go_wp2_with fail
   go_ret
   refine ⟨?_,B3.out⟩
   show Ending.returned (Value.string ⟨(34::(List.flatMap escB (List.take s.size s.data.toList)++[34])).toArray⟩)=_
   rw[show List.take s.size s.data.toList=s.data.toList from List.take_of_length_le (by simp)]
   rfl
end Go.Proofs.YtpidpioifnnllaaGreatDoor
namespace Go.Proofs.YtpidpioifnnllaaGreatDoor
set_option linter.unusedSimpArgs false
set_option linter.unusedVariables false
open Go.RowKit Go.Lib
open Abs
def unqF : Nat → List UInt8 → Nat → List UInt8 → Option (List UInt8 × Nat × Int)
  | 0, _, _, _ => none
  | f + 1, [], k, acc => some ([], 0, 40)
  | f + 1, c :: r, k, acc =>
    if c = 34 then (if 4096 < acc.length then some ([], 0, 3) else some (acc, k + 1, 0))
    else if (decodeL (c :: r)).1 = 92 then
      (if (escS ((c :: r).drop 1)).2.2 ≠ 0 then some ([], 0, (escS ((c :: r).drop 1)).2.2)
       else unqF f ((c :: r).drop ((escS ((c :: r).drop 1)).2.1.toNat + 1)) (k + ((escS ((c :: r).drop 1)).2.1.toNat + 1)) (acc ++ encodeRune (escS ((c :: r).drop 1)).1))
    else if ((decodeL (c :: r)).1 = 65533 ∧ (decodeL (c :: r)).2 = 1) ∨ (decodeL (c :: r)).1 < 32 ∨ (decodeL (c :: r)).1 = 127 then some ([], 0, 2)
    else unqF f ((c :: r).drop (decodeL (c :: r)).2) (k + (decodeL (c :: r)).2) (acc ++ encodeRune (decodeL (c :: r)).1)
def unqS (l:List UInt8):Option (List UInt8×Nat×Int) :=
 match l with
 | []=>some ([],0,40)
 | c::r=>if c=34 then unqF l.length r 1 [] else some ([],0,2)
theorem q8p (r:Int):(encodeRune r).length≤4:=by
 unfold encodeRune encodeRuneZ
 repeat' split
 all_goals simp
theorem qqo (r:Int):runeCells r=byteCells (encodeRune r):=by
 unfold runeCells byteCells encodeRune
 rw[List.map_map]
 apply List.map_congr_left
 intro x hx
 have:0≤x∧x≤255:=by
  unfold encodeRuneZ at hx
  repeat' split at hx
  all_goals (simp only[List.mem_cons,List.not_mem_nil,or_false]at hx; omega)
 simp only[Function.comp]
 congr 1
 have h2:x.toNat < 256:=by omega
 rw[show (x.toNat.toUInt8).toNat=x.toNat from by simp[Nat.toUInt8]; omega]
 omega
theorem qgn (B b:Nat) (l:List UInt8) (r:Int) (w:World) (h:IsB B b l w) (hr0:-2147483648≤r) (hr1:r≤2147483647) (hl:l.length+4≤140737488355328) (hB:B≤w.heap.size) :
  Calls Tryz.prog 119 #[.pointer (some ⟨b,0,none⟩),.int .i32 r] w fun e w'=>(∃ n:Nat,e=.returned (.tuple #[.int .i64 n,.nilIface]))∧IsB B b (l++encodeRune r) w'∧Below B w w':=by
 refine (Tryz.Builder_WriteRune B b (Lib.byteCells l) r hr0 hr1 w h (by simpa [Lib.byteCells] using hl) hB).mono ?_
 rintro e w' ⟨rfl,h1,h2,_⟩
 refine ⟨⟨_,rfl⟩,.inr ?_,h2⟩
 rw[qqo]at h1
 simpa [Lib.byteCells] using h1
theorem bLen (B b:Nat) (l:List UInt8) (w:World) (h:IsB B b l w) :
  Calls Tryz.prog 56 #[.pointer (some ⟨b,0,none⟩)] w fun e w'=>e=.returned (.int .i64 l.length)∧w'=w:=by
 refine (Tryz.Builder_Len_f B b (Lib.byteCells l) w h).mono ?_
 rintro e w' ⟨rfl,h1⟩
 exact ⟨by simp[Lib.byteCells],h1⟩
variable {E : World → Prop} {E0 : Nat} {G : Nat → Option (List PV)}
theorem qqx (hb:Base E E0 G) (he:∀ w,E w→EnvV w) (s:ByteArray) (hs:s.size≤140737488355328) (w:World) (hE:E w) (h0:E0≤w.heap.size) :
  Calls Tryz.prog 118 #[.string s] w fun e w'=>e=.returned (.tuple #[.int .i32 (escS (bL s)).1,.int .i64 (escS (bL s)).2.1,.int .i64 (escS (bL s)).2.2])∧Below w.heap.size w w'∧E w':=by
 refine (gQ3t hb he s _ (esc_eq s hs) (fun _ _=>True) w [.string s] hE h0 (fun _ _ _=>trivial) ⟨by show PRep _ _ _ _; unfold PRep; exact ⟨rfl,rfl⟩,trivial⟩).mono ?_
 rintro e w' ⟨v,rfl,h1,h2,h3⟩
 obtain ⟨us,rfl,h3⟩:=h3
 obtain ⟨us⟩:=us
 match us,h3 with
 | [a,b,c],⟨k1,k2,k3,_⟩ =>
  have k1':PRep _ _ _ _:=k1
  have k2':PRep _ _ _ _:=k2
  have k3':PRep _ _ _ _:=k3
  unfold PRep at k1' k2' k3'
  rw[k1'.1,k2'.1,k3'.1]
  exact ⟨rfl,h1,h2⟩
theorem dec_at (s:ByteArray) (k:Nat) (h:k < s.size):decodeGo (s.extract k s.size)=decodeL ((bL s).drop k):=by
 rw[decodeL_drop]
 unfold decodeGo
 rw[if_neg (by rw[ByteArray.size_extract]; omega),← decodeL_drop,← decodeL_drop,List.drop_zero]
 have:=qad s k s.size
 unfold bL at this
 rw[this,List.take_of_length_le (by simp)]
theorem qpi (s:ByteArray) (k:Nat):bL (s.extract k s.size)=(bL s).drop k:=by
 rw[qad]; exact List.take_of_length_le (by simp[bL])
theorem qwk {f k:Nat} {acc:List UInt8} {res:List UInt8×Nat×Int} (h:unqF f [] k acc=some res):res=([],0,40):=by
 cases f with
 | zero=>cases h
 | succ f=>simpa [unqF] using h.symm
theorem qwj {f k:Nat} {acc t:List UInt8} {res:List UInt8×Nat×Int} (h:unqF f (34::t) k acc=some res):res=if 4096 < acc.length then ([],0,3) else (acc,k+1,0):=by
 cases f with
 | zero=>cases h
 | succ f =>
  simp only[unqF,if_true]at h
  split at h
  ·rename_i hh; rw[if_pos hh]; simpa using h.symm
  ·rename_i hh; rw[if_neg hh]; simpa using h.symm
set_option maxHeartbeats 4000000 in
set_option maxRecDepth 100000 in
theorem qwm (hb:Base E E0 G) (he:∀ w,E w→EnvV w) (s:ByteArray) (res:List UInt8×Nat×Int) (hr:unqS (bL s)=some res) (hs:s.size≤1099511627776) (w:World) (hE:E w) (hE0:E0≤w.heap.size) :
  Calls Tryz.prog 97 #[.string s] w fun e w'=>e=.returned (.tuple #[.string ⟨res.1.toArray⟩,.int .i64 res.2.1,.int .i64 res.2.2])∧Below w.heap.size w w'∧E w':=by
 have hsz:(bL s).length=s.size:=q2c s
 cases hl:bL s with
 | nil =>
  obtain rfl:s=.empty:=q6y hl
  rw[hl]at hr
  simp only[unqS,Option.some.injEq]at hr
  subst hr
  clear hl hsz
  have HE:=Lib.hid hE
  clear hE
  go_enter Tryz.func97,Tryz.ntmps97
  go_wp2
  go_returns
  exact ⟨rfl,Below.refl _ _,HE.out⟩
 | cons c r =>
  have hpos:0 < s.size:=by rw[← hsz,hl]; simp
  have hne:s.toList.isEmpty=false:=by
   rw[ByteArray.toList_eq]
   show (bL s).isEmpty=false
   rw[hl]; rfl
  have hc0:((s[0]'hpos).toNat:Int)=(c.toNat:Int):=by
   have h1:(bL s)[0]?=some (s[0]'hpos):=by rw[List.getElem?_eq_getElem (by rw[hsz]; exact hpos)]; rfl
   rw[hl]at h1
   simp at h1
   rw[← h1]
  rw[hl]at hr
  unfold unqS at hr
  simp only at hr
  have HE:=Lib.hid hE
  clear hE
  by_cases hc:c=34
  ·subst hc
   rw[if_pos rfl,← hl,hsz]at hr
   have HR:=Lib.hid (show unqF s.size ((bL s).drop 1) 1 []=some res by rw[hl]; exact hr)
   have hc1:((s[0]'hpos).toNat:Int)=34:=hc0
   have h0:=qed w
   have b0:Below w.heap.size w (w.alloc (.cells #[.pointer none,.slice none 0 0] 47)):=(Below.refl _ w).alloc (Nat.le_refl _) _
   have H0:=Lib.hid h0
   have B0:=Lib.hid b0
   have HL:=Lib.hid hl
   clear hr h0 b0 hc0 hl
   go_enter Tryz.func97,Tryz.ntmps97
   go_wp2_with fail
   go_loopw [6] (fun i wr=>∃ k f:Nat,∃ acc:List UInt8,k≤s.size∧i=.int .i64 k∧IsB w.heap.size w.heap.size acc wr∧Below w.heap.size w wr∧E wr∧unqF f ((bL s).drop k) k acc=some res∧acc.length≤4*k) (fun i _=>s.size - (intOf i).toNat)
   case atStart=>exact ⟨1,s.size,[],hpos,rfl,H0.out,B0.out,hb.step _ _ HE.out (B0.out.mono hE0),HR.out,by simp⟩
   case round =>
    obtain ⟨k,f,acc,hk,rfl,hB,hbe,hEr,hF,hacc⟩:=hrel
    have HB:=Lib.hid hB
    have BB:=Lib.hid hbe
    have ER:=Lib.hid hEr
    clear hB hbe hEr H0 B0 HR HE
    cases hd:(bL s).drop k with
    | nil =>
     have hke:k=s.size:=by
      have:=congrArg List.length hd
      rw[List.length_drop,hsz]at this
      simp at this; omega
     subst hke
     rw[hd]at hF
     have hres:=qwk hF
     subst hres
     clear hF hd
     go_wp2_with fail
     go_returns
     exact ⟨rfl,BB.out,ER.out⟩
    | cons d t =>
     have hlt:k < s.size:=by have:=(q3l hd).1; rwa [hsz]at this
     have hkd:((s[k]'hlt).toNat:Int)=(d.toNat:Int):=by
      have h1:(bL s)[k]?=some (s[k]'hlt):=by rw[List.getElem?_eq_getElem (by rw[hsz]; exact hlt)]; rfl
      rw[(q3l hd).2.1]at h1
      rw[Option.some.inj h1]
     have hkd0:=hkd
     by_cases h34:d=34
     ·subst h34
      have hkd':((s[k]'hlt).toNat:Int)=34:=hkd
      rw[hd]at hF
      have hres:=qwj hF
      clear hF hd hkd
      by_cases hm:4096 < acc.length
      ·rw[if_pos hm]at hres
       subst hres
       have hm':(4096:Int) < (acc.length:Int):=by omega
       go_wp2_with fail
       refine (bLen w.heap.size w.heap.size acc _ HB.out).mono ?_
       rintro e w2 ⟨rfl,rfl⟩
       go_wp2_with fail
       go_returns
       exact ⟨rfl,BB.out,ER.out⟩
      ·rw[if_neg hm]at hres
       subst hres
       have hm':¬ (4096:Int) < (acc.length:Int):=by omega
       go_wp2_with fail
       refine (bLen w.heap.size w.heap.size acc _ HB.out).mono ?_
       rintro e w2 ⟨rfl,rfl⟩
       go_wp2_with fail
       refine (bStr w.heap.size w.heap.size _ _ HB.out BB.out.size).mono ?_
       rintro e w3 ⟨rfl,h3,b3⟩
       have B3:=Lib.hid (BB.out.trans b3)
       have E3:=Lib.hid (hb.step _ _ ER.out (b3.mono hE0))
       clear h3 b3
       go_wp2_with fail
       go_returns
       exact ⟨rfl,B3.out,E3.out⟩
     ·have hn34:¬ (d.toNat:Int)=34:=fun h=>h34 (q80 (by have:(34:UInt8).toNat=34:=rfl; omega))
      obtain ⟨a,n,hq⟩:∃ a n,decodeL (d::t)=(a,n):=⟨_,_,rfl⟩
      have D0:=Tryz.utf8_DecodeRuneInString (s.extract k s.size) wr (he _ ER.out).tabs
      rw[dec_at s k hlt,hd,hq]at D0
      have DD:=Lib.hid D0
      have hlen:(d::t).length=s.size - k:=by rw[← hd,List.length_drop,hsz]
      have hw:1≤n:=by have:=decodeL_width (d::t); rw[hq]at this; exact this
      have hnl:n≤s.size - k:=by have:=decodeL_le (d::t) (by simp); rw[hq,hlen]at this; exact this
      have hrl:a≤1114111:=by have:=decodeL_rune (d::t); rw[hq]at this; exact this
      have hdr:∀ j,(d::t).drop j=(bL s).drop (k+j):=fun j=>by rw[← hd,List.drop_drop]
      have hF':=hF
      rw[hd]at hF'
      cases f with
      | zero=>cases hF'
      | succ f =>
       simp only[unqF,if_neg h34,hq]at hF'
       clear hF D0 hq
       have ht:(d::t).drop 1=(bL s).drop (k+1):=hdr 1
       have hTL:=Lib.hid ht
       have HDR:=Lib.hid hdr
       clear hdr ht hd hkd h34
       have hkd2:((s[k]'hlt).toNat:Int)=(d.toNat:Int):=hkd0
       by_cases h92:a=92
       ·subst h92
        rw[if_pos rfl,hTL.out]at hF'
        have EE:=qqx hb he (s.extract (k+1) s.size) (by rw[ByteArray.size_extract]; omega)
        rw[qpi]at EE
        have hle:=qat ((bL s).drop (k+1))
        have hru:=qqv ((bL s).drop (k+1))
        have hlt1:((bL s).drop (k+1)).length=s.size - (k+1):=by rw[List.length_drop,hsz]
        rw[hlt1]at hle
        obtain ⟨x,m,e0,hq2⟩:∃ x m e0,escS ((bL s).drop (k+1))=(x,m,e0):=⟨_,_,_,rfl⟩
        rw[hq2]at EE hle hru hF'
        simp only at hle hru hF'
        have HEE:=Lib.hid EE
        clear EE hq2 hlt1 hlen hrl
        by_cases hz:e0=0
        ·subst hz
         rw[if_neg (by decide)]at hF'
         have hru':=hru rfl
         have hx:0≤x∧x≤1114111:=by
          have h1:=hru'.1
          unfold Lib.validRune at h1
          have:=of_decide_eq_true h1
          omega
         have hmn:m=((m.toNat:Nat):Int):=by omega
         generalize m.toNat=mn at hmn hF'
         subst hmn
         have HF:=Lib.hid hF'
         clear hF' hru hru'
         go_wp2_with fail
         refine DD.out.mono ?_
         rintro e w2 ⟨rfl,b2⟩
         have B2:=Lib.hid (BB.out.trans (b2.mono BB.out.size))
         have H2:=Lib.hid (q2s HB.out b2)
         have E2:=Lib.hid (hb.step _ _ ER.out (b2.mono (Nat.le_trans hE0 BB.out.size)))
         clear b2
         go_wp2_with fail
         refine (HEE.out _ E2.out (Nat.le_trans hE0 B2.out.size)).mono ?_
         rintro e w3 ⟨rfl,b3,e3⟩
         have B3:=Lib.hid (B2.out.trans (b3.mono B2.out.size))
         have H3:=Lib.hid (q2s H2.out b3)
         have E3:=Lib.hid e3
         clear b3 e3
         go_wp2_with fail
         refine (qgn w.heap.size w.heap.size acc x _ H3.out (by omega) (by omega) (by omega) B3.out.size).mono ?_
         rintro e w4 ⟨⟨nn,rfl⟩,h4,b4⟩
         have B4:=Lib.hid (B3.out.trans b4)
         have H4:=Lib.hid h4
         have E4:=Lib.hid (hb.step _ _ E3.out (b4.mono hE0))
         clear h4 b4
         go_wp2_with fail
         go_roundw
         case rel=>exact ⟨k+(mn+1),f,acc++encodeRune x,by omega,by go_num,H4.out,B4.out,E4.out,by have:=HF.out; rw[HDR.out]at this; exact this,by have:=q8p x; rw[List.length_append]; omega⟩
         case measure=>simp[intOf]; omega
        ·rw[if_pos hz]at hF'
         simp only[Option.some.injEq]at hF'
         subst hF'
         go_wp2_with fail
         refine DD.out.mono ?_
         rintro e w2 ⟨rfl,b2⟩
         have B2:=Lib.hid (BB.out.trans (b2.mono BB.out.size))
         have H2:=Lib.hid (q2s HB.out b2)
         have E2:=Lib.hid (hb.step _ _ ER.out (b2.mono (Nat.le_trans hE0 BB.out.size)))
         clear b2
         go_wp2_with fail
         refine (HEE.out _ E2.out (Nat.le_trans hE0 B2.out.size)).mono ?_
         rintro e w3 ⟨rfl,b3,e3⟩
         have B3:=Lib.hid (B2.out.trans (b3.mono B2.out.size))
         have E3:=Lib.hid e3
         clear b3 e3
         go_wp2_with fail
         go_returns
         exact ⟨rfl,B3.out,E3.out⟩
       ·rw[if_neg h92]at hF'
        have n92:¬ (a:Int)=92:=by omega
        by_cases hbad:(a=65533∧n=1)∨a < 32∨a=127
        ·rw[if_pos hbad]at hF'
         simp only[Option.some.injEq]at hF'
         subst hF'
         rcases hbad with ⟨h1,h2⟩ | h1 | h1
         ·subst h1 h2
          go_wp2_with fail
          refine DD.out.mono ?_
          rintro e w2 ⟨rfl,b2⟩
          have B2:=Lib.hid (BB.out.trans (b2.mono BB.out.size))
          have H2:=Lib.hid (q2s HB.out b2)
          have E2:=Lib.hid (hb.step _ _ ER.out (b2.mono (Nat.le_trans hE0 BB.out.size)))
          clear b2
          go_wp2_with fail
          go_returns
          exact ⟨rfl,B2.out,E2.out⟩
         ·have d32:(a:Int) < 32:=by omega
          have b65:((a:Int) == 65533)=false:=by simp; omega
          go_wp2_with fail
          refine DD.out.mono ?_
          rintro e w2 ⟨rfl,b2⟩
          have B2:=Lib.hid (BB.out.trans (b2.mono BB.out.size))
          have H2:=Lib.hid (q2s HB.out b2)
          have E2:=Lib.hid (hb.step _ _ ER.out (b2.mono (Nat.le_trans hE0 BB.out.size)))
          clear b2
          go_wp2_with fail
          go_returns
          exact ⟨rfl,B2.out,E2.out⟩
         ·subst h1
          go_wp2_with fail
          refine DD.out.mono ?_
          rintro e w2 ⟨rfl,b2⟩
          have B2:=Lib.hid (BB.out.trans (b2.mono BB.out.size))
          have H2:=Lib.hid (q2s HB.out b2)
          have E2:=Lib.hid (hb.step _ _ ER.out (b2.mono (Nat.le_trans hE0 BB.out.size)))
          clear b2
          go_wp2_with fail
          go_returns
          exact ⟨rfl,B2.out,E2.out⟩
        ·rw[if_neg hbad]at hF'
         have HF:=Lib.hid hF'
         have d32:¬ (a:Int) < 32:=by omega
         have b127:((a:Int) == 127)=false:=by simp; omega
         have q32:decide ((a:Int) < 32)=false:=decide_eq_false d32
         clear hF'
         by_cases h65:a=65533
         ·subst h65
          have b1:((n:Int) == 1)=false:=by simp; omega
          clear d32 b127 q32
          go_wp2_with fail
          refine DD.out.mono ?_
          rintro e w2 ⟨rfl,b2⟩
          have B2:=Lib.hid (BB.out.trans (b2.mono BB.out.size))
          have H2:=Lib.hid (q2s HB.out b2)
          have E2:=Lib.hid (hb.step _ _ ER.out (b2.mono (Nat.le_trans hE0 BB.out.size)))
          clear b2
          go_wp2_with fail
          refine (qgn w.heap.size w.heap.size acc (((65533:Nat):Int)) _ H2.out (by omega) (by omega) (by omega) B2.out.size).mono ?_
          rintro e w4 ⟨⟨nn,rfl⟩,h4,b4⟩
          have B4:=Lib.hid (B2.out.trans b4)
          have H4:=Lib.hid h4
          have E4:=Lib.hid (hb.step _ _ E2.out (b4.mono hE0))
          clear h4 b4
          go_wp2_with fail
          go_roundw
          case rel=>exact ⟨k+n,f,acc++encodeRune (((65533:Nat):Int)),by omega,by go_num,H4.out,B4.out,E4.out,by have:=HF.out; rw[HDR.out]at this; exact this,by have:=q8p (((65533:Nat):Int)); rw[List.length_append]; omega⟩
          case measure=>simp[intOf]; omega
         ·have b65:((a:Int) == 65533)=false:=by simp; omega
          go_wp2_with fail
          refine DD.out.mono ?_
          rintro e w2 ⟨rfl,b2⟩
          have B2:=Lib.hid (BB.out.trans (b2.mono BB.out.size))
          have H2:=Lib.hid (q2s HB.out b2)
          have E2:=Lib.hid (hb.step _ _ ER.out (b2.mono (Nat.le_trans hE0 BB.out.size)))
          clear b2
          go_wp2_with fail
          refine (qgn w.heap.size w.heap.size acc (a:Int) _ H2.out (by omega) (by omega) (by omega) B2.out.size).mono ?_
          rintro e w4 ⟨⟨nn,rfl⟩,h4,b4⟩
          have B4:=Lib.hid (B2.out.trans b4)
          have H4:=Lib.hid h4
          have E4:=Lib.hid (hb.step _ _ E2.out (b4.mono hE0))
          clear h4 b4
          go_wp2_with fail
          go_roundw
          case rel=>exact ⟨k+n,f,acc++encodeRune (a:Int),by omega,by go_num,H4.out,B4.out,E4.out,by have:=HF.out; rw[HDR.out]at this; exact this,by have:=q8p (a:Int); rw[List.length_append]; omega⟩
          case measure=>simp[intOf]; omega
  ·rw[if_neg hc]at hr
   simp only[Option.some.injEq]at hr
   subst hr
   have hc1:¬ (c.toNat:Int)=34:=fun h=>hc (q80 (by have:(34:UInt8).toNat=34:=rfl; omega))
   clear hl hc
   go_enter Tryz.func97,Tryz.ntmps97
   go_wp2_with fail
   go_returns
   exact ⟨rfl,Below.refl _ _,HE.out⟩
end Go.Proofs.YtpidpioifnnllaaGreatDoor
namespace Go.Proofs.YtpidpioifnnllaaGreatDoor
set_option linter.unusedSimpArgs false
set_option linter.unusedVariables false
namespace Abs
open Go.RowKit
variable {E : World → Prop} {E0 : Nat} {G : Nat → Option (List PV)}
noncomputable def q95 (s:ByteArray):Option ByteArray:=gd (s.size≤1099511627776) (bS (q12 (bL s)))
theorem qml (hb:Base E E0 G) (he:∀ w,E w→EnvV w) (s r:ByteArray) (h:q95 s=some r):Pure E E0 Tryz.prog 52 [.cell (vS s)] (c1 (vS r)):=by
 obtain ⟨h1,rfl⟩:=q4s h
 refine Pure.of hb fun X w vs hE hv=>?_
 match vs,hv with
 | [u],⟨k1,_⟩ =>
  rw[q4g k1]
  exact (qv5 s w h1 (he w hE).deb).mono fun e w' ⟨e1,e2⟩=>⟨_,e1,e2,fun X'=>q4c q53⟩
noncomputable def qbi (s:ByteArray):Option (ByteArray×Int×Int):=if s.size≤1099511627776 then (unqS (bL s)).map fun r=>(bS r.1,(r.2.1:Int),r.2.2) else none
theorem qwn (hb:Base E E0 G) (he:∀ w,E w→EnvV w) (s:ByteArray) (r:ByteArray×Int×Int) (h:qbi s=some r):Pure E E0 Tryz.prog 97 [.cell (vS s)] (.tup [.cell (vS r.1),.cell (vi r.2.1),.cell (vi r.2.2)]):=by
 unfold qbi at h
 split at h
 ·rename_i h1
  obtain ⟨q,hq,rfl⟩:=Option.map_eq_some_iff.1 h
  intro old w vs hE h0 hold hv
  match vs,hv with
  | [u],⟨k1,_⟩ =>
   rw[q4g k1]
   refine (qwm hb he s q hq h1 w hE h0).mono ?_
   rintro e w' ⟨rfl,h2,h3⟩
   exact ⟨_,rfl,h2,h3,_,rfl,q53,q2k,q2k,trivial⟩
 ·cases h
end Abs
end Go.Proofs.YtpidpioifnnllaaGreatDoor
