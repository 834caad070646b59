/-
  The text of a value, read plainly: on the rest of the text.
  The reference's code points: decoded and encoded as the library does.
  The text of a value, read plainly: texts, numbers, words.
  The reference's Unquote is the plain one.
  The text of a value, read plainly: lists, mappings, values.
  The reference's Unquote is the plain one: escapes, single code points, the loop.
  The program's reader is the plain one.
  value.Map of pairs with different keys, and the reference's put: the pairs by ascending keys.
  The reference's reader is the plain one.
  The reference's reader is the plain one: lists, tables, numbers, words, values.
  Parse, the program's and the reference's, are the plain one.
  Quote and Format, the reference's, are the plain ones; what few values are.
  Format: the reference's is the plain one.
  The laws' example.
  Lines, plainly; the laws' example.
-/
import Derived.Test.YtpidpioifnnllaaGreatDoorCtXR
import Derived.Test.YtpidpioifnnllaaGreatDoorFnCZ
namespace Go.Proofs.YtpidpioifnnllaaGreatDoor
set_option linter.unusedSimpArgs false
set_option linter.unusedVariables false
namespace Abs
open Go.RowKit
abbrev PR (α:Type):=(Int×List UInt8)⊕(α×List UInt8)
def q4d (l:List UInt8):PR UInt8:=match qc l with
 | []=>.inl (40,[])
 | c::r=>.inr (c,c::r)
def q18 (e:UInt8) (l:List UInt8):PR Bool:=match qc l with
 | []=>.inl (40,[])
 | c::r=>if c=44 then .inr (true,r) else if c=e then .inr (false,r) else .inl (2,c::r)
def q1d (l:List UInt8):PR ByteArray:=match unqS l with
 | none=>.inl (0,l)
 | some (b,k,e)=>if e=0 then .inr (bS b,l.drop k) else .inl (e,l)
def digB (c:UInt8):Bool:=decide (48≤c.toNat) && decide (c.toNat≤57)
def numS (c:UInt8) (r:List UInt8):PR Val :=
 if (NumPlain.parseB (bS (c::r.takeWhile digB))).2=0 then .inr (.mk 2 (NumPlain.parseB (bS (c::r.takeWhile digB))).1 eS [] [],r.dropWhile digB)
 else .inl ((NumPlain.parseB (bS (c::r.takeWhile digB))).2,c::r)
def q20 (l:List UInt8):PR Val :=
 if [110,117,108,108].isPrefixOf l then .inr (.mk 0 0 eS [] [],l.drop 4)
 else if [116,114,117,101].isPrefixOf l then .inr (.mk 1 1 eS [] [],l.drop 4)
 else if [102,97,108,115,101].isPrefixOf l then .inr (.mk 1 0 eS [] [],l.drop 5)
 else if [40,117,110,107,110,111,119,110,41].isPrefixOf l then .inr (.mk 6 0 eS [] [],l.drop 9)
 else .inl (2,l)
def q1r (rec:List UInt8→PR Val):Nat→List UInt8→List Val→PR Val
 | 0,l,_=>.inl (0,l)
 | f+1,l,acc=>match rec l with
  | .inl p=>.inl p
  | .inr (v,l1)=>match q18 93 l1 with
   | .inl p=>.inl p
   | .inr (true,l2)=>q1r rec f l2 (acc++[v])
   | .inr (false,l2)=>.inr (.mk 4 0 eS (acc++[v]) [],l2)
def q3c (rec:List UInt8→PR Val) (l:List UInt8):PR Val:=match qc l with
 | []=>.inl (40,[])
 | c::r=>if c=93 then .inr (.mk 4 0 eS [] [],r) else q1r rec (l.length+1) (c::r) []
def hasK (ks:List ByteArray) (k:ByteArray):Bool:=ks.any fun x=>decide (x=k)
def keyS (ks:List ByteArray) (l:List UInt8):PR ByteArray:=match qc l with
 | []=>.inl (40,[])
 | c::r=>if c=34 then (match q1d (c::r) with
   | .inl p=>.inl p
   | .inr (k,l1)=>if hasK ks k then .inl (8,c::r) else match qc l1 with
    | []=>.inl (40,[])
    | c2::r2=>if c2=58 then .inr (k,r2) else .inl (2,c2::r2))
  else .inl (2,c::r)
def mapF (rec:List UInt8→PR Val) (fin:List ByteArray→List Val→Val):Nat→List UInt8→List ByteArray→List Val→PR Val
 | 0,l,_,_=>.inl (0,l)
 | f+1,l,ks,vs=>match keyS ks l with
  | .inl p=>.inl p
  | .inr (k,l1)=>match rec l1 with
   | .inl p=>.inl p
   | .inr (v,l2)=>match q18 125 l2 with
    | .inl p=>.inl p
    | .inr (true,l3)=>mapF rec fin f l3 (ks++[k]) (vs++[v])
    | .inr (false,l3)=>.inr (fin (ks++[k]) (vs++[v]),l3)
def mapS (rec:List UInt8→PR Val) (fin:List ByteArray→List Val→Val) (l:List UInt8):PR Val:=match qc l with
 | []=>.inl (40,[])
 | c::r=>if c=125 then .inr (.mk 5 0 eS [] [],r) else mapF rec fin (l.length+1) (c::r) [] []
def qg (fin:List ByteArray→List Val→Val):Nat→List UInt8→PR Val
 | 0,l=>match qc l with
  | []=>.inl (40,[])
  | c::r=>if c=91∨c=123 then .inl (4,c::r)
   else if c=34 then (match q1d (c::r) with | .inl p=>.inl p | .inr (t,l1)=>.inr (.mk 3 0 t [] [],l1))
   else if c=45∨digB c=true then numS c r else q20 (c::r)
 | d+1,l=>match qc l with
  | []=>.inl (40,[])
  | c::r=>if c=91 then q3c (qg fin d) r else if c=123 then mapS (qg fin d) fin r
   else if c=34 then (match q1d (c::r) with | .inl p=>.inl p | .inr (t,l1)=>.inr (.mk 3 0 t [] [],l1))
   else if c=45∨digB c=true then numS c r else q20 (c::r)
def ps (s:ByteArray) (l:List UInt8):Int:=(s.size:Int) - (l.length:Int)
section
variable {s : ByteArray} {l : List UInt8}
theorem q1x (h:l <:+ bL s):l.length≤s.size:=by rw[← q2c]; exact h.length_le
theorem q9p (h:l <:+ bL s):(bL s).drop (s.size - l.length)=l:=by
 have:=List.suffix_iff_eq_drop.1 h
 rw[q2c]at this
 exact this.symm
theorem q7s (h:l <:+ bL s):ps s l=((s.size - l.length:Nat):Int):=by
 have:=q1x h
 unfold ps; omega
theorem qfp:ps s []=(s.size:Int):=by unfold ps; simp
theorem qfo:ps s (bL s)=0:=by unfold ps; rw[q2c]; omega
theorem q3r {c:UInt8} {r:List UInt8} (h:c::r <:+ bL s):r <:+ bL s:=(List.suffix_cons c r).trans h
theorem qc8 (h:l <:+ bL s) (n:Nat):l.drop n <:+ bL s:=(List.drop_suffix n l).trans h
theorem q24 {c:UInt8} {r:List UInt8} (h:c::r <:+ bL s) (hs:s.size≤9223372036854775807):IntKind.i64.wrap (ps s (c::r)+1)=ps s r:=by
 have:=q1x h
 unfold ps
 simp only[List.length_cons]at this ⊢
 rw[q13 (by omega) (by omega)]
 omega
theorem q3d (h:l <:+ bL s) (hs:s.size≤9223372036854775807) {n:Nat} (hn:n≤l.length):IntKind.i64.wrap (ps s l+(n:Int))=ps s (l.drop n):=by
 have:=q1x h
 unfold ps
 rw[List.length_drop,q13 (by omega) (by omega)]
 omega
theorem q1k {c:UInt8} {r:List UInt8} (h:c::r <:+ bL s):sidx s (ps s (c::r))=some ((c.toNat:Nat):Int):=by
 rw[q7s h]; exact qfy (q9p h)
theorem qc2 (h:l <:+ bL s):sslc s (ps s l) (s.size:Int)=some (bS l):=by
 rw[q7s h,qg6 (Nat.sub_le _ _),q9p h]
theorem q2v {c:UInt8} {r:List UInt8} (h:c::r <:+ bL s):decide (ps s (c::r) < (s.size:Int))=true:=by
 unfold ps; simp only[List.length_cons]; exact decide_eq_true (by omega)
theorem q52:decide (ps s [] < (s.size:Int))=false:=by unfold ps; exact decide_eq_false (by simp)
theorem q7q:decide (ps s []=(s.size:Int))=true:=decide_eq_true qfp
theorem q7r {c:UInt8} {r:List UInt8} (h:c::r <:+ bL s):decide (ps s (c::r)=(s.size:Int))=false:=by
 unfold ps; simp only[List.length_cons]; exact decide_eq_false (by omega)
end
def isBl (c:UInt8):Bool:=([32,9,10,13]:List UInt8).contains c
theorem q1i (c:UInt8) (r:List UInt8):qc (c::r)=if isBl c then qc r else c::r:=by
 show List.dropWhile _ _=_
 rw[List.dropWhile_cons]
 rfl
theorem q1j (l:List UInt8):qc l <:+ l:=List.dropWhile_suffix _
theorem qhm (l:List UInt8):qc (qc l)=qc l:=by
 induction l with
 | nil=>rfl
 | cons c r ih =>
  rw[q1i]
  split
  ·exact ih
  ·rename_i h
   rw[q1i,if_neg h]
theorem qd9 {l:List UInt8} {c:UInt8} {r:List UInt8} (h:qc l=c::r):isBl c=false:=by
 induction l with
 | nil=>cases h
 | cons a t ih =>
  rw[q1i]at h
  split at h
  ·exact ih h
  ·rename_i hb
   cases h
   simpa using hb
theorem qpo:∀ c:Fin 256,decide (Lib.indexByte [32,9,10,13] (UInt8.ofNat c.val) ≥ 0)=isBl (UInt8.ofNat c.val):=by decide +kernel
theorem m_bl (c:UInt8):∃ y:Int,q6f (⟨#[32,9,10,13]⟩:ByteArray) ((c.toNat:Nat):Int)=some y∧decide (y ≥ 0)=isBl c:=by
 refine ⟨_,rfl,?_⟩
 have:=qpo ⟨c.toNat,c.toNat_lt⟩
 simpa using this
def encR (s:ByteArray) {α β:Type} (f:α→β):PR α→(Int×Int)⊕(β×Int)
 | .inl p=>.inl (p.1,ps s p.2)
 | .inr y=>.inr (f y.1,ps s y.2)
section
variable {s : ByteArray}
theorem q5p (hs:s.size≤9223372036854775807):∀ l:List UInt8,l <:+ bL s→gQ3j s (ps s l)=some (encR s (fun c:UInt8=>((c.toNat:Nat):Int)) (q4d l))
 | [],h=>by
  unfold gQ3j q4d
  refine qs ?_
  unfold gQ3k
  rw[q52,cond_false,q7q,cond_true]
  rfl
 | c::r,h=>by
  obtain ⟨y,hy,hyb⟩:=m_bl c
  unfold gQ3j q4d
  rw[q1i]
  by_cases hb:isBl c=true
  ·rw[if_pos hb]
   rw[q1v (s':=ps s r) (by
    unfold gQ3k
    rw[q2v h,cond_true,q1k h,Option.bind_some,hy,Option.bind_some,hyb,hb,cond_true,q24 h hs])]
   exact q5p hs r (q3r h)
  ·rw[if_neg hb]
   refine qs ?_
   unfold gQ3k
   rw[q2v h,cond_true,q1k h,Option.bind_some,hy,Option.bind_some,hyb,Bool.eq_false_iff.2 hb,cond_false,q7r h,cond_false]
   rfl
theorem qli (hs:s.size≤9223372036854775807) (l:List UInt8) (h:l <:+ bL s) (e:UInt8):gQ3e s (ps s l) ((e.toNat:Nat):Int)=some (encR s id (q18 e l)):=by
 unfold gQ3e q18 lbind
 rw[q5p hs l h]
 unfold q4d
 have hsuf:=(q1j l).trans h
 cases hb:qc l with
 | nil=>rfl
 | cons c r =>
  rw[hb]at hsuf
  simp only[encR,Option.bind_some]
  have e1:decide (((c.toNat:Nat):Int)=44)=decide (c=44):=qx c 44
  rw[e1,qx c e,q24 hsuf hs]
  by_cases h1:c=44
  ·rw[decide_eq_true h1,cond_true,if_pos h1]; rfl
  ·rw[decide_eq_false h1,cond_false,if_neg h1]
   by_cases h2:c=e
   ·rw[decide_eq_true h2,cond_true,if_pos h2]; rfl
   ·rw[decide_eq_false h2,cond_false,if_neg h2]
end
end Abs
end Go.Proofs.YtpidpioifnnllaaGreatDoor
namespace Go.Proofs.YtpidpioifnnllaaGreatDoor
set_option linter.unusedSimpArgs false
set_option linter.unusedVariables false
open Go.RowKit Go.Lib
namespace Abs
def rl (n b0 b1 b2 b3:Nat):Nat :=
 if (lead b0).1=1 then 1
 else if (lead b0).1=2 then (if 1 < n∧(lead b0).2.1≤(b1:Int)∧(b1:Int)≤(lead b0).2.2 then 2 else 0)
 else if (lead b0).1=3 then (if (1 < n∧(lead b0).2.1≤(b1:Int)∧(b1:Int)≤(lead b0).2.2)∧(2 < n∧128≤b2∧b2≤191) then 3 else 0)
 else if (lead b0).1=4 then (if (1 < n∧(lead b0).2.1≤(b1:Int)∧(b1:Int)≤(lead b0).2.2)∧(2 < n∧128≤b2∧b2≤191)∧(3 < n∧128≤b3∧b3≤191) then 4 else 0)
 else 0
theorem rl3 {n b0 b1 b2 b3:Nat} {lo hi:Int} (hl:lead b0=(3,lo,hi)):rl n b0 b1 b2 b3=if (1 < n∧lo≤(b1:Int)∧(b1:Int)≤hi)∧(2 < n∧128≤b2∧b2≤191) then 3 else 0:=by
 unfold rl; rw[hl]; rfl
theorem rl4 {n b0 b1 b2 b3:Nat} {lo hi:Int} (hl:lead b0=(4,lo,hi)):rl n b0 b1 b2 b3=if (1 < n∧lo≤(b1:Int)∧(b1:Int)≤hi)∧(2 < n∧128≤b2∧b2≤191)∧(3 < n∧128≤b3∧b3≤191) then 4 else 0:=by
 unfold rl; rw[hl]; rfl
abbrev v3 (b0 b1 b2:Nat):Nat:=b0 % 16*4096+b1 % 64*64+b2 % 64
abbrev v4 (b0 b1 b2 b3:Nat):Nat:=b0 % 8*262144+b1 % 64*4096+b2 % 64*64+b3 % 64
abbrev Bad (x:Nat×Nat):Nat:=if x.1=65533∧x.2=1 then 0 else x.2
theorem q8g {x:Nat×Nat} (e:x=(65533,1)):Bad x=0:=by rw[e]; rfl
theorem qd3 {x:Nat×Nat} {v k:Nat} (e:x=(v,k)) (hk:2≤k):Bad x=k:=by
 subst e
 exact if_neg (fun q=>by have:=q.2; simp only at this; omega)
section
variable {n b0 b1 b2 b3 : Nat} {lo hi : Int}
theorem rl_3 (n1:224≤b0) (n2:b0 < 240) (hl:lead b0=(3,lo,hi))
  (k1:lo≤(b1:Int)→(b1:Int)≤hi→128≤b2→b2≤191→b1 / 64=2∧(v3 b0 b1 b2 ≥ 2048∧(v3 b0 b1 b2 < 55296∨(57344≤v3 b0 b1 b2∧v3 b0 b1 b2≤1114111))))
  (k2:¬ (lo≤(b1:Int)∧(b1:Int)≤hi)→b1 / 64=2→128≤b2→b2≤191→¬ (v3 b0 b1 b2 ≥ 2048∧(v3 b0 b1 b2 < 55296∨(57344≤v3 b0 b1 b2∧v3 b0 b1 b2≤1114111)))) (h2:b2 < 256) :
  rl n b0 b1 b2 b3=Bad (decodeN n b0 b1 b2 b3):=by
 rw[rl3 hl]
 by_cases c:(1 < n∧lo≤(b1:Int)∧(b1:Int)≤hi)∧(2 < n∧128≤b2∧b2≤191)
 ·obtain ⟨q1,q2⟩:=k1 c.1.2.1 c.1.2.2 c.2.2.1 c.2.2.2
  rw[if_pos c]
  refine (qd3 (v:=v3 b0 b1 b2) ?_ (by decide)).symm
  unfold decodeN
  rw[if_neg (show ¬ b0 < 128 by omega),if_neg (show ¬ (b0 / 32=6∧(1 < n∧b1 / 64=2)) by omega),if_pos (show b0 / 16=14∧(1 < n∧b1 / 64=2)∧(2 < n∧b2 / 64=2) by omega),if_pos q2]
 ·rw[if_neg c]
  refine (q8g ?_).symm
  unfold decodeN
  rw[if_neg (show ¬ b0 < 128 by omega),if_neg (show ¬ (b0 / 32=6∧(1 < n∧b1 / 64=2)) by omega)]
  by_cases c2:b0 / 16=14∧(1 < n∧b1 / 64=2)∧(2 < n∧b2 / 64=2)
  ·rw[if_pos c2,if_neg (k2 (fun q=>c ⟨⟨c2.2.1.1,q⟩,c2.2.2.1,by omega,by omega⟩) c2.2.1.2 (by omega) (by omega))]
  ·rw[if_neg c2,if_neg (show ¬ (b0 / 8=30∧(1 < n∧b1 / 64=2)∧(2 < n∧b2 / 64=2)∧(3 < n∧b3 / 64=2)) by omega)]
theorem rl_4 (n1:240≤b0) (n2:b0 < 248) (hl:lead b0=(4,lo,hi))
  (k1:lo≤(b1:Int)→(b1:Int)≤hi→128≤b2→b2≤191→128≤b3→b3≤191→b1 / 64=2∧(v4 b0 b1 b2 b3 ≥ 65536∧(v4 b0 b1 b2 b3 < 55296∨(57344≤v4 b0 b1 b2 b3∧v4 b0 b1 b2 b3≤1114111))))
  (k2:¬ (lo≤(b1:Int)∧(b1:Int)≤hi)→b1 / 64=2→128≤b2→b2≤191→128≤b3→b3≤191→¬ (v4 b0 b1 b2 b3 ≥ 65536∧(v4 b0 b1 b2 b3 < 55296∨(57344≤v4 b0 b1 b2 b3∧v4 b0 b1 b2 b3≤1114111)))) (h2:b2 < 256) (h3:b3 < 256) :
  rl n b0 b1 b2 b3=Bad (decodeN n b0 b1 b2 b3):=by
 rw[rl4 hl]
 by_cases c:(1 < n∧lo≤(b1:Int)∧(b1:Int)≤hi)∧(2 < n∧128≤b2∧b2≤191)∧(3 < n∧128≤b3∧b3≤191)
 ·obtain ⟨q1,q2⟩:=k1 c.1.2.1 c.1.2.2 c.2.1.2.1 c.2.1.2.2 c.2.2.2.1 c.2.2.2.2
  rw[if_pos c]
  refine (qd3 (v:=v4 b0 b1 b2 b3) ?_ (by decide)).symm
  unfold decodeN
  rw[if_neg (show ¬ b0 < 128 by omega),if_neg (show ¬ (b0 / 32=6∧(1 < n∧b1 / 64=2)) by omega),if_neg (show ¬ (b0 / 16=14∧(1 < n∧b1 / 64=2)∧(2 < n∧b2 / 64=2)) by omega),if_pos (show b0 / 8=30∧(1 < n∧b1 / 64=2)∧(2 < n∧b2 / 64=2)∧(3 < n∧b3 / 64=2) by omega),if_pos q2]
 ·rw[if_neg c]
  refine (q8g ?_).symm
  unfold decodeN
  rw[if_neg (show ¬ b0 < 128 by omega),if_neg (show ¬ (b0 / 32=6∧(1 < n∧b1 / 64=2)) by omega),if_neg (show ¬ (b0 / 16=14∧(1 < n∧b1 / 64=2)∧(2 < n∧b2 / 64=2)) by omega)]
  by_cases c2:b0 / 8=30∧(1 < n∧b1 / 64=2)∧(2 < n∧b2 / 64=2)∧(3 < n∧b3 / 64=2)
  ·rw[if_pos c2,if_neg (k2 (fun q=>c ⟨⟨c2.2.1.1,q⟩,⟨c2.2.2.1.1,by omega,by omega⟩,c2.2.2.2.1,by omega,by omega⟩) c2.2.1.2 (by omega) (by omega) (by omega) (by omega))]
  ·rw[if_neg c2]
end
theorem rl_dec (n b0 b1 b2 b3:Nat) (h0:b0 < 256) (h1:b1 < 256) (h2:b2 < 256) (h3:b3 < 256):rl n b0 b1 b2 b3=Bad (decodeN n b0 b1 b2 b3):=by
 rcases Nat.lt_or_ge b0 128 with a1 | a1
 ·have hl:lead b0=(1,0,0):=by unfold lead; rw[if_pos a1]
  have e:decodeN n b0 b1 b2 b3=(b0,1):=by unfold decodeN; rw[if_pos a1]
  rw[e]
  unfold rl
  rw[hl,if_pos rfl]
  exact (if_neg (fun q=>by have:=q.1; simp only at this; omega)).symm
 have n1:¬ b0 < 128:=by omega
 rcases Nat.lt_or_ge b0 194 with a2 | a2
 ·have hl:lead b0=(0,0,0):=by unfold lead; rw[if_neg n1,if_pos a2]
  have hr:rl n b0 b1 b2 b3=0:=by unfold rl; rw[hl]; rfl
  rw[hr]
  refine (q8g ?_).symm
  unfold decodeN
  rw[if_neg n1]
  by_cases c:b0 / 32=6∧(1 < n∧b1 / 64=2)
  ·rw[if_pos c,if_neg (by omega)]
  ·rw[if_neg c,if_neg (show ¬ (b0 / 16=14∧(1 < n∧b1 / 64=2)∧(2 < n∧b2 / 64=2)) by omega),if_neg (show ¬ (b0 / 8=30∧(1 < n∧b1 / 64=2)∧(2 < n∧b2 / 64=2)∧(3 < n∧b3 / 64=2)) by omega)]
 have n2:¬ b0 < 194:=by omega
 rcases Nat.lt_or_ge b0 224 with a3 | a3
 ·have hl:lead b0=(2,128,191):=by unfold lead; rw[if_neg n1,if_neg n2,if_pos a3]
  have hr:rl n b0 b1 b2 b3=if 1 < n∧(128:Int)≤(b1:Int)∧(b1:Int)≤191 then 2 else 0:=by unfold rl; rw[hl]; rfl
  rw[hr]
  by_cases c:1 < n∧(128:Int)≤(b1:Int)∧(b1:Int)≤191
  ·rw[if_pos c]
   refine (qd3 (v:=b0 % 32*64+b1 % 64) ?_ (by decide)).symm
   unfold decodeN
   rw[if_neg n1,if_pos (show b0 / 32=6∧(1 < n∧b1 / 64=2) by omega),if_pos (by omega)]
  ·rw[if_neg c]
   refine (q8g ?_).symm
   unfold decodeN
   rw[if_neg n1,if_neg (show ¬ (b0 / 32=6∧(1 < n∧b1 / 64=2)) by omega),if_neg (show ¬ (b0 / 16=14∧(1 < n∧b1 / 64=2)∧(2 < n∧b2 / 64=2)) by omega),if_neg (show ¬ (b0 / 8=30∧(1 < n∧b1 / 64=2)∧(2 < n∧b2 / 64=2)∧(3 < n∧b3 / 64=2)) by omega)]
 have n3:¬ b0 < 224:=by omega
 rcases Nat.lt_or_ge b0 240 with a4 | a4
 ·rcases Nat.lt_or_ge b0 225 with a5 | a5
  ·obtain rfl:b0=224:=by omega
   exact rl_3 (lo:=160) (hi:=191) (by decide) (by decide) rfl (fun _ _ _ _=>⟨by omega,by simp only[v3]; omega⟩) (fun _ _ _ _=>by simp only[v3]; omega) h2
  rcases Nat.lt_or_ge b0 237 with a6 | a6
  ·have hl:lead b0=(3,128,191):=by unfold lead; rw[if_neg n1,if_neg n2,if_neg n3,if_neg (by omega),if_pos a6]
   exact rl_3 a3 a4 hl (fun _ _ _ _=>⟨by omega,by simp only[v3]; omega⟩) (fun _ _ _ _=>by simp only[v3]; omega) h2
  rcases Nat.lt_or_ge b0 238 with a7 | a7
  ·obtain rfl:b0=237:=by omega
   exact rl_3 (lo:=128) (hi:=159) (by decide) (by decide) rfl (fun _ _ _ _=>⟨by omega,by simp only[v3]; omega⟩) (fun _ _ _ _=>by simp only[v3]; omega) h2
  ·have hl:lead b0=(3,128,191):=by unfold lead; rw[if_neg n1,if_neg n2,if_neg n3,if_neg (by omega),if_neg (by omega),if_neg (by omega),if_pos a4]
   exact rl_3 a3 a4 hl (fun _ _ _ _=>⟨by omega,by simp only[v3]; omega⟩) (fun _ _ _ _=>by simp only[v3]; omega) h2
 have n4:¬ b0 < 240:=by omega
 rcases Nat.lt_or_ge b0 245 with a8 | a8
 ·rcases Nat.lt_or_ge b0 241 with a9 | a9
  ·obtain rfl:b0=240:=by omega
   exact rl_4 (lo:=144) (hi:=191) (by decide) (by decide) rfl (fun _ _ _ _ _ _=>⟨by omega,by simp only[v4]; omega⟩) (fun _ _ _ _ _ _=>by simp only[v4]; omega) h2 h3
  rcases Nat.lt_or_ge b0 244 with a10 | a10
  ·have hl:lead b0=(4,128,191):=by unfold lead; rw[if_neg n1,if_neg n2,if_neg n3,if_neg (by omega),if_neg (by omega),if_neg (by omega),if_neg n4,if_neg (by omega),if_pos a10]
   exact rl_4 a4 (by omega) hl (fun _ _ _ _ _ _=>⟨by omega,by simp only[v4]; omega⟩) (fun _ _ _ _ _ _=>by simp only[v4]; omega) h2 h3
  ·obtain rfl:b0=244:=by omega
   exact rl_4 (lo:=128) (hi:=143) (by decide) (by decide) rfl (fun _ _ _ _ _ _=>⟨by omega,by simp only[v4]; omega⟩) (fun _ _ _ _ _ _=>by simp only[v4]; omega) h2 h3
 ·have hl:lead b0=(0,0,0):=by unfold lead; rw[if_neg n1,if_neg n2,if_neg n3,if_neg (by omega),if_neg (by omega),if_neg (by omega),if_neg n4,if_neg (by omega),if_neg (by omega),if_neg (by omega)]
  have hr:rl n b0 b1 b2 b3=0:=by unfold rl; rw[hl]; rfl
  rw[hr]
  refine (q8g ?_).symm
  unfold decodeN
  rw[if_neg n1,if_neg (show ¬ (b0 / 32=6∧(1 < n∧b1 / 64=2)) by omega),if_neg (show ¬ (b0 / 16=14∧(1 < n∧b1 / 64=2)∧(2 < n∧b2 / 64=2)) by omega)]
  by_cases c:b0 / 8=30∧(1 < n∧b1 / 64=2)∧(2 < n∧b2 / 64=2)∧(3 < n∧b3 / 64=2)
  ·rw[if_pos c,if_neg (by omega)]
  ·rw[if_neg c]
theorem qvs (s:ByteArray) (i:Nat) (h:i < s.size):rlen s i=Bad (decodeL ((bL s).drop i)):=by
 have g:=q8v s i
 have g0:=g 0
 rw[Nat.add_zero]at g0
 have hlen:((bL s).drop i).length=s.size - i:=by rw[List.length_drop,q2c]
 rw[decodeL_N,hlen]
 show _=Bad (decodeN (s.size - i) ((s.data.toList.drop i).getD 0 0).toNat ((s.data.toList.drop i).getD 1 0).toNat ((s.data.toList.drop i).getD 2 0).toNat ((s.data.toList.drop i).getD 3 0).toNat)
 rw[g0,g 1,g 2,g 3,← rl_dec _ _ _ _ _ (q8h _ _) (q8h _ _) (q8h _ _) (q8h _ _)]
 have c1:∀ lo hi:Int,(qi s (i+1) lo hi=true)=(1 < s.size - i∧lo≤(qb s (i+1):Int)∧(qb s (i+1):Int)≤hi):=fun lo hi=>by
  rw[q72]; exact propext ⟨fun ⟨a,b⟩=>⟨by omega,b⟩,fun ⟨a,b⟩=>⟨by omega,b⟩⟩
 have c2:(qi s (i+2) 128 191=true)=(2 < s.size - i∧128≤qb s (i+2)∧qb s (i+2)≤191):=by
  rw[q72]; exact propext ⟨fun ⟨a,b⟩=>⟨by omega,by omega⟩,fun ⟨a,b⟩=>⟨by omega,by omega⟩⟩
 have c3:(qi s (i+3) 128 191=true)=(3 < s.size - i∧128≤qb s (i+3)∧qb s (i+3)≤191):=by
  rw[q72]; exact propext ⟨fun ⟨a,b⟩=>⟨by omega,by omega⟩,fun ⟨a,b⟩=>⟨by omega,by omega⟩⟩
 unfold rlen rl
 simp only[Bool.and_eq_true,c1,c2,c3,and_assoc]
end Abs
end Go.Proofs.YtpidpioifnnllaaGreatDoor
namespace Go.Proofs.YtpidpioifnnllaaGreatDoor
set_option linter.unusedSimpArgs false
set_option linter.unusedVariables false
open Go.RowKit Go.Lib
namespace Abs
theorem qgi:∀ (f:Nat) (l:List UInt8) (k:Nat) (acc:List UInt8),l.length < f→∃ r,unqF f l k acc=some r
 | 0,l,k,acc,h=>by omega
 | f+1,[],k,acc,h=>⟨_,rfl⟩
 | f+1,c::r,k,acc,h=>by
  simp only[unqF]
  have hw:=decodeL_width (c::r)
  simp only[List.length_cons]at h
  split
  ·split <;> exact ⟨_,rfl⟩
  split
  ·split
   ·exact ⟨_,rfl⟩
   ·exact qgi f _ _ _ (by rw[List.length_drop,List.length_cons]; omega)
  split
  ·exact ⟨_,rfl⟩
  ·exact qgi f _ _ _ (by rw[List.length_drop,List.length_cons]; omega)
theorem qcb (l:List UInt8):∃ r,unqS l=some r:=by
 unfold unqS
 cases l with
 | nil=>exact ⟨_,rfl⟩
 | cons c r =>
  simp only
  split
  ·exact qgi _ _ _ _ (by simp)
  ·exact ⟨_,rfl⟩
theorem q9s:∀ (f:Nat) (l:List UInt8) (k:Nat) (acc:List UInt8) (b:List UInt8) (k':Nat),unqF f l k acc=some (b,k',0)→b.length≤4096∧k < k'∧k'≤k+l.length
 | 0,l,k,acc,b,k',h=>by cases h
 | f+1,[],k,acc,b,k',h=>by simp[unqF]at h
 | f+1,c::r,k,acc,b,k',h=>by
  simp only[unqF]at h
  have hw:=decodeL_width (c::r)
  have hle:=decodeL_le (c::r) (by simp)
  simp only[List.length_cons]at hle ⊢
  split at h
  ·split at h
   ·simp at h
   ·simp at h
    obtain ⟨rfl,rfl⟩:=h
    omega
  split at h
  ·split at h
   ·rename_i hne
    simp at h
    exact absurd h.2.2 hne
   ·rename_i he
    have hl:=qat ((c::r).drop 1)
    simp only[List.drop_succ_cons,List.drop_zero]at hl h he
    obtain ⟨h1,h2,h3⟩:=q9s f _ _ _ _ _ h
    rw[List.length_drop]at h3
    refine ⟨h1,by omega,?_⟩
    have:(escS r).2.1.toNat≤r.length:=by
     have:=hl
     omega
    omega
  split at h
  ·simp at h
  ·obtain ⟨h1,h2,h3⟩:=q9s f _ _ _ _ _ h
   rw[List.length_drop,List.length_cons]at h3
   exact ⟨h1,by omega,by omega⟩
theorem q9t {l b:List UInt8} {k:Nat} (h:unqS l=some (b,k,0)):b.length≤4096∧0 < k∧k≤l.length:=by
 unfold unqS at h
 cases l with
 | nil=>simp at h
 | cons c r =>
  simp only at h
  split at h
  ·obtain ⟨h1,h2,h3⟩:=q9s _ _ _ _ _ _ h
   exact ⟨h1,by omega,by rw[List.length_cons]; omega⟩
  ·simp at h
section
variable {s : ByteArray}
theorem qnw (hs:s.size≤1099511627776) (l:List UInt8) (h:l <:+ bL s):gQ3m s (ps s l)=some (encR s id (q1d l)):=by
 unfold gQ3m q1d
 rw[qc2 h,Option.bind_some]
 unfold qbi
 have hl:=q1x h
 rw[if_pos (by rw[q26]; omega),q4l]
 obtain ⟨⟨b,k,e⟩,hq⟩:=qcb l
 rw[hq]
 simp only[Option.map_some,Option.bind_some]
 by_cases he:e=0
 ·subst he
  obtain ⟨_,_,hk⟩:=q9t hq
  rw[decide_eq_true rfl,if_pos rfl,Bool.not_true,cond_false,q3d h (by omega) hk]
  rfl
 ·rw[decide_eq_false he,if_neg he]; rfl
theorem q9m {a t:List UInt8} (h:a++t <:+ bL s):sslc s (ps s (a++t)) (ps s t)=some (bS a):=by
 have h2:t <:+ bL s:=(List.suffix_append a t).trans h
 have hl:=q1x h
 rw[List.length_append]at hl
 rw[q7s h,q7s h2]
 unfold sslc
 rw[if_pos ⟨by omega,by rw[List.length_append]; omega,by omega⟩,Option.some.injEq,Int.toNat_natCast,Int.toNat_natCast]
 apply q6y
 rw[qad,q9p h,q4l]
 exact List.take_left' (by rw[List.length_append]; omega)
theorem q8m (c:UInt8):digB c=(decide (((c.toNat:Nat):Int) ≥ 48) && decide (((c.toNat:Nat):Int)≤57)):=by
 unfold digB
 by_cases h1:48≤c.toNat <;> by_cases h2:c.toNat≤57 <;> simp[h1,h2] <;> omega
theorem qik (hs:s.size≤281474976710656) (c:UInt8):∀ (t a:List UInt8),c::(a++t) <:+ bL s →
  qf (gQ3h s (ps s (c::(a++t)))) (ps s t)=some (encR s id (if (NumPlain.parseB (bS (c::(a++t.takeWhile digB)))).2=0 then .inr (.mk 2 (NumPlain.parseB (bS (c::(a++t.takeWhile digB)))).1 eS [] [],t.dropWhile digB) else .inl ((NumPlain.parseB (bS (c::(a++t.takeWhile digB)))).2,c::(a++t))))
 | t,a,h=>by
  have ht:t <:+ bL s:=(List.suffix_append a t).trans (q3r h)
  have hsl:sslc s (ps s (c::(a++t))) (ps s t)=some (bS (c::a)):=q9m (a:=c::a) (t:=t) h
  have hp:q31 (bS (c::a))=some (NumPlain.parseB (bS (c::a))):=by
   unfold q31
   refine q3y ?_
   have:=q1x h
   rw[q26]
   simp only[List.length_cons,List.length_append]at this ⊢
   omega
  have fin:∀ {x y:List UInt8},x=[]→y=t→some (α:=(Int⊕((Int×Int)⊕(Val×Int)))) (.inr (encR s id (if (NumPlain.parseB (bS (c::(a++x)))).2=0 then .inr (.mk 2 (NumPlain.parseB (bS (c::(a++x)))).1 eS [] [],y) else .inl ((NumPlain.parseB (bS (c::(a++x)))).2,c::(a++t))))) =
    (bif (!decide ((NumPlain.parseB (bS (c::a))).2=0)) then some (.inr (.inl ((NumPlain.parseB (bS (c::a))).2,ps s (c::(a++t))))) else (gQ45 (NumPlain.parseB (bS (c::a))).1).bind fun y9=>some (.inr (.inr (y9,ps s t)))):=by
   rintro x y rfl rfl
   rw[List.append_nil]
   by_cases he:(NumPlain.parseB (bS (c::a))).2=0
   ·rw[if_pos he,decide_eq_true he]; rfl
   ·rw[if_neg he,decide_eq_false he]; rfl
  cases t with
  | nil =>
   refine qs ?_
   unfold gQ3h
   rw[q52,cond_false,hsl,Option.bind_some,hp,Option.bind_some]
   exact (fin rfl rfl).symm
  | cons d t =>
   by_cases hd:digB d=true
   ·have hd2:=hd
    rw[q8m,Bool.and_eq_true]at hd2
    rw[q1v (s':=ps s t) (by
     unfold gQ3h
     rw[q2v ht,cond_true,q1k ht,Option.bind_some,hd2.1,cond_true,Option.bind_some,hd2.2,cond_true,q24 ht (by omega)])]
    have he:c::(a++d::t)=c::((a++[d])++t):=by simp
    rw[he]at h ⊢
    rw[qik hs c t (a++[d]) h]
    rw[List.takeWhile_cons_of_pos hd,List.dropWhile_cons_of_pos hd,List.append_assoc]
    rfl
   ·refine qs ?_
    have hd3:=hd
    rw[q8m,Bool.and_eq_true,not_and]at hd3
    have hx:(d::t).takeWhile digB=[]:=List.takeWhile_cons_of_neg hd
    have hy:(d::t).dropWhile digB=d::t:=List.dropWhile_cons_of_neg hd
    unfold gQ3h
    rw[q2v ht,cond_true,q1k ht,Option.bind_some]
    by_cases h1:decide (((d.toNat:Nat):Int) ≥ 48)=true
    ·rw[h1,cond_true,Option.bind_some,Bool.eq_false_iff.2 (hd3 h1),cond_false,hsl,Option.bind_some,hp,Option.bind_some]
     exact (fin hx hy).symm
    ·rw[Bool.eq_false_iff.2 h1,cond_false,hsl,Option.bind_some,hp,Option.bind_some]
     exact (fin hx hy).symm
theorem qtj (hs:s.size≤281474976710656) (c:UInt8) (r:List UInt8) (h:c::r <:+ bL s):gQ3g s (ps s (c::r))=some (encR s id (numS c r)):=by
 unfold gQ3g numS
 rw[q24 h (by omega)]
 exact qik hs c r [] h
theorem qux {l:List UInt8} (h:l <:+ bL s) (w:List UInt8):q7h (bS l) (bS w)=some (w.isPrefixOf l):=rfl
theorem qmc {w l:List UInt8} (h:w.isPrefixOf l=true):w.length≤l.length:=(List.isPrefixOf_iff_prefix.1 h).length_le
theorem qxb (hs:s.size≤281474976710656) (l:List UInt8) (h:l <:+ bL s):gQ3q s (ps s l)=some (encR s id (q20 l)):=by
 have e0:gQ4p (.mk 0 0 eS [] [])=some (bS [110,117,108,108]):=rfl
 have e1:gQ4p (.mk 1 1 eS [] [])=some (bS [116,114,117,101]):=rfl
 have e2:gQ4p (.mk 1 0 eS [] [])=some (bS [102,97,108,115,101]):=rfl
 have e3:gQ4p (.mk 6 0 eS [] [])=some (bS [40,117,110,107,110,111,119,110,41]):=rfl
 unfold gQ3q q20 gQ43 gQ3x gQ49
 simp only[cond_true,cond_false,Option.bind_some,e0,e1,e2,e3,qc2 h,qux h]
 have ad:∀ w:List UInt8,w.isPrefixOf l=true→IntKind.i64.wrap (ps s l+((bS w).size:Int))=ps s (l.drop w.length):=fun w hw=>by
  rw[q26]; exact q3d h (by omega) (qmc hw)
 by_cases h0:([110,117,108,108]:List UInt8).isPrefixOf l=true
 ·rw[if_pos h0,h0,cond_true,ad _ h0]; rfl
 rw[if_neg h0,Bool.eq_false_iff.2 h0,cond_false]
 by_cases h1:([116,114,117,101]:List UInt8).isPrefixOf l=true
 ·rw[if_pos h1,h1,cond_true,ad _ h1]; rfl
 rw[if_neg h1,Bool.eq_false_iff.2 h1,cond_false]
 by_cases h2:([102,97,108,115,101]:List UInt8).isPrefixOf l=true
 ·rw[if_pos h2,h2,cond_true,ad _ h2]; rfl
 rw[if_neg h2,Bool.eq_false_iff.2 h2,cond_false]
 by_cases h3:([40,117,110,107,110,111,119,110,41]:List UInt8).isPrefixOf l=true
 ·rw[if_pos h3,h3,cond_true,ad _ h3]; rfl
 rw[if_neg h3,Bool.eq_false_iff.2 h3,cond_false]
 rfl
end
end Abs
end Go.Proofs.YtpidpioifnnllaaGreatDoor
namespace Go.Proofs.YtpidpioifnnllaaGreatDoor
set_option linter.unusedSimpArgs false
set_option linter.unusedVariables false
open Go.RowKit Go.Lib
namespace Abs
set_option maxRecDepth 100000
theorem qrq:∀ c:Fin 256,gQ11 ((c.val:Nat):Int)=some (match hexV (UInt8.ofNat c.val) with | some d=>(d:Int) | none=>-1):=by decide +kernel
theorem qea (c:UInt8):gQ11 ((c.toNat:Nat):Int)=some (match hexV c with | some d=>(d:Int) | none=>-1):=by
 have:=qrq ⟨c.toNat,c.toNat_lt⟩
 simpa using this
noncomputable def q9e (s_:ByteArray) (i_:Int) (s1:Int×Int):Option ((Int×Int)⊕(Int×Int×Int)) :=
 bif (decide ((IntKind.i64.wrap (i_+s1.2)) ≥ (s_.size:Int))) then some (.inr (0,0,40)) else bif (decide (s1.2=0)) then some (.inr (0,0,2)) else (sidx s_ (IntKind.i64.wrap (i_+s1.2))).bind fun c10=>bif (!decide (c10=125)) then some (.inr (0,0,2)) else bif (decide (s1.2 > 1)) then (sidx s_ i_).bind fun c13=>bif (decide (c13=48)) then some (.inr (0,0,2)) else bif (decide (s1.1 > 1114111)) then some (.inr (0,0,2)) else bif (decide (s1.1 ≥ 55296)) then bif (decide (s1.1≤57343)) then some (.inr (0,0,2)) else some (.inr (s1.1,(IntKind.i64.wrap ((IntKind.i64.wrap (i_+s1.2))+1)),0)) else some (.inr (s1.1,(IntKind.i64.wrap ((IntKind.i64.wrap (i_+s1.2))+1)),0)) else bif (decide (s1.1 > 1114111)) then some (.inr (0,0,2)) else bif (decide (s1.1 ≥ 55296)) then bif (decide (s1.1≤57343)) then some (.inr (0,0,2)) else some (.inr (s1.1,(IntKind.i64.wrap ((IntKind.i64.wrap (i_+s1.2))+1)),0)) else some (.inr (s1.1,(IntKind.i64.wrap ((IntKind.i64.wrap (i_+s1.2))+1)),0))
theorem qbq (s_:ByteArray) (i_:Int) (s1:Int×Int):gQ14 s_ i_ s1=(bif (decide ((IntKind.i64.wrap (i_+s1.2)) < (s_.size:Int))) then bif (decide (s1.2 < 6)) then (sidx s_ (IntKind.i64.wrap (i_+s1.2))).bind fun c3=>(gQ11 c3).bind fun y4=>bif (decide (y4 ≥ 0)) then (sidx s_ (IntKind.i64.wrap (i_+s1.2))).bind fun c6=>(gQ11 c6).bind fun y7=>some (.inl ((IntKind.i64.wrap ((IntKind.i64.wrap (16*s1.1))+y7)),(IntKind.i64.wrap (s1.2+1)))) else q9e s_ i_ s1 else q9e s_ i_ s1 else q9e s_ i_ s1):=rfl
def ptR (s:ByteArray) (l:List UInt8) (r:Int×Int×Int):Int×Int×Int:=if r.2.2=0 then (r.1,ps s l+r.2.1,0) else (0,0,r.2.2)
section
variable {s : ByteArray} {l : List UInt8}
theorem qnp (hs:s.size≤999999) (hl:l <:+ bL s) (n k:Nat) (hk:k≤l.length) (hk6:k≤6):q9e s (ps s l) ((n:Int),(k:Int))=some (.inr (ptR s l (q2y l (n,k,l.drop k)))):=by
 have hlen:=q1x hl
 unfold q9e q2y
 simp only
 rw[q3d hl (by omega) hk]
 have hd:=qc8 hl k
 cases hx:l.drop k with
 | nil=>rw[qfp,decide_eq_true (show (s.size:Int) ≥ s.size from Int.le_refl _)]; rfl
 | cons c r =>
  rw[hx]at hd
  have hr:=q3r hd
  have hp:ps s (c::r) < s.size:=by unfold ps; simp only[List.length_cons]; omega
  rw[decide_eq_false (show ¬ ps s (c::r) ≥ (s.size:Int) by omega),cond_false,q1k hd,q24 hd (by omega)]
  have hpr:ps s r=ps s l+((k:Int)+1):=by
   have h1:=congrArg List.length hx
   rw[List.length_drop,List.length_cons]at h1
   unfold ps; omega
  show _=some (Sum.inr (ptR s l (if c≠125∨k=0∨(1 < k∧l.head?=some 48)∨Lib.validRune (n:Int)=false then (0,0,2) else ((n:Int),(k:Int)+1,0))))
  by_cases h0:k=0
  ·subst h0
   rw[decide_eq_true (show ((0:Nat):Int)=0 from rfl),cond_true,if_pos (Or.inr (Or.inl rfl))]; rfl
  rw[decide_eq_false (show ¬ (k:Int)=0 by omega),cond_false,Option.bind_some,show decide (((c.toNat:Nat):Int)=125)=decide (c=125) from qx c 125]
  by_cases hc:c=125
  ·rw[decide_eq_true hc,Bool.not_true,cond_false]
   have vr:∀ x:Option ((Int×Int)⊕(Int×Int×Int)),(bif (decide ((n:Int) > 1114111)) then some (.inr (0,0,2)) else bif (decide ((n:Int) ≥ 55296)) then bif (decide ((n:Int)≤57343)) then some (.inr (0,0,2)) else x else x)=if Lib.validRune (n:Int)=false then some (.inr (0,0,2)) else x:=fun x=>by
    unfold Lib.validRune
    by_cases a1:(n:Int) > 1114111
    ·rw[decide_eq_true a1,cond_true,if_pos (decide_eq_false (by omega))]
    ·rw[decide_eq_false a1,cond_false]
     by_cases a2:(n:Int) ≥ 55296
     ·rw[decide_eq_true a2,cond_true]
      by_cases a3:(n:Int)≤57343
      ·rw[decide_eq_true a3,cond_true,if_pos (decide_eq_false (by omega))]
      ·rw[decide_eq_false a3,cond_false,if_neg (by rw[decide_eq_true (by omega)]; decide)]
     ·rw[decide_eq_false a2,cond_false,if_neg (by rw[decide_eq_true (by omega)]; decide)]
   have fin:(if Lib.validRune (n:Int)=false then some (.inr (0,0,2)) else some (.inr ((n:Int),ps s r,0)):Option ((Int×Int)⊕(Int×Int×Int)))=some (.inr (ptR s l (if Lib.validRune (n:Int)=false then (0,0,2) else ((n:Int),(k:Int)+1,0)))):=by
    by_cases hv:Lib.validRune (n:Int)=false
    ·rw[if_pos hv,if_pos hv]; rfl
    ·rw[if_neg hv,if_neg hv,hpr]; rfl
   rw[vr,fin]
   have same:∀ p:Prop,[Decidable p]→(p ↔ Lib.validRune (n:Int)=false)→(some (.inr (ptR s l (if Lib.validRune (n:Int)=false then (0,0,2) else ((n:Int),(k:Int)+1,0)))):Option ((Int×Int)⊕(Int×Int×Int)))=some (.inr (ptR s l (if p then (0,0,2) else ((n:Int),(k:Int)+1,0)))):=fun p _ hp=>by
    by_cases q:p
    ·rw[if_pos q,if_pos (hp.1 q)]
    ·rw[if_neg q,if_neg (fun z=>q (hp.2 z))]
   by_cases h1:1 < k
   ·rw[decide_eq_true (show (k:Int) > 1 by omega),cond_true]
    obtain ⟨a,t,hl2⟩:∃ a t,l=a::t:=by
     cases l with
     | nil=>simp at hk; omega
     | cons a t=>exact ⟨a,t,rfl⟩
    have hsx:sidx s (ps s l)=some ((a.toNat:Nat):Int):=by rw[hl2]at hl ⊢; exact q1k hl
    have hh:l.head?=some a:=by rw[hl2]; rfl
    rw[hsx,Option.bind_some,show decide (((a.toNat:Nat):Int)=48)=decide (a=48) from qx a 48]
    by_cases ha:a=48
    ·rw[decide_eq_true ha,cond_true,if_pos (Or.inr (Or.inr (Or.inl ⟨h1,by rw[hh,ha]⟩)))]; rfl
    ·rw[decide_eq_false ha,cond_false]
     refine same _ ⟨fun q=>?_,fun q=>.inr (.inr (.inr q))⟩
     rcases q with q | q | ⟨_,q⟩ | q
     ·exact absurd hc q
     ·exact absurd q h0
     ·rw[hh]at q; exact absurd (Option.some.inj q) ha
     ·exact q
   ·rw[decide_eq_false (show ¬ (k:Int) > 1 by omega),cond_false]
    refine same _ ⟨fun q=>?_,fun q=>.inr (.inr (.inr q))⟩
    rcases q with q | q | ⟨q,_⟩ | q
    ·exact absurd hc q
    ·exact absurd q h0
    ·exact absurd q h1
    ·exact q
  ·rw[decide_eq_false hc,Bool.not_false,cond_true,if_pos (Or.inl hc)]; rfl
theorem qma (hs:s.size≤999999) (hl:l <:+ bL s):∀ (f n k:Nat),k+f=6→k≤l.length→n < 16 ^ k→qf (gQ14 s (ps s l)) ((n:Int),(k:Int))=some (ptR s l (q2y l (q1m f (l.drop k) n k)))
 | 0,n,k,hf,hk,hn=>by
  refine qs ?_
  rw[qbq,qnp hs hl n k hk (by omega)]
  simp only
  rw[decide_eq_false (show ¬ (k:Int) < 6 by omega),cond_false]
  cases decide (IntKind.i64.wrap (ps s l+(k:Int)) < (s.size:Int)) <;> rfl
 | f+1,n,k,hf,hk,hn=>by
  have hlen:=q1x hl
  have hd:=qc8 hl k
  have ht:=qnp hs hl n k hk (by omega)
  cases hx:l.drop k with
  | nil =>
   refine qs ?_
   rw[qbq,ht,hx]
   simp only
   rw[q3d hl (by omega) hk,hx,q52,cond_false]
   rfl
  | cons c r =>
   rw[hx]at hd
   have hkl:k < l.length:=by
    rcases Nat.lt_or_ge k l.length with q | q
    ·exact q
    ·rw[List.drop_eq_nil_of_le q]at hx; cases hx
   have hdr:l.drop (k+1)=r:=by rw[← List.drop_drop,hx]; rfl
   unfold q1m
   cases hv:hexV c with
   | none =>
    refine qs ?_
    rw[qbq,ht]
    simp only
    rw[q3d hl (by omega) hk,hx,q2v hd,cond_true,decide_eq_true (show (k:Int) < 6 by omega),cond_true,q1k hd,Option.bind_some,qea,hv]
    rfl
   | some d =>
    have hd16:=qe8 hv
    have hp:n < 16 ^ 5:=Nat.lt_of_lt_of_le hn (Nat.pow_le_pow_right (by decide) (by omega))
    have hp2:16*n+d < 16 ^ (k+1):=by rw[Nat.pow_succ]; omega
    rw[q1v (s':=(((16*n+d:Nat):Int),((k+1:Nat):Int))) (by
     rw[qbq]
     simp only
     rw[q3d hl (by omega) hk,hx,q2v hd,cond_true,decide_eq_true (show (k:Int) < 6 by omega),cond_true,q1k hd,Option.bind_some,qea,hv]
     simp only[Option.bind_some]
     rw[decide_eq_true (show (d:Int) ≥ 0 by omega),cond_true,qea,hv]
     simp only[Option.bind_some]
     rw[q13 (n:=16*(n:Int)) (by omega) (by omega),q13 (by omega) (by omega),q13 (by omega) (by omega)]
     congr 3)]
    rw[qma hs hl f (16*n+d) (k+1) (by omega) hkl hp2,hdr]
theorem pointR (hs:s.size≤999999) (hl:l <:+ bL s):gQ13 s (ps s l)=some (ptR s l (hexS l)):=by
 have:=qma hs hl 6 0 0 rfl (Nat.zero_le _) (by decide)
 rw[List.drop_zero]at this
 exact this
end
theorem or192:∀ x:Fin 32,(BitVec.ofInt 64 192 ||| BitVec.ofInt 64 ((x.val:Nat):Int)).toNat=192+x.val:=by decide +kernel
theorem or224:∀ x:Fin 16,(BitVec.ofInt 64 224 ||| BitVec.ofInt 64 ((x.val:Nat):Int)).toNat=224+x.val:=by decide +kernel
theorem or240:∀ x:Fin 8,(BitVec.ofInt 64 240 ||| BitVec.ofInt 64 ((x.val:Nat):Int)).toNat=240+x.val:=by decide +kernel
theorem or128:∀ x:Fin 64,(BitVec.ofInt 64 128 ||| BitVec.ofInt 64 ((x.val:Nat):Int)).toNat=128+x.val:=by decide +kernel
theorem and63 (x:Nat) (h:x < 2 ^ 63):(BitVec.ofInt 64 ((x:Nat):Int) &&& BitVec.ofInt 64 63).toNat=x % 64:=by
 rw[BitVec.toNat_and,BitVec.ofInt_natCast,BitVec.toNat_ofNat,Nat.mod_eq_of_lt (by omega)]
 exact Nat.and_two_pow_sub_one_eq_mod x 6
theorem wrap8 (x:Nat) (h:x < 256):IntKind.u8.wrap (IntKind.i64.wrap ((x:Nat):Int))=(x:Int):=by
 rw[q13 (by omega) (by omega),IntKind.wrap_u8]; omega
theorem byte2 (a x:Nat) (h:a+x < 256) (e:(BitVec.ofInt 64 (a:Int) ||| BitVec.ofInt 64 (x:Int)).toNat=a+x):IntKind.u8.wrap (IntKind.i64.wrap ((BitVec.ofInt IntKind.i64.bits (a:Int) ||| BitVec.ofInt IntKind.i64.bits (x:Int)).toNat:Int))=((a+x:Nat):Int):=by
 show IntKind.u8.wrap (IntKind.i64.wrap ((BitVec.ofInt 64 (a:Int) ||| BitVec.ofInt 64 (x:Int)).toNat:Int))=_
 rw[e]; exact wrap8 _ h
theorem low6 (x:Nat) (h:x < 2 ^ 62):IntKind.i64.wrap ((BitVec.ofInt IntKind.i64.bits (x:Int) &&& BitVec.ofInt IntKind.i64.bits 63).toNat:Int)=((x % 64:Nat):Int):=by
 show IntKind.i64.wrap ((BitVec.ofInt 64 (x:Int) &&& BitVec.ofInt 64 63).toNat:Int)=_
 rw[and63 x (by omega),q13 (by omega) (by omega)]
theorem shr6 (x:Nat):Int.fdiv (x:Int) (2 ^ (min (6:Int).toNat IntKind.i64.bits))=((x / 64:Nat):Int):=by
 show Int.fdiv (x:Int) 64=_
 rw[Int.fdiv_eq_ediv_of_nonneg _ (by decide)]; omega
theorem shr12 (x:Nat):Int.fdiv (x:Int) (2 ^ (min (12:Int).toNat IntKind.i64.bits))=((x / 4096:Nat):Int):=by
 show Int.fdiv (x:Int) 4096=_
 rw[Int.fdiv_eq_ediv_of_nonneg _ (by decide)]; omega
theorem shr18 (x:Nat):Int.fdiv (x:Int) (2 ^ (min (18:Int).toNat IntKind.i64.bits))=((x / 262144:Nat):Int):=by
 show Int.fdiv (x:Int) 262144=_
 rw[Int.fdiv_eq_ediv_of_nonneg _ (by decide)]; omega
theorem qaj (xs:List Int) (h:∀ x ∈ xs,0≤x∧x < 256):bstr xs=some (bS (xs.map fun x=>x.toNat.toUInt8)):=by
 unfold bstr; rw[if_pos h]; rfl
theorem qar (r:Int) (xs:List Int) (h:xs=encodeRuneZ r):bS (xs.map fun x=>x.toNat.toUInt8)=bS (encodeRune r):=by rw[h]; rfl
theorem qqq (n:Nat) (h:Lib.validRune (n:Int)=true):gQ0l (n:Int)=some (bS (encodeRune (n:Int))):=by
 unfold Lib.validRune at h
 have hv:=of_decide_eq_true h
 unfold gQ0l
 by_cases h1:(n:Int) < 128
 ·rw[decide_eq_true h1,cond_true]
  have e:IntKind.u8.wrap (n:Int)=(n:Int):=by rw[IntKind.wrap_u8]; omega
  rw[e,qaj _ (by simp; omega),Option.bind_some,qar n _ (by rw[encodeRuneZ_one (by omega) (by omega)])]
 rw[decide_eq_false h1,cond_false]
 have b1:∀ x:Nat,x < 64→IntKind.u8.wrap (IntKind.i64.wrap ((BitVec.ofInt IntKind.i64.bits 128 ||| BitVec.ofInt IntKind.i64.bits (x:Int)).toNat:Int))=((128+x:Nat):Int):=fun x hx=>byte2 128 x (by omega) (or128 ⟨x,hx⟩)
 by_cases h2:(n:Int) < 2048
 ·rw[decide_eq_true h2,cond_true,shr6,low6 n (by omega)]
  rw[show IntKind.u8.wrap (IntKind.i64.wrap ((BitVec.ofInt IntKind.i64.bits 192 ||| BitVec.ofInt IntKind.i64.bits ((n / 64:Nat):Int)).toNat:Int))=((192+n / 64:Nat):Int) from byte2 192 _ (by omega) (or192 ⟨n / 64,by omega⟩),b1 _ (by omega)]
  rw[qaj _ (by simp; omega),Option.bind_some,qar n _ (by rw[encodeRuneZ_two (by omega) (by omega)]; simp)]
 rw[decide_eq_false h2,cond_false]
 by_cases h3:(n:Int) < 65536
 ·rw[decide_eq_true h3,cond_true,shr6,shr12,low6 n (by omega),low6 (n / 64) (by omega)]
  rw[show IntKind.u8.wrap (IntKind.i64.wrap ((BitVec.ofInt IntKind.i64.bits 224 ||| BitVec.ofInt IntKind.i64.bits ((n / 4096:Nat):Int)).toNat:Int))=((224+n / 4096:Nat):Int) from byte2 224 _ (by omega) (or224 ⟨n / 4096,by omega⟩),b1 _ (by omega),b1 _ (by omega)]
  rw[qaj _ (by simp; omega),Option.bind_some,qar n _ (by rw[encodeRuneZ_three (by omega)]; simp)]
 rw[decide_eq_false h3,cond_false,shr6,shr12,shr18,low6 n (by omega),low6 (n / 64) (by omega),low6 (n / 4096) (by omega)]
 rw[show IntKind.u8.wrap (IntKind.i64.wrap ((BitVec.ofInt IntKind.i64.bits 240 ||| BitVec.ofInt IntKind.i64.bits ((n / 262144:Nat):Int)).toNat:Int))=((240+n / 262144:Nat):Int) from byte2 240 _ (by omega) (or240 ⟨n / 262144,by omega⟩),b1 _ (by omega),b1 _ (by omega),b1 _ (by omega)]
 rw[qaj _ (by simp; omega),Option.bind_some,qar n _ (by rw[encodeRuneZ_four (by omega) (by omega)]; simp)]
end Abs
end Go.Proofs.YtpidpioifnnllaaGreatDoor
namespace Go.Proofs.YtpidpioifnnllaaGreatDoor
set_option linter.unusedSimpArgs false
set_option linter.unusedVariables false
open Go.RowKit Go.Lib
namespace Abs
def RP {α:Type} (P:α→Prop) (l:List UInt8):PR α→Prop
 | .inl p=>p.2 <:+ l
 | .inr y=>P y.1∧y.2 <:+ l
theorem RP.trans {α:Type} {P:α→Prop} {l l':List UInt8} {x:PR α} (h:RP P l' x) (h2:l' <:+ l):RP P l x:=by
 cases x with
 | inl p=>exact List.IsSuffix.trans h h2
 | inr y=>exact ⟨h.1,h.2.trans h2⟩
theorem q7k (e:UInt8) (l:List UInt8):RP (fun _=>True) l (q18 e l):=by
 have hb:=q1j l
 unfold q18
 cases h:qc l with
 | nil=>exact List.nil_suffix
 | cons c r =>
  rw[h]at hb
  simp only
  split
  ·exact ⟨trivial,(List.suffix_cons c r).trans hb⟩
  split
  ·exact ⟨trivial,(List.suffix_cons c r).trans hb⟩
  ·exact hb
theorem q7j {e:UInt8} {l l2:List UInt8} {b:Bool} (h:q18 e l=.inr (b,l2)):l2.length < l.length:=by
 have hb:=(q1j l).length_le
 unfold q18 at h
 cases hl:qc l with
 | nil=>rw[hl]at h; cases h
 | cons c r =>
  rw[hl]at h hb
  simp only at h
  rw[List.length_cons]at hb
  split at h
  ·cases h; omega
  split at h
  ·cases h; omega
  ·cases h
theorem qgc (l:List UInt8):RP (fun b:ByteArray=>b.size≤4096) l (q1d l):=by
 unfold q1d
 obtain ⟨⟨b,k,e⟩,hq⟩:=qcb l
 rw[hq]
 simp only
 split
 ·rename_i he
  subst he
  obtain ⟨h1,_,_⟩:=q9t hq
  exact ⟨show (bS b).size≤4096 by rw[q26]; exact h1,List.drop_suffix _ _⟩
 ·exact List.suffix_refl _
theorem vfits {k n:Int} {s:ByteArray} (hk:-100≤k∧k≤100) (hn:-9223372036854775808≤n∧n≤9223372036854775807) (hs:s.size≤140737488351232):(Val.mk k n s [] []).Fits :=
 .mk (by omega) hn hs (by simp) (by simp) (fun _ h=>absurd h List.not_mem_nil) (fun _ h=>absurd h List.not_mem_nil)
theorem q48:eS.size≤140737488351232:=by decide
theorem qfj (s:ByteArray):-9223372036854775808≤(NumPlain.parseB s).1∧(NumPlain.parseB s).1≤9223372036854775807:=by
 unfold NumPlain.parseB NumPlain.parse
 split
 ·rcases NumPlain.right_cases (NumPlain.sval s.data.toList) with ⟨h,hv⟩ | h
  ·rw[h]; have:=(NumPlain.validB_iff _).1 hv; constructor <;> simp only <;> omega
  ·rw[h]; decide
 ·decide
theorem qtg (c:UInt8) (r:List UInt8):RP Val.Fits (c::r) (numS c r):=by
 unfold numS
 split
 ·exact ⟨vfits (by decide) (qfj _) q48,(List.dropWhile_suffix _).trans (List.suffix_cons c r)⟩
 ·exact List.suffix_refl _
theorem qx9 (l:List UInt8):RP Val.Fits l (q20 l):=by
 unfold q20
 repeat' split
 ·exact ⟨vfits (by decide) (by decide) q48,List.drop_suffix _ _⟩
 ·exact ⟨vfits (by decide) (by decide) q48,List.drop_suffix _ _⟩
 ·exact ⟨vfits (by decide) (by decide) q48,List.drop_suffix _ _⟩
 ·exact ⟨vfits (by decide) (by decide) q48,List.drop_suffix _ _⟩
 ·exact List.suffix_refl _
theorem qej (ks:List ByteArray) (l:List UInt8):RP (fun k:ByteArray=>k.size≤4096∧hasK ks k=false) l (keyS ks l):=by
 have hb:=q1j l
 unfold keyS
 cases h:qc l with
 | nil=>exact List.nil_suffix
 | cons c r =>
  rw[h]at hb
  simp only
  split
  ·have ht:=(qgc (c::r)).trans hb
   cases hx:q1d (c::r) with
   | inl p=>rw[hx]at ht; exact ht
   | inr y =>
    obtain ⟨k,l1⟩:=y
    rw[hx]at ht
    obtain ⟨h1,h2⟩:=ht
    simp only at h1 h2 ⊢
    split
    ·exact hb
    ·rename_i hk
     have hb1:=(q1j l1).trans h2
     cases h3:qc l1 with
     | nil=>exact List.nil_suffix
     | cons c2 r2 =>
      rw[h3]at hb1
      simp only
      split
      ·exact ⟨⟨h1,Bool.eq_false_iff.2 hk⟩,(List.suffix_cons c2 r2).trans hb1⟩
      ·exact hb1
  ·exact hb
def Lg (l:List UInt8):Prop:=l.length≤99999
theorem vlist {l:List Val} (hl:l.length≤100000) (h:∀ x ∈ l,x.Fits):(Val.mk 4 0 eS l []).Fits :=
 .mk (by decide) (by decide) q48 (by omega) (by simp) (fun _ h=>absurd h List.not_mem_nil) h
theorem qkw {rec:List UInt8→PR Val} (hr:∀ l,Lg l→RP Val.Fits l (rec l)):∀ (f:Nat) (l:List UInt8) (acc:List Val),acc.length+l.length≤99999→(∀ x ∈ acc,x.Fits)→RP Val.Fits l (q1r rec f l acc)
 | 0,l,acc,_,_=>List.suffix_refl _
 | f+1,l,acc,hn,ha=>by
  unfold q1r
  have h1:=hr l (by unfold Lg; omega)
  cases hx:rec l with
  | inl p=>rw[hx]at h1; exact h1
  | inr y =>
   obtain ⟨v,l1⟩:=y
   rw[hx]at h1
   obtain ⟨hv,hl1⟩:=h1
   have h2:=q7k 93 l1
   simp only at hv hl1 ⊢
   cases hy:q18 93 l1 with
   | inl p=>rw[hy]at h2; exact List.IsSuffix.trans h2 hl1
   | inr z =>
    obtain ⟨b,l2⟩:=z
    have hlt:=q7j hy
    have hle:=hl1.length_le
    rw[hy]at h2
    have ha':∀ x ∈ acc++[v],x.Fits:=fun x hx=>by
     rcases List.mem_append.1 hx with h | h
     ·exact ha x h
     ·rw[List.mem_singleton.1 h]; exact hv
    cases b with
    | true=>exact (qkw hr f l2 (acc++[v]) (by rw[List.length_append,List.length_singleton]; omega) ha').trans (h2.2.trans hl1)
    | false=>exact ⟨vlist (by rw[List.length_append,List.length_singleton]; omega) ha',h2.2.trans hl1⟩
structure FinOk (fin:List ByteArray→List Val→Val):Prop where
 fits:∀ ks vs,ks.length=vs.length→ks.length≤100000→ks.Nodup→(∀ k ∈ ks,k.size≤4096)→(∀ x ∈ vs,x.Fits)→(fin ks vs).Fits
 map:∀ ks vs,ks.length=vs.length→ks.length≤100000→ks.Nodup→(∀ k ∈ ks,k.size≤4096)→(∀ x ∈ vs,x.Fits)→∃ e,gQ3z ks vs=some (fin ks vs,e)
theorem q8x {ks:List ByteArray} {k:ByteArray}:hasK ks k=true ↔ k ∈ ks:=by
 unfold hasK
 rw[List.any_eq_true]
 constructor
 ·rintro ⟨x,h1,h2⟩; rw[← of_decide_eq_true h2]; exact h1
 ·exact fun h=>⟨k,h,decide_eq_true rfl⟩
structure KV (ks:List ByteArray) (vs:List Val):Prop where
 len:ks.length=vs.length
 nodup:ks.Nodup
 keys:∀ k ∈ ks,k.size≤4096
 vals:∀ x ∈ vs,x.Fits
theorem KV.snoc {ks:List ByteArray} {vs:List Val} (h:KV ks vs) {k:ByteArray} {v:Val} (h1:k.size≤4096) (h2:hasK ks k=false) (h3:v.Fits):KV (ks++[k]) (vs++[v]):=by
 refine ⟨by simp[h.len],?_,fun x hx=>?_,fun x hx=>?_⟩
 ·refine List.nodup_append.2 ⟨h.nodup,by simp,fun a ha b hb=>?_⟩
  rw[List.mem_singleton.1 hb]
  rintro rfl
  rw[q8x.2 ha]at h2; cases h2
 ·rcases List.mem_append.1 hx with q | q
  ·exact h.keys x q
  ·rw[List.mem_singleton.1 q]; exact h1
 ·rcases List.mem_append.1 hx with q | q
  ·exact h.vals x q
  ·rw[List.mem_singleton.1 q]; exact h3
theorem ql6 {rec:List UInt8→PR Val} {fin:List ByteArray→List Val→Val} (hf:FinOk fin) (hr:∀ l,Lg l→RP Val.Fits l (rec l)):∀ (f:Nat) (l:List UInt8) (ks:List ByteArray) (vs:List Val),ks.length+l.length≤99999→KV ks vs→RP Val.Fits l (mapF rec fin f l ks vs)
 | 0,l,ks,vs,_,_=>List.suffix_refl _
 | f+1,l,ks,vs,hn,ha=>by
  unfold mapF
  have h0:=qej ks l
  cases hk:keyS ks l with
  | inl p=>rw[hk]at h0; exact h0
  | inr y =>
   obtain ⟨k,l0⟩:=y
   rw[hk]at h0
   obtain ⟨⟨hk1,hk2⟩,hl0⟩:=h0
   simp only at hk1 hk2 hl0 ⊢
   have h1:=hr l0 (by have:=hl0.length_le; unfold Lg; omega)
   cases hx:rec l0 with
   | inl p=>rw[hx]at h1; exact List.IsSuffix.trans h1 hl0
   | inr y =>
    obtain ⟨v,l1⟩:=y
    rw[hx]at h1
    obtain ⟨hv,hl1⟩:=h1
    have h2:=q7k 125 l1
    simp only at hv hl1 ⊢
    cases hy:q18 125 l1 with
    | inl p=>rw[hy]at h2; exact List.IsSuffix.trans h2 (hl1.trans hl0)
    | inr z =>
     obtain ⟨b,l2⟩:=z
     have hlt:=q7j hy
     have hle:=(hl1.trans hl0).length_le
     rw[hy]at h2
     have ha':=ha.snoc hk1 hk2 hv
     cases b with
     | true=>exact (ql6 hf hr f l2 _ _ (by rw[List.length_append,List.length_singleton]; omega) ha').trans (h2.2.trans (hl1.trans hl0))
     | false=>exact ⟨hf.fits _ _ ha'.len (by rw[List.length_append,List.length_singleton]; omega) ha'.nodup ha'.keys ha'.vals,h2.2.trans (hl1.trans hl0)⟩
theorem KV.nil:KV [] []:=⟨rfl,List.nodup_nil,fun _ h=>absurd h List.not_mem_nil,fun _ h=>absurd h List.not_mem_nil⟩
theorem q9u {fin:List ByteArray→List Val→Val} (hf:FinOk fin):∀ (d:Nat) (l:List UInt8),Lg l→RP Val.Fits l (qg fin d l):=by
 have simple:∀ (l:List UInt8) (c:UInt8) (r:List UInt8),c::r <:+ l→RP Val.Fits l (if c=34 then (match q1d (c::r) with | .inl p=>.inl p | .inr (t,l1)=>.inr (.mk 3 0 t [] [],l1)) else if c=45∨digB c=true then numS c r else q20 (c::r)):=fun l c r hs=>by
  split
  ·have ht:=(qgc (c::r)).trans hs
   cases hx:q1d (c::r) with
   | inl p=>rw[hx]at ht; exact ht
   | inr y =>
    rw[hx]at ht
    exact ⟨vfits (by decide) (by decide) (by have:=ht.1; omega),ht.2⟩
  split
  ·exact (qtg c r).trans hs
  ·exact (qx9 (c::r)).trans hs
 intro d
 induction d with
 | zero =>
  intro l hl
  have hb:=q1j l
  unfold qg
  cases h:qc l with
  | nil=>exact List.nil_suffix
  | cons c r =>
   rw[h]at hb
   simp only
   split
   ·exact hb
   ·exact simple l c r hb
 | succ d ih =>
  intro l hl
  have hb:=q1j l
  unfold qg
  cases h:qc l with
  | nil=>exact List.nil_suffix
  | cons c r =>
   rw[h]at hb
   have hr:r <:+ l:=(List.suffix_cons c r).trans hb
   have hrl:=hr.length_le
   have hbl:=(q1j r).length_le
   unfold Lg at hl
   simp only
   split
   ·refine RP.trans (l':=r) ?_ hr
    unfold q3c
    have hb2:=q1j r
    cases h2:qc r with
    | nil=>exact List.nil_suffix
    | cons c2 r2 =>
     rw[h2]at hb2 hbl
     simp only
     split
     ·exact ⟨vlist (by simp) (fun _ h=>absurd h List.not_mem_nil),(List.suffix_cons c2 r2).trans hb2⟩
     ·exact (qkw ih _ _ _ (by rw[List.length_nil]; omega) (fun _ h=>absurd h List.not_mem_nil)).trans hb2
   split
   ·refine RP.trans (l':=r) ?_ hr
    unfold mapS
    have hb2:=q1j r
    cases h2:qc r with
    | nil=>exact List.nil_suffix
    | cons c2 r2 =>
     rw[h2]at hb2 hbl
     simp only
     split
     ·exact ⟨vfits (by decide) (by decide) q48,(List.suffix_cons c2 r2).trans hb2⟩
     ·exact (ql6 hf ih _ _ _ _ (by rw[List.length_nil]; omega) KV.nil).trans hb2
   ·exact simple l c r hb
end Abs
end Go.Proofs.YtpidpioifnnllaaGreatDoor
namespace Go.Proofs.YtpidpioifnnllaaGreatDoor
set_option linter.unusedSimpArgs false
set_option linter.unusedVariables false
open Go.RowKit Go.Lib
namespace Abs
set_option maxRecDepth 100000
def UqR (s:ByteArray) (b l:List UInt8) (e:Int) (r:ByteArray×Int×Int):Prop:=r.2.2=e∧(e=0→r=(bS b,ps s l,0))
section
variable {s : ByteArray} {l : List UInt8}
theorem qnk {c:UInt8} {r:List UInt8} (h:c::r <:+ bL s):sslc s (ps s (c::r)) (ps s r)=some (bS [c]):=q9m (a:=[c]) (t:=r) h
theorem qmd {r:List UInt8} (h:r <:+ bL s):decide (ps s r ≥ (s.size:Int))=decide (r=[]):=by
 have:=q1x h
 cases r with
 | nil=>rw[qfp,decide_eq_true (Int.le_refl _)]; rfl
 | cons c t=>rw[decide_eq_false (by unfold ps; simp only[List.length_cons]at this ⊢; omega)]; simp
theorem qqz (hs:s.size≤999999) (hl:(92:UInt8)::l <:+ bL s):∃ r,gQ0n s (ps s (92::l))=some r∧UqR s (encodeRune (escS l).1) (l.drop (escS l).2.1.toNat) (escS l).2.2 r:=by
 have h1:=q3r hl
 have hlen:=q1x hl
 simp only[List.length_cons]at hlen
 have e2:IntKind.i64.wrap (ps s (92::l)+2)=ps s (l.drop 1)∨l=[]:=by
  cases l with
  | nil=>exact .inr rfl
  | cons c t=>exact .inl (q3d hl (by omega) (n:=2) (by simp))
 unfold gQ0n
 rw[q24 hl (by omega),qmd h1]
 cases l with
 | nil=>exact ⟨_,rfl,rfl,fun h=>by simp[escS]at h⟩
 | cons c t =>
  have e2:=e2.resolve_right (by simp)
  rw[show (c::t).drop 1=t from rfl]at e2
  have ht:=q3r h1
  rw[decide_eq_false (by simp),cond_false,q1k h1,Option.bind_some,e2,q5d]
  have ue:=fun d:UInt8=>qx c d
  rw[show decide (((c.toNat:Nat):Int)=110)=decide (c=110) from ue 110,show decide (((c.toNat:Nat):Int)=114)=decide (c=114) from ue 114,show decide (((c.toNat:Nat):Int)=116)=decide (c=116) from ue 116,show decide (((c.toNat:Nat):Int)=34)=decide (c=34) from ue 34,show decide (((c.toNat:Nat):Int)=92)=decide (c=92) from ue 92,show decide (((c.toNat:Nat):Int)=117)=decide (c=117) from ue 117]
  by_cases c1:c=110
  ·rw[decide_eq_true c1,cond_true,if_pos c1]
   exact ⟨_,rfl,rfl,fun _=>rfl⟩
  rw[decide_eq_false c1,cond_false,if_neg c1]
  by_cases c2:c=114
  ·rw[decide_eq_true c2,cond_true,if_pos c2]
   exact ⟨_,rfl,rfl,fun _=>rfl⟩
  rw[decide_eq_false c2,cond_false,if_neg c2]
  by_cases c3:c=116
  ·rw[decide_eq_true c3,cond_true,if_pos c3]
   exact ⟨_,rfl,rfl,fun _=>rfl⟩
  rw[decide_eq_false c3,cond_false,if_neg c3]
  by_cases c4:c=34
  ·rw[decide_eq_true c4,cond_true,if_pos c4,qnk h1]
   subst c4
   exact ⟨_,rfl,rfl,fun _=>rfl⟩
  rw[decide_eq_false c4,cond_false,if_neg c4]
  by_cases c5:c=92
  ·rw[decide_eq_true c5,cond_true,if_pos c5,qnk h1]
   subst c5
   exact ⟨_,rfl,rfl,fun _=>rfl⟩
  rw[decide_eq_false c5,cond_false,if_neg c5]
  by_cases c6:c=117
  ·rw[decide_eq_true c6,cond_true,if_pos c6,qmd ht]
   cases t with
   | nil=>exact ⟨_,rfl,rfl,fun h=>by simp at h⟩
   | cons d t2 =>
    rw[decide_eq_false (by simp),cond_false,q1k ht,Option.bind_some,show decide (((d.toNat:Nat):Int)=123)=decide (d=123) from qx d 123]
    have ht2:=q3r ht
    have e3:IntKind.i64.wrap (ps s (92::c::d::t2)+3)=ps s t2:=q3d hl (by omega) (n:=3) (by simp)
    by_cases c7:d=123
    ·rw[decide_eq_true c7,Bool.not_true,cond_false,e3,pointR hs ht2,Option.bind_some]
     simp only
     rw[if_pos c7]
     by_cases he:(hexS t2).2.2=0
     ·have hr:=qjs t2 he
      have hlen2:=qe6 t2
      have e0:(ptR s t2 (hexS t2))=((hexS t2).1,ps s t2+(hexS t2).2.1,0):=if_pos he
      have hn:0≤(hexS t2).1:=by
       have:=hr.1
       unfold Lib.validRune at this
       have:=of_decide_eq_true this
       omega
      obtain ⟨n,hn⟩:=Int.eq_ofNat_of_zero_le hn
      rw[e0]
      simp only
      rw[decide_true,Bool.not_true,cond_false,hn,qqq n (by rw[← hn]; exact hr.1),Option.bind_some]
      refine ⟨_,rfl,he.symm,fun _=>?_⟩
      rw[show ((hexS t2).2.1+2).toNat=(hexS t2).2.1.toNat+2 by omega,List.drop_succ_cons,List.drop_succ_cons]
      have hsf:=q1x ht2
      rw[show ps s t2+(hexS t2).2.1=ps s (t2.drop (hexS t2).2.1.toNat) by unfold ps; rw[List.length_drop]; omega]
     ·have e0:(ptR s t2 (hexS t2))=(0,0,(hexS t2).2.2):=if_neg he
      rw[e0]
      simp only
      rw[decide_eq_false he,Bool.not_false,cond_true]
      exact ⟨_,rfl,rfl,fun h=>absurd h he⟩
    ·rw[decide_eq_false c7,Bool.not_false,cond_true]
     simp only
     rw[if_neg c7]
     exact ⟨_,rfl,rfl,fun h=>absurd h (by decide)⟩
  ·rw[decide_eq_false c6,cond_false,if_neg c6]
   exact ⟨_,rfl,rfl,fun h=>absurd h (by decide)⟩
theorem qan (c:UInt8) (r:List UInt8):(c.toNat < 128→decodeL (c::r)=(c.toNat,1))∧(128≤c.toNat→128≤(decodeL (c::r)).1):=by
 rw[decodeL_N]
 have e:((c::r).getD 0 0).toNat=c.toNat:=rfl
 rw[e]
 refine ⟨fun h=>by unfold decodeN; rw[if_pos h],fun h=>?_⟩
 rcases decodeN_shape (c::r).length c.toNat ((c::r).getD 1 0).toNat ((c::r).getD 2 0).toNat ((c::r).getD 3 0).toNat with ⟨q,e⟩ | ⟨_,_,_,q,e⟩ | ⟨_,_,_,_,q,_,e⟩ | ⟨_,_,_,_,_,q,_,e⟩ | e
 ·omega
 all_goals rw[e]; simp only; omega
theorem qtm (hs:s.size≤999999) {c:UInt8} {r:List UInt8} (hl:c::r <:+ bL s) (hc:c≠92):∃ q,gQ0p s (ps s (c::r))=some q ∧
  UqR s (encodeRune ((decodeL (c::r)).1:Int)) ((c::r).drop (decodeL (c::r)).2) (if ((decodeL (c::r)).1=65533∧(decodeL (c::r)).2=1)∨(decodeL (c::r)).1 < 32∨(decodeL (c::r)).1=127 then 2 else 0) q:=by
 have hlen:=q1x hl
 have hpn:=q7s hl
 have hlt:s.size - (c::r).length < s.size:=by simp only[List.length_cons]at hlen ⊢; omega
 unfold gQ0p
 rw[q1k hl,Option.bind_some,show decide (((c.toNat:Nat):Int)=92)=decide (c=92) from qx c 92,decide_eq_false hc,cond_false]
 have hm:qbg s (ps s (c::r))=some ((Bad (decodeL (c::r)):Nat):Int):=by
  unfold qbg
  rw[q3y ⟨by omega,by omega,by omega⟩,hpn,Int.toNat_natCast,qvs s _ hlt,q9p hl]
 obtain ⟨d1,d2⟩:=qan c r
 have hw:=decodeL_width (c::r)
 have hle:=decodeL_le (c::r) (by simp)
 rw[hm,Option.bind_some]
 by_cases hb:(decodeL (c::r)).1=65533∧(decodeL (c::r)).2=1
 ·have:Bad (decodeL (c::r))=0:=if_pos hb
  rw[this,decide_eq_true (show ((0:Nat):Int)=0 from rfl),cond_true,if_pos (Or.inl hb)]
  exact ⟨_,rfl,rfl,fun h=>absurd h (by decide)⟩
 have e0:Bad (decodeL (c::r))=(decodeL (c::r)).2:=if_neg hb
 rw[e0,decide_eq_false (by omega),cond_false,Option.bind_some]
 by_cases h1:c.toNat < 32
 ·rw[decide_eq_true (show ((c.toNat:Nat):Int) < 32 by omega),cond_true,if_pos (Or.inr (Or.inl (by rw[d1 (by omega)]; exact h1)))]
  exact ⟨_,rfl,rfl,fun h=>absurd h (by decide)⟩
 rw[decide_eq_false (show ¬ ((c.toNat:Nat):Int) < 32 by omega),cond_false,Option.bind_some]
 by_cases h2:c.toNat=127
 ·rw[decide_eq_true (show ((c.toNat:Nat):Int)=127 by omega),cond_true,if_pos (Or.inr (Or.inr (by rw[d1 (by omega)]; exact h2)))]
  exact ⟨_,rfl,rfl,fun h=>absurd h (by decide)⟩
 rw[decide_eq_false (show ¬ ((c.toNat:Nat):Int)=127 by omega),cond_false]
 have hno:¬ (((decodeL (c::r)).1=65533∧(decodeL (c::r)).2=1)∨(decodeL (c::r)).1 < 32∨(decodeL (c::r)).1=127):=by
  rcases Nat.lt_or_ge c.toNat 128 with q | q
  ·rw[d1 q]at hb ⊢; simp only at hb ⊢; omega
  ·have:=d2 q; omega
 rw[if_neg hno,q3d hl (by omega) hle]
 have hsp:(c::r)=(c::r).take (decodeL (c::r)).2++(c::r).drop (decodeL (c::r)).2:=(List.take_append_drop _ _).symm
 have hmid:sslc s (ps s (c::r)) (ps s ((c::r).drop (decodeL (c::r)).2))=some (bS ((c::r).take (decodeL (c::r)).2)):=by
  have:=q9m (s:=s) (a:=(c::r).take (decodeL (c::r)).2) (t:=(c::r).drop (decodeL (c::r)).2) (by rw[List.take_append_drop]; exact hl)
  rwa [List.take_append_drop]at this
 rw[hmid,Option.bind_some]
 refine ⟨_,rfl,rfl,fun _=>?_⟩
 rw[encode_decode (c::r) (by simp) hb]
theorem q14 (a b:List UInt8) (h:a.length+b.length≤9223372036854775807):cat (bS a) (bS b)=some (bS (a++b)):=by
 unfold cat
 rw[if_pos (by rw[q26,q26]; exact h),Option.some.injEq]
 apply q6y
 unfold bL
 rw[ByteArray.data_append,Array.toList_append]
 rfl
theorem qo4 (hs:s.size≤999999):∀ (f:Nat) (l:List UInt8) (k:Nat) (acc b:List UInt8) (k':Nat) (e:Int),l <:+ bL s→acc.length+4*l.length≤9999999→unqF f l k acc=some (b,k',e) →
  ∃ r,qf (gQ0v s) (bS acc,ps s l)=some r∧UqR s b (l.drop (k' - k)) e r
 | 0,l,k,acc,b,k',e,_,_,h=>by cases h
 | f+1,[],k,acc,b,k',e,hl,_,h=>by
  simp[unqF]at h
  obtain ⟨rfl,rfl,rfl⟩:=h
  refine ⟨(eS,0,40),qs ?_,rfl,fun h=>absurd h (by decide)⟩
  unfold gQ0v
  rw[q52,cond_false]
 | f+1,c::r,k,acc,b,k',e,hl,hn,h=>by
  simp only[unqF]at h
  simp only[List.length_cons]at hn
  obtain ⟨d1,d2⟩:=qan c r
  by_cases h34:c=34
  ·rw[if_pos h34]at h
   have hb:∀ q,(bif (decide (((bS acc).size:Int) > 4096)) then some (.inr (eS,0,3)) else some (.inr (bS acc,ps s r,0)):Option ((ByteArray×Int)⊕(ByteArray×Int×Int)))=some (.inr q)→qf (gQ0v s) (bS acc,ps s (c::r))=some q:=fun q hq=>by
    refine qs ?_
    unfold gQ0v
    rw[q2v hl,cond_true,q1k hl,Option.bind_some,show decide (((c.toNat:Nat):Int)=34)=decide (c=34) from qx c 34,decide_eq_true h34,cond_true,q24 hl (by omega)]
    exact hq
   rw[q26]at hb
   by_cases h4:4096 < acc.length
   ·rw[if_pos h4]at h
    obtain ⟨rfl,rfl,rfl⟩:[]=b∧0=k'∧(3:Int)=e:=by simpa using h
    exact ⟨_,hb _ (by rw[decide_eq_true (show (acc.length:Int) > 4096 by omega)]; rfl),rfl,fun h=>absurd h (by decide)⟩
   ·rw[if_neg h4]at h
    obtain ⟨rfl,rfl,rfl⟩:acc=b∧k+1=k'∧(0:Int)=e:=by simpa using h
    exact ⟨_,hb _ (by rw[decide_eq_false (show ¬ (acc.length:Int) > 4096 by omega)]; rfl),rfl,fun _=>by rw[Nat.add_sub_cancel_left]; rfl⟩
  rw[if_neg h34]at h
  -- one part,then the rest
  have step:∀ (y:ByteArray×Int×Int) (m:Nat) (x:List UInt8) (e1:Int),gQ0p s (ps s (c::r))=some y→UqR s x ((c::r).drop m) e1 y→x.length≤4→1≤m→m≤r.length+1 →
    ((e1≠0∧(b,k',e)=([],0,e1))∨(e1=0∧unqF f ((c::r).drop m) (k+m) (acc++x)=some (b,k',e))) →
    ∃ r',qf (gQ0v s) (bS acc,ps s (c::r))=some r'∧UqR s b ((c::r).drop (k' - k)) e r':=by
   intro y m x e1 hy hu hx hm hm2 hc
   rcases hc with ⟨h1,h2⟩ | ⟨h1,h2⟩
   ·obtain ⟨rfl,rfl,rfl⟩:b=[]∧k'=0∧e=e1:=by simpa using h2
    refine ⟨(eS,0,e),qs ?_,rfl,fun h=>absurd h h1⟩
    unfold gQ0v
    rw[q2v hl,cond_true,q1k hl,Option.bind_some,show decide (((c.toNat:Nat):Int)=34)=decide (c=34) from qx c 34,decide_eq_false h34,cond_false,hy,Option.bind_some,hu.1,decide_eq_false h1,Bool.not_false,cond_true]
   ·have hye:=hu.2 h1
    subst hye
    have hld:=qc8 hl m
    have hdl:((c::r).drop m).length=r.length+1 - m:=by rw[List.length_drop,List.length_cons]
    have hcat:=q14 acc x (by omega)
    rw[q1v (s':=(bS (acc++x),ps s ((c::r).drop m))) (by
     unfold gQ0v
     rw[q2v hl,cond_true,q1k hl,Option.bind_some,show decide (((c.toNat:Nat):Int)=34)=decide (c=34) from qx c 34,decide_eq_false h34,cond_false,hy,Option.bind_some,decide_eq_true rfl,Bool.not_true,cond_false,hcat]
     rfl)]
    obtain ⟨q,hq,hq2⟩:=qo4 hs f _ (k+m) (acc++x) b k' e hld (by rw[List.length_append,hdl]; omega) h2
    refine ⟨q,hq,?_⟩
    refine ⟨hq2.1,fun he=>?_⟩
    have:=hq2.2 he
    subst he
    obtain ⟨_,hk1,_⟩:=q9s _ _ _ _ _ _ h2
    rw[this,List.drop_drop,show m+(k' - (k+m))=k' - k by omega]
  by_cases h92:c=92
  ·have hd:(decodeL (c::r)).1=92:=by rw[d1 (by rw[h92]; decide),h92]; rfl
   rw[if_pos hd]at h
   simp only[List.drop_succ_cons,List.drop_zero]at h
   subst h92
   obtain ⟨y,hy,hu⟩:=qqz hs hl
   have hel:=qat r
   have hy2:gQ0p s (ps s (92::r))=some y:=by
    unfold gQ0p
    rw[q1k hl,Option.bind_some,show decide ((((92:UInt8).toNat:Nat):Int)=92)=true from rfl,cond_true,hy]
    rfl
   refine step y ((escS r).2.1.toNat+1) _ _ hy2 (by rw[List.drop_succ_cons]; exact hu) (q8p _) (by omega) (by omega) ?_
   by_cases he:(escS r).2.2≠0
   ·rw[if_pos he]at h
    exact .inl ⟨he,(Option.some.inj h).symm⟩
   ·rw[if_neg he]at h
    exact .inr ⟨Decidable.not_not.1 he,h⟩
  ·have hd:¬ (decodeL (c::r)).1=92:=by
    rcases Nat.lt_or_ge c.toNat 128 with q | q
    ·rw[d1 q]; exact fun e=>h92 (q80 e)
    ·have:=d2 q; omega
   rw[if_neg hd]at h
   obtain ⟨y,hy,hu⟩:=qtm hs hl h92
   have hw:=decodeL_width (c::r)
   have hle:=decodeL_le (c::r) (by simp)
   simp only[List.length_cons]at hle
   refine step y (decodeL (c::r)).2 _ _ hy hu (q8p _) hw hle ?_
   by_cases he:((decodeL (c::r)).1=65533∧(decodeL (c::r)).2=1)∨(decodeL (c::r)).1 < 32∨(decodeL (c::r)).1=127
   ·rw[if_pos he]at h
    rw[if_pos he]
    exact .inl ⟨by decide,(Option.some.inj h).symm⟩
   ·rw[if_neg he]at h
    rw[if_neg he]
    exact .inr ⟨rfl,h⟩
end
theorem qn3 (l:List UInt8) (hl:l.length≤999999) {b:List UInt8} {k:Nat} {e:Int} (h:unqS l=some (b,k,e)):∃ r,gQ0u (bS l)=some r∧r.2.2=e∧(e=0→r=(bS b,(k:Int),0)):=by
 have hsz:(bS l).size=l.length:=q26 l
 unfold gQ0u
 rw[hsz]
 cases l with
 | nil =>
  simp[unqS]at h
  obtain ⟨rfl,rfl,rfl⟩:=h
  exact ⟨_,rfl,rfl,fun h=>absurd h (by decide)⟩
 | cons c r =>
  have hall:c::r <:+ bL (bS (c::r)):=List.suffix_refl _
  have h0:ps (bS (c::r)) (c::r)=0:=by unfold ps; rw[hsz]; omega
  have hsx:=q1k hall
  rw[h0]at hsx
  rw[decide_eq_false (by simp only[List.length_cons]; omega),cond_false,hsx,Option.bind_some,show decide (((c.toNat:Nat):Int)=34)=decide (c=34) from qx c 34]
  unfold unqS at h
  simp only at h
  by_cases hc:c=34
  ·rw[if_pos hc]at h
   rw[decide_eq_true hc,Bool.not_true,cond_false]
   simp only[List.length_cons]at hl hsz
   have h1:ps (bS (c::r)) r=1:=by unfold ps; rw[hsz]; omega
   obtain ⟨q,hq,hq1,hq2⟩:=qo4 (s:=bS (c::r)) (by rw[hsz]; omega) _ r 1 [] b k e (q3r hall) (by rw[List.length_nil]; omega) h
   rw[h1]at hq
   refine ⟨q,hq,hq1,fun he=>?_⟩
   rw[hq2 he]
   subst he
   obtain ⟨_,hk1,hk2⟩:=q9s _ _ _ _ _ _ h
   congr 2
   unfold ps
   rw[hsz,List.length_drop]
   omega
  ·rw[if_neg hc]at h
   obtain ⟨rfl,rfl,rfl⟩:[]=b∧0=k∧(2:Int)=e:=by simpa using h
   rw[decide_eq_false hc,Bool.not_false,cond_true]
   exact ⟨_,rfl,rfl,fun h=>absurd h (by decide)⟩
end Abs
end Go.Proofs.YtpidpioifnnllaaGreatDoor
namespace Go.Proofs.YtpidpioifnnllaaGreatDoor
set_option linter.unusedSimpArgs false
set_option linter.unusedVariables false
open Go.RowKit Go.Lib
namespace Abs
theorem qll {β:Type} (k:ByteArray) (x:β) (n:ByteArray):∀ l:List (ByteArray×β),mget (mput l k x) n=if n=k then some x else mget l n
 | []=>rfl
 | (a,u)::r=>by
  unfold mput
  by_cases h:k=a
  ·subst h
   rw[if_pos rfl]
   unfold mget
   by_cases h2:n=k
   ·rw[if_pos h2,if_pos h2]
   ·rw[if_neg h2,if_neg h2,if_neg h2]
  ·rw[if_neg h]
   unfold mget
   by_cases h2:n=a
   ·subst h2
    rw[if_pos rfl,if_neg (fun e=>h e.symm),if_pos rfl]
   ·rw[if_neg h2,if_neg h2]; exact qll k x n r
theorem qrm (ks:List ByteArray) (k x:ByteArray):hasK (ks++[k]) x=(hasK ks x || decide (k=x)):=by
 unfold hasK; rw[List.any_append]; simp
theorem qvx {m:List (ByteArray×Bool)} {ks:List ByteArray} (h:∀ x,q2j m x false=hasK ks x) (k:ByteArray):∀ x,q2j (mput m k true) x false=hasK (ks++[k]) x:=fun x=>by
 rw[qrm,← h x]
 unfold q2j
 rw[qll]
 by_cases e:x=k
 ·subst e; rw[if_pos rfl,decide_eq_true rfl]; simp
 ·rw[if_neg e,decide_eq_false (fun q=>e q.symm)]; simp
section
variable {s : ByteArray} {rd : ByteArray → Int → Int → Option ((Int × Int) ⊕ (Val × Int))} {rec : List UInt8 → PR Val} {dep : Int}
theorem qba (hs:s.size≤99999) {l:List UInt8} (h:l <:+ bL s):Lg l:=Nat.le_trans (q1x h) hs
theorem more93 (hs:s.size≤99999) (l:List UInt8) (h:l <:+ bL s):gQ3e s (ps s l) 93=some (encR s id (q18 93 l)):=qli (by omega) l h 93
theorem more125 (hs:s.size≤99999) (l:List UInt8) (h:l <:+ bL s):gQ3e s (ps s l) 125=some (encR s id (q18 125 l)):=qli (by omega) l h 125
theorem qa9 {α:Type} {m:Nat} (acc:List α) (x:α) (hm:0 < m) (h:acc.length≤99999) (hm2:m≤80):app m acc [x]=some (acc++[x]):=by
 refine q62 hm ?_
 rw[List.length_singleton]
 have:(acc.length+1)*m≤100000*80:=Nat.mul_le_mul (by omega) hm2
 omega
theorem qkz (hs:s.size≤99999) (hok:∀ l,Lg l→RP Val.Fits l (rec l)) (hrd:∀ l,l <:+ bL s→rd s (ps s l) dep=some (encR s id (rec l))):∀ (f:Nat) (l:List UInt8) (acc:List Val),l <:+ bL s→l.length < f→acc.length+l.length≤99999 →
  qf (gQ39 rd s dep) (ps s l,true,acc)=some (encR s id (q1r rec f l acc))
 | 0,l,acc,_,h,_=>by omega
 | f+1,l,acc,hl,hlt,hn=>by
  have h1:=hok l (qba hs hl)
  have hr:=hrd l hl
  unfold q1r
  cases hx:rec l with
  | inl p =>
   rw[hx]at hr
   refine qs ?_
   unfold gQ39 lbind
   simp only[cond_true]
   rw[hr]
   rfl
  | inr y =>
   obtain ⟨v,l1⟩:=y
   rw[hx]at hr h1
   obtain ⟨hv,hl1⟩:=h1
   simp only at hv hl1
   have hl1':=hl1.trans hl
   have hm:=more93 hs l1 hl1'
   have h2:=q7k 93 l1
   have happ:=qa9 (m:=80) acc v (by decide) (by omega) (by decide)
   simp only
   cases hy:q18 93 l1 with
   | inl p =>
    rw[hy]at hm
    refine qs ?_
    unfold gQ39 lbind
    simp only[cond_true]
    rw[hr]
    simp only[encR,Option.bind_some,id]
    rw[happ,Option.bind_some,hm]
    rfl
   | inr z =>
    obtain ⟨b,l2⟩:=z
    have hlt2:=q7j hy
    have hle:=hl1.length_le
    rw[hy]at hm h2
    have hl2:=h2.2.trans hl1'
    rw[q1v (s':=(ps s l2,b,acc++[v])) (by
     unfold gQ39 lbind
     simp only[cond_true]
     rw[hr]
     simp only[encR,Option.bind_some,id]
     rw[happ,Option.bind_some,hm]
     rfl)]
    cases b with
    | true=>exact qkz hs hok hrd f l2 _ hl2 (by omega) (by rw[List.length_append,List.length_singleton]; omega)
    | false =>
     refine qs ?_
     unfold gQ39
     rw[cond_false]
     rfl
theorem qsr (hs:s.size≤99999) (hok:∀ l,Lg l→RP Val.Fits l (rec l)) (hrd:∀ l,l <:+ bL s→rd s (ps s l) dep=some (encR s id (rec l))) (l:List UInt8) (hl:l <:+ bL s) :
  gQ38 rd s (ps s l) dep=some (encR s id (q3c rec l)):=by
 unfold gQ38 lbind q3c
 rw[q5p (by omega) l hl]
 unfold q4d
 have hb:=(q1j l).trans hl
 have hbl:=(q1j l).length_le
 cases h:qc l with
 | nil=>rfl
 | cons c r =>
  rw[h]at hb hbl
  simp only[encR,Option.bind_some]
  rw[show decide (((c.toNat:Nat):Int)=93)=decide (c=93) from qx c 93,q24 hb (by omega)]
  by_cases hc:c=93
  ·rw[decide_eq_true hc,cond_true,if_pos hc]; rfl
  ·rw[decide_eq_false hc,cond_false,if_neg hc]
   exact qkz hs hok hrd _ _ _ hb (by omega) (by have:=q1x hb; rw[List.length_nil]; omega)
theorem qs8 (hs:s.size≤99999) {m:List (ByteArray×Bool)} {ks:List ByteArray} (hm:∀ x,q2j m x false=hasK ks x) (l:List UInt8) (hl:l <:+ bL s) {ρ:Type} (F:Int×Int→Option ρ) (K:ByteArray→Int→Option ρ) :
  lbind (gQ3j s (ps s l)) F (fun y5=>bif (!decide (y5.1=34)) then F (2,y5.2) else lbind (gQ3m s y5.2) F fun y8=>bif (q2j m y8.1 false) then F (8,y5.2) else lbind (gQ3j s y8.2) F fun y11=>bif (!decide (y11.1=58)) then F (2,y11.2) else K y8.1 (IntKind.i64.wrap (y11.2+1))) =
  match keyS ks l with
  | .inl p=>F (p.1,ps s p.2)
  | .inr (k,l1)=>K k (ps s l1):=by
 unfold lbind keyS
 rw[q5p (by omega) l hl]
 unfold q4d
 have hb:=(q1j l).trans hl
 cases h:qc l with
 | nil=>rfl
 | cons c r =>
  rw[h]at hb
  simp only[encR,Option.bind_some]
  rw[show decide (((c.toNat:Nat):Int)=34)=decide (c=34) from qx c 34]
  by_cases hc:c=34
  ·rw[decide_eq_true hc,Bool.not_true,cond_false,if_pos hc,qnw (by omega) _ hb,Option.bind_some]
   have ht:=(qgc (c::r)).trans hb
   cases hx:q1d (c::r) with
   | inl p=>rfl
   | inr y =>
    obtain ⟨k,l1⟩:=y
    rw[hx]at ht
    obtain ⟨_,hl1⟩:=ht
    simp only[encR,id]
    rw[hm k]
    by_cases hk:hasK ks k=true
    ·rw[if_pos hk,hk,cond_true]
    ·rw[if_neg hk,Bool.eq_false_iff.2 hk,cond_false,q5p (by omega) l1 hl1]
     unfold q4d
     have hb1:=(q1j l1).trans hl1
     cases h3:qc l1 with
     | nil=>rfl
     | cons c2 r2 =>
      rw[h3]at hb1
      simp only[encR,Option.bind_some]
      rw[show decide (((c2.toNat:Nat):Int)=58)=decide (c2=58) from qx c2 58,q24 hb1 (by omega)]
      by_cases hc2:c2=58
      ·rw[decide_eq_true hc2,Bool.not_true,cond_false,if_pos hc2]
      ·rw[decide_eq_false hc2,Bool.not_false,cond_true,if_neg hc2]
  ·rw[decide_eq_false hc,Bool.not_false,cond_true,if_neg hc]
theorem ql9 {fin:List ByteArray→List Val→Val} (hf:FinOk fin) (hs:s.size≤99999) (hok:∀ l,Lg l→RP Val.Fits l (rec l)) (hrd:∀ l,l <:+ bL s→rd s (ps s l) dep=some (encR s id (rec l))):∀ (f:Nat) (l:List UInt8) (m:List (ByteArray×Bool)) (ks:List ByteArray) (vs:List Val),l <:+ bL s→l.length < f→ks.length+l.length≤99999→KV ks vs→(∀ x,q2j m x false=hasK ks x) →
  qf (gQ3c rd s dep) (ps s l,true,m,ks,vs)=some (encR s id (mapF rec fin f l ks vs))
 | 0,l,m,ks,vs,_,h,_,_,_=>by omega
 | f+1,l,m,ks,vs,hl,hlt,hn,hkv,hm=>by
  have hstep:∀ q,(match keyS ks l with
   | .inl p=>some (.inr (.inl (p.1,ps s p.2)))
   | .inr (k,l1)=>(app 16 ks [k]).bind fun l14=>lbind (rd s (ps s l1) dep) (fun p16=>some (.inr (.inl p16))) fun y15=>(app 80 vs [y15.1]).bind fun l17=>lbind (gQ3e s y15.2 125) (fun p19=>some (.inr (.inl p19))) fun y18=>some (.inl (y18.2,y18.1,(mput m k true),l14,l17)))=q →
   gQ3c rd s dep (ps s l,true,m,ks,vs)=q:=fun q hq=>by
   rw[← hq]
   exact qs8 (ρ:=(Int×Bool×List (ByteArray×Bool)×List ByteArray×List Val)⊕((Int×Int)⊕(Val×Int))) hs hm l hl (fun p=>some (.inr (.inl p))) (fun k i=>(app 16 ks [k]).bind fun l14=>lbind (rd s i dep) (fun p16=>some (.inr (.inl p16))) fun y15=>(app 80 vs [y15.1]).bind fun l17=>lbind (gQ3e s y15.2 125) (fun p19=>some (.inr (.inl p19))) fun y18=>some (.inl (y18.2,y18.1,(mput m k true),l14,l17)))
  have h0:=qej ks l
  unfold mapF
  cases hk:keyS ks l with
  | inl p =>
   rw[hk]at hstep
   exact qs (hstep _ rfl)
  | inr y =>
   obtain ⟨k,l0⟩:=y
   rw[hk]at h0 hstep
   obtain ⟨⟨hk1,hk2⟩,hl0⟩:=h0
   simp only at hk1 hk2 hl0 hstep
   have hl0':=hl0.trans hl
   have h1:=hok l0 (qba hs hl0')
   have hr:=hrd l0 hl0'
   have hlen:=hkv.len
   have happ:=qa9 (m:=16) ks k (by decide) (by omega) (by decide)
   rw[happ,Option.bind_some]at hstep
   unfold lbind at hstep
   rw[hr]at hstep
   simp only
   cases hx:rec l0 with
   | inl p =>
    rw[hx]at hstep
    exact qs (hstep _ rfl)
   | inr y =>
    obtain ⟨v,l1⟩:=y
    rw[hx]at h1 hstep
    obtain ⟨hv,hl1⟩:=h1
    simp only at hv hl1
    have hl1':=hl1.trans hl0'
    have hmo:=more125 hs l1 hl1'
    have h2:=q7k 125 l1
    have happ2:=qa9 (m:=80) vs v (by decide) (by omega) (by decide)
    simp only[encR,Option.bind_some,id]at hstep
    rw[happ2,Option.bind_some,hmo]at hstep
    simp only
    cases hy:q18 125 l1 with
    | inl p =>
     rw[hy]at hstep
     exact qs (hstep _ rfl)
    | inr z =>
     obtain ⟨b,l2⟩:=z
     have hlt2:=q7j hy
     have hle:=(hl1.trans hl0).length_le
     rw[hy]at hstep h2
     have hl2:=h2.2.trans hl1'
     have hkv':=hkv.snoc hk1 hk2 hv
     have hkl:(ks++[k]).length+l2.length≤99999:=by rw[List.length_append,List.length_singleton]; omega
     rw[q1v (s':=(ps s l2,b,mput m k true,ks++[k],vs++[v])) (hstep _ rfl)]
     cases b with
     | true=>exact ql9 hf hs hok hrd f l2 _ _ _ hl2 (by omega) hkl hkv' (qvx hm k)
     | false =>
      refine qs ?_
      obtain ⟨e,he⟩:=hf.map _ _ hkv'.len (by omega) hkv'.nodup hkv'.keys hkv'.vals
      unfold gQ3c
      rw[cond_false,he]
      rfl
theorem qt5 {fin:List ByteArray→List Val→Val} (hf:FinOk fin) (hs:s.size≤99999) (hok:∀ l,Lg l→RP Val.Fits l (rec l)) (hrd:∀ l,l <:+ bL s→rd s (ps s l) dep=some (encR s id (rec l))) (l:List UInt8) (hl:l <:+ bL s) :
  gQ3b rd s (ps s l) dep=some (encR s id (mapS rec fin l)):=by
 unfold gQ3b lbind mapS
 rw[q5p (by omega) l hl]
 unfold q4d
 have hb:=(q1j l).trans hl
 have hbl:=(q1j l).length_le
 cases h:qc l with
 | nil=>rfl
 | cons c r =>
  rw[h]at hb hbl
  simp only[encR,Option.bind_some]
  rw[show decide (((c.toNat:Nat):Int)=125)=decide (c=125) from qx c 125,q24 hb (by omega)]
  by_cases hc:c=125
  ·rw[decide_eq_true hc,cond_true,if_pos hc]; rfl
  ·rw[decide_eq_false hc,cond_false,if_neg hc]
   exact ql9 hf hs hok hrd _ _ _ _ _ hb (by omega) (by have:=q1x hb; rw[List.length_nil]; omega) KV.nil fun x=>rfl
open Classical in
theorem qo8 (s:ByteArray) (a dep:Int):tQ5c s a dep=gQ3o (gQ3b fun a0 a1 a2=>if relD a2 dep then tQ5c a0 a1 a2 else none) (gQ38 fun a0 a1 a2=>if relD a2 dep then tQ5c a0 a1 a2 else none) s a dep:=q42 dep (s,a)
theorem qsf {x:Option ((Int×Int)⊕(Val×Int))}:lbind x (fun p=>some (.inl p)) (fun y=>some (.inr (y.1,y.2)))=x:=by
 unfold lbind
 cases x with
 | none=>rfl
 | some z=>cases z <;> rfl
theorem qne (hs:s.size≤99999) (c:UInt8) (r:List UInt8) (h:c::r <:+ bL s) :
  (bif (decide (((c.toNat:Nat):Int)=34)) then lbind (gQ3m s (ps s (c::r))) (fun p13=>some (.inl p13)) fun y12=>(gQ47 y12.1).bind fun y14=>some (.inr (y14,y12.2)) else bif (decide (((c.toNat:Nat):Int)=45)) then lbind (gQ3g s (ps s (c::r))) (fun p17=>some (.inl p17)) fun y16=>some (.inr (y16.1,y16.2)) else bif (decide (((c.toNat:Nat):Int) ≥ 48)) then bif (decide (((c.toNat:Nat):Int)≤57)) then lbind (gQ3g s (ps s (c::r))) (fun p21=>some (.inl p21)) fun y20=>some (.inr (y20.1,y20.2)) else lbind (gQ3q s (ps s (c::r))) (fun p23=>some (.inl p23)) fun y22=>some (.inr (y22.1,y22.2)) else lbind (gQ3q s (ps s (c::r))) (fun p25=>some (.inl p25)) fun y24=>some (.inr (y24.1,y24.2))) =
  some (encR s (id:Val→Val) (if c=34 then (match q1d (c::r) with | .inl p=>.inl p | .inr (t,l1)=>.inr (.mk 3 0 t [] [],l1)) else if c=45∨digB c=true then numS c r else q20 (c::r))):=by
 rw[show decide (((c.toNat:Nat):Int)=34)=decide (c=34) from qx c 34,show decide (((c.toNat:Nat):Int)=45)=decide (c=45) from qx c 45]
 simp only[qsf]
 rw[qtj (by omega) c r h,qxb (by omega) _ h]
 by_cases h1:c=34
 ·rw[decide_eq_true h1,cond_true,if_pos h1,qnw (by omega) _ h]
  cases q1d (c::r) <;> rfl
 rw[decide_eq_false h1,cond_false,if_neg h1]
 by_cases h2:c=45
 ·rw[decide_eq_true h2,cond_true,if_pos (.inl h2)]
 rw[decide_eq_false h2,cond_false]
 by_cases h3:digB c=true
 ·rw[if_pos (.inr h3)]
  rw[q8m,Bool.and_eq_true]at h3
  rw[h3.1,h3.2]; rfl
 ·rw[if_neg (fun q=>q.elim h2 h3)]
  rw[q8m,Bool.and_eq_true,not_and]at h3
  by_cases h4:decide (((c.toNat:Nat):Int) ≥ 48)=true
  ·rw[h4,cond_true,Bool.eq_false_iff.2 (h3 h4),cond_false]
  ·rw[Bool.eq_false_iff.2 h4,cond_false]
open Classical in
theorem qo9 {fin:List ByteArray→List Val→Val} (hf:FinOk fin) (hs:s.size≤99999):∀ (d:Nat) (l:List UInt8),d≤32→l <:+ bL s→tQ5c s (ps s l) (32 - (d:Int))=some (encR s id (qg fin d l))
 | 0,l,hd,hl=>by
  rw[qo8]
  unfold gQ3o
  rw[q5p (by omega) l hl]
  unfold q4d qg
  have hb:=(q1j l).trans hl
  cases h:qc l with
  | nil=>rfl
  | cons c r =>
   rw[h]at hb
   simp only[encR,lbind,Option.bind_some]
   rw[show decide (((c.toNat:Nat):Int)=91)=decide (c=91) from qx c 91,show decide (((c.toNat:Nat):Int)=123)=decide (c=123) from qx c 123]
   have e32:decide ((32:Int) - ((0:Nat):Int)=32)=true:=by decide
   rw[e32,cond_true]
   by_cases h1:c=91
   ·rw[decide_eq_true h1,cond_true,if_pos (.inl h1)]
   rw[decide_eq_false h1,cond_false]
   by_cases h2:c=123
   ·rw[decide_eq_true h2,cond_true,if_pos (.inr h2)]; rfl
   rw[decide_eq_false h2,cond_false,if_neg (fun q=>q.elim h1 h2)]
   exact qne hs c r hb
 | d+1,l,hd,hl=>by
  have hrec:∀ l',l' <:+ bL s→(if relD (32 - (d:Int)) (32 - ((d+1:Nat):Int)) then tQ5c s (ps s l') (32 - (d:Int)) else none)=some (encR s id (qg fin d l')):=fun l' hl'=>by
   rw[if_pos ⟨by omega,by omega⟩]
   exact qo9 hf hs d l' (by omega) hl'
  rw[qo8]
  unfold gQ3o
  rw[q5p (by omega) l hl]
  unfold q4d qg
  have hb:=(q1j l).trans hl
  cases h:qc l with
  | nil=>rfl
  | cons c r =>
   rw[h]at hb
   have hr:=q3r hb
   simp only[encR,lbind,Option.bind_some]
   rw[show decide (((c.toNat:Nat):Int)=91)=decide (c=91) from qx c 91,show decide (((c.toNat:Nat):Int)=123)=decide (c=123) from qx c 123]
   have e32:decide ((32:Int) - ((d+1:Nat):Int)=32)=false:=decide_eq_false (by omega)
   have ew:IntKind.i64.wrap ((32:Int) - ((d+1:Nat):Int)+1)=32 - (d:Int):=by rw[q13 (by omega) (by omega)]; omega
   rw[e32,cond_false,cond_false,ew,q24 hb (by omega)]
   by_cases h1:c=91
   ·rw[decide_eq_true h1,cond_true,if_pos h1]
    have:=qsr (rd:=fun a0 a1 a2=>if relD a2 (32 - ((d+1:Nat):Int)) then tQ5c a0 a1 a2 else none) (dep:=32 - (d:Int)) hs (fun l hl=>q9u hf d l hl) hrec r hr
    rw[this]
    cases q3c (qg fin d) r <;> rfl
   rw[decide_eq_false h1,cond_false,if_neg h1]
   by_cases h2:c=123
   ·rw[decide_eq_true h2,cond_true,if_pos h2]
    have:=qt5 (rd:=fun a0 a1 a2=>if relD a2 (32 - ((d+1:Nat):Int)) then tQ5c a0 a1 a2 else none) (dep:=32 - (d:Int)) hf hs (fun l hl=>q9u hf d l hl) hrec r hr
    rw[this]
    cases mapS (qg fin d) fin r <;> rfl
   rw[decide_eq_false h2,cond_false,if_neg h2]
   exact qne hs c r hb
end
end Abs
end Go.Proofs.YtpidpioifnnllaaGreatDoor
namespace Go.Proofs.YtpidpioifnnllaaGreatDoor
set_option linter.unusedSimpArgs false
set_option linter.unusedVariables false
namespace Abs
open Go.RowKit
theorem q7d:∀ l:List UInt8,Op.bytesLess l l=false
 | []=>rfl
 | x::r=>by simp[Op.bytesLess,q7d r]
theorem qb9:∀ {a b c:List UInt8},Op.bytesLess a b=true→Op.bytesLess b c=true→Op.bytesLess a c=true
 | [],[],_,h,_=>by simp[Op.bytesLess]at h
 | _::_,[],_,h,_=>by simp[Op.bytesLess]at h
 | _,_::_,[],_,h=>by simp[Op.bytesLess]at h
 | [],_::_,_::_,_,_=>by simp[Op.bytesLess]
 | x::a,y::b,z::c,h,k=>by
  simp only[Op.bytesLess,Bool.or_eq_true,Bool.and_eq_true,decide_eq_true_eq,beq_iff_eq]at h k ⊢
  rcases h with h | ⟨rfl,h⟩
  ·rcases k with k | ⟨rfl,k⟩
   ·exact .inl (UInt8.lt_trans h k)
   ·exact .inl h
  ·rcases k with k | ⟨rfl,k⟩
   ·exact .inl k
   ·exact .inr ⟨rfl,qb9 h k⟩
theorem qsw {α β O:Type} (l:List α) (f:α→β) {body:Int×List β→Option ((Int×List β)⊕O)} (R:List β→O)
  (step:∀ (i:Nat) (acc:List β) (x:α),i < l.length→l[i]?=some x→acc.length=i→body ((i:Int),acc)=some (.inl (((i+1:Nat):Int),acc++[f x])))
  (stop:∀ acc:List β,acc.length=l.length→body ((l.length:Int),acc)=some (.inr (R acc))):qf body (0,[])=some (R (l.map f)):=by
 have h:=q6e (body:=body) (fun s=>∃ i:Nat,s=((i:Int),(l.take i).map f)∧i≤l.length) (fun s=>l.length - s.1.toNat) (fun q=>q=R (l.map f)) (by
  rintro s ⟨i,rfl,hi⟩
  have hlen:((l.take i).map f).length=i:=by simp[hi]
  rcases Nat.eq_or_lt_of_le hi with h0 | h0
  ·subst h0
   exact .inr ⟨_,stop _ hlen,by rw[List.take_length]⟩
  ·have hx:=List.getElem?_eq_getElem h0
   refine .inl ⟨_,step i _ _ h0 hx hlen,⟨i+1,?_,h0⟩,?_⟩
   ·rw[List.take_succ_eq_append_getElem h0,List.map_append]; rfl
   ·simp only[Int.toNat_natCast]; omega) (0,[]) ⟨0,by simp,Nat.zero_le _⟩
 obtain ⟨q,h1,rfl⟩:=h
 exact h1
theorem q5j {n m:Nat} (h:n*m≤140737488351232) (hm:0 < m):n≤140737488351232:=Nat.le_trans (Nat.le_mul_of_pos_right _ hm) h
theorem qq3 {α:Type} {l:List α} {m:Nat} (h:l.length*m≤140737488351232):clone m l=some l:=by unfold clone; rw[if_pos (by omega)]
theorem mkc_of {n m:Nat} (h:n*m≤140737488351232) (hm:0 < m):mkc m (n:Int)=some ():=by
 have:=q5j h hm
 unfold mkc
 rw[if_pos ⟨by omega,by simp; omega,by omega⟩]
theorem q3u {α:Type} {m n:Nat} (acc:List α) (x:α) (hm:0 < m) (h:acc.length < n) (hn:n*m≤140737488351232):app m acc [x]=some (acc++[x]):=by
 refine q62 hm ?_
 have:(acc.length+[x].length)*m≤n*m:=Nat.mul_le_mul_right _ (by simp only[List.length_cons,List.length_nil]; omega)
 omega
theorem qq7 (rec:Val→Option Val) (l:List Val) (hl:l.length*80≤140737488351232) (h:∀ x ∈ l,rec x=some x):gQ4d rec l=some l:=by
 unfold gQ4d
 by_cases h0:l.length=0
 ·have:l=[]:=List.length_eq_zero_iff.1 h0
  subst this; rfl
 ·have hd:decide ((l.length:Int)=0)=false:=by simp; exact fun h=>h0 (by simp[h])
  rw[hd,cond_false,mkc_of hl (by decide),Option.bind_some]
  have hh:=qsw l (fun x=>x) (body:=gQ4e rec l) (fun acc=>acc) (by
   intro i acc x hi hx ha
   have hx':x ∈ l:=List.mem_of_getElem? hx
   have hn:=q5j hl (by decide)
   simp only[gQ4e,decide_eq_true (show (i:Int) < l.length by omega),cond_true,q1n,hx,Option.bind_some,h x hx',q3u acc x (m:=80) (by decide) (show acc.length < l.length by omega) hl,q37 hi (show l.length≤9223372036854775807 by omega)]) (by
   intro acc ha
   simp[gQ4e])
  rw[hh]; simp
open Classical in
theorem qq5 (x:Val):tQ5f x=gQ4b (gQ4d (fun a0=>if relV a0 x then tQ5f a0 else none)) x:=q42 x ()
theorem qq6 (x:Val):x.Fits→tQ5f x=some x:=by
 induction x using wfV.induction with
 | h a ih =>
  intro hf
  obtain ⟨f1,f2,f3,f4,f5,f6,f7⟩:=hf.parts
  rw[qq5]
  unfold gQ4b
  rw[qq3 f5,Option.bind_some,qq7 _ a.items f4 (fun x hx=>by
   rw[if_pos (show relV x a from hx)]
   exact ih x hx (f7 x hx)),Option.bind_some]
  cases a; rfl
abbrev vZ:Val:=Val.mk 0 0 eS [] []
theorem zip_at {α β:Type} {a:List α} {b:List β} {i:Nat} {p:α×β} (h:(a.zip b)[i]?=some p):a[i]?=some p.1∧b[i]?=some p.2:=by
 rw[List.getElem?_zip_eq_some]at h; exact h
theorem decDigits_len':∀ (k u:Nat),u < 10 ^ (k+1)→(Lib.decDigits u).length≤k+1:=by
 intro k
 induction k with
 | zero=>intro u hu; rw[Lib.decDigits_one (by simpa using hu)]; simp
 | succ k ih =>
  intro u hu
  by_cases h:u < 10
  ·rw[Lib.decDigits_one h]; simp
  ·rw[Lib.decDigits,dif_neg h,List.length_append]
   have:=ih (u / 10) (Nat.div_lt_of_lt_mul (by rw[Nat.pow_succ,Nat.mul_comm]at hu; exact hu))
   simp; omega
theorem itoa_len' (n:Int) (h0:-9223372036854775808≤n) (h1:n≤9223372036854775808):(Lib.itoa n).length≤20:=by
 unfold Lib.itoa
 split
 ·have:=decDigits_len' 18 n.natAbs (by omega); simp; omega
 ·have:=decDigits_len' 18 n.toNat (by omega); omega
theorem qd2 {a b:ByteArray} (h:a.toList=b.toList):a=b:=by
 rw[ByteArray.toList_eq,ByteArray.toList_eq]at h
 obtain ⟨⟨x⟩⟩:=a
 obtain ⟨⟨y⟩⟩:=b
 simp at h
 subst h; rfl
theorem qeq (a b:List UInt8):Op.bytesLess a b=true∨a=b∨Op.bytesLess b a=true:=by
 cases h:Op.bytesLess a b with
 | true=>exact .inl rfl
 | false =>
  cases k:Op.bytesLess b a with
  | true=>exact .inr (.inr rfl)
  | false=>exact .inr (.inl (qd6 h k))
theorem qep {a b:List UInt8} (h:Op.bytesLess a b=true):Op.bytesLess b a=false:=by
 cases k:Op.bytesLess b a with
 | false=>rfl
 | true=>have:=qb9 h k; rw[q7d]at this; cases this
section
variable {α : Type}
def SP (l:List (ByteArray×α)):Prop:=l.Pairwise fun p q=>Op.bytesLess p.1.toList q.1.toList=true
theorem qg4:∀ {l m:List (ByteArray×α)},SP l→SP m→(∀ p,p ∈ l ↔ p ∈ m)→l=m
 | [],[],_,_,_=>rfl
 | [],q::m,_,_,h=>absurd ((h q).2 List.mem_cons_self) List.not_mem_nil
 | p::l,[],_,_,h=>absurd ((h p).1 List.mem_cons_self) List.not_mem_nil
 | p::l,q::m,hl,hm,h=>by
  obtain ⟨l1,l2⟩:=List.pairwise_cons.1 hl
  obtain ⟨m1,m2⟩:=List.pairwise_cons.1 hm
  have e:p=q:=by
   rcases List.mem_cons.1 ((h p).1 List.mem_cons_self) with e | e
   ·exact e
   rcases List.mem_cons.1 ((h q).2 List.mem_cons_self) with k | k
   ·exact k.symm
   ·have:=qep (m1 p e); rw[l1 q k]at this; cases this
  subst e
  have np:∀ {l:List (ByteArray×α)},(∀ q ∈ l,Op.bytesLess p.1.toList q.1.toList=true)→p ∉ l:=fun h k=>by
   have:=h p k; rw[q7d]at this; cases this
  rw[qg4 l2 m2 fun x=>⟨fun hx=>?_,fun hx=>?_⟩]
  ·rcases List.mem_cons.1 ((h x).1 (List.mem_cons_of_mem _ hx)) with rfl | k
   ·exact absurd hx (np l1)
   ·exact k
  ·rcases List.mem_cons.1 ((h x).2 (List.mem_cons_of_mem _ hx)) with rfl | k
   ·exact absurd hx (np m1)
   ·exact k
def insP (p:ByteArray×α):List (ByteArray×α)→List (ByteArray×α)
 | []=>[p]
 | q::r=>if Op.bytesLess q.1.toList p.1.toList=true then q::insP p r else p::q::r
theorem qbl {p x:ByteArray×α}:∀ {l:List (ByteArray×α)},x ∈ insP p l ↔ x=p∨x ∈ l
 | []=>by simp[insP]
 | q::r=>by
  unfold insP
  split
  ·rw[List.mem_cons,qbl (l:=r),List.mem_cons]
   exact ⟨fun h=>h.elim (fun h=>.inr (.inl h)) fun h=>h.elim .inl fun h=>.inr (.inr h),fun h=>h.elim (fun h=>.inr (.inl h)) fun h=>h.elim .inl fun h=>.inr (.inr h)⟩
  ·rw[List.mem_cons]
theorem qnj {p:ByteArray×α}:∀ {l:List (ByteArray×α)},SP l→(∀ q ∈ l,q.1≠p.1)→SP (insP p l)
 | [],_,_=>List.pairwise_singleton _ _
 | q::r,h,hn=>by
  obtain ⟨h1,h2⟩:=List.pairwise_cons.1 h
  unfold insP
  split
  ·rename_i hc
   refine List.pairwise_cons.2 ⟨fun x hx=>?_,qnj h2 fun q hq=>hn q (List.mem_cons_of_mem _ hq)⟩
   rcases qbl.1 hx with rfl | k
   ·exact hc
   ·exact h1 x k
  ·rename_i hc
   have hpq:Op.bytesLess p.1.toList q.1.toList=true:=by
    rcases qeq q.1.toList p.1.toList with k | k | k
    ·exact absurd k hc
    ·exact absurd (qd2 k) (hn q List.mem_cons_self)
    ·exact k
   refine List.pairwise_cons.2 ⟨fun x hx=>?_,h⟩
   rcases List.mem_cons.1 hx with rfl | k
   ·exact hpq
   ·exact qb9 hpq (h1 x k)
theorem qjv {p:ByteArray×α}:∀ {l:List (ByteArray×α)},(insP p l).length=l.length+1
 | []=>rfl
 | q::r=>by unfold insP; split <;> simp[qjv (l:=r)]
end
def iota (n:Nat):List Int:=(List.range n).map fun (i:Nat)=>(i:Int)
theorem qb3 (n:Nat):(iota n).length=n:=by simp[iota]
theorem quf (keys:List ByteArray) (hl:keys.length≤140737488351232) :
  ∃ o,q5n keys (iota keys.length)=some o∧o.Perm (iota keys.length)∧∀ (i j:Nat) (x y:Int) (a b:ByteArray),i < j→o[i]?=some x→o[j]?=some y→keys[x.toNat]?=some a→keys[y.toNat]?=some b→Op.bytesLess b.toList a.toList=false:=by
 have hr:∀ x ∈ iota keys.length,0≤x∧x < keys.length:=fun x hx=>by
  simp only[iota,List.mem_map,List.mem_range]at hx
  obtain ⟨i,hi,rfl⟩:=hx
  omega
 unfold q5n
 by_cases h0:iota keys.length=[]
 ·rw[if_pos h0]
  exact ⟨[],rfl,by rw[h0],fun i j x y a b _ e=>by simp at e⟩
 ·rw[if_neg h0]
  have hpos:0 < keys.length:=Nat.pos_of_ne_zero fun e=>h0 (by rw[e]; rfl)
  have hc:0 < keys.length∧(iota keys.length).length < 4611686018427387904∧∀ x ∈ iota keys.length,0≤x∧x < keys.length:=⟨hpos,by rw[qb3]; omega,hr⟩
  rw[dif_pos hc]
  letI:Inhabited (Plc keys):=⟨⟨0,hpos⟩⟩
  obtain ⟨q1,q2⟩:=q7y (swoP keys) (plcs keys (iota keys.length) hc.2.2)
  refine ⟨_,rfl,?_,fun i j x y a b hij e1 e2 k1 k2=>?_⟩
  ·have:=q1.map (fun a:Plc keys=>(a.1:Int))
   rwa [qm9]at this
  ·simp only[List.getElem?_map,Option.map_eq_some_iff]at e1 e2
   obtain ⟨p,e1,rfl⟩:=e1
   obtain ⟨q,e2,rfl⟩:=e2
   obtain ⟨hi,e1⟩:=List.getElem?_eq_some_iff.1 e1
   obtain ⟨hj,e2⟩:=List.getElem?_eq_some_iff.1 e2
   have h:=List.pairwise_iff_getElem.1 q2 i j hi hj hij
   rw[e1,e2]at h
   have h':ltOf cmpS (keys[q.1]'q.2) (keys[p.1]'p.2)=false:=h
   rw[ltS]at h'
   rw[Int.toNat_natCast,List.getElem?_eq_getElem p.2]at k1
   rw[Int.toNat_natCast,List.getElem?_eq_getElem q.2]at k2
   obtain rfl:=Option.some.inj k1
   obtain rfl:=Option.some.inj k2
   exact h'
theorem qt1 (keys:List ByteArray) (items:List Val) (hk:keys.length=items.length) (hl:keys.length*8≤140737488351232) {o:List Int} (ho:q5n keys (iota keys.length)=some o) (r:Val×Int)
  (h:qf (gQ41 keys items o) (0,[],[])=some (.inr r)):gQ3z keys items=some r:=by
 unfold gQ3z
 have hm:mkl 8 (keys.length:Int) (0:Int)=some (List.replicate keys.length 0):=by
  unfold mkl
  rw[if_pos (by omega)]
  simp
 rw[decide_eq_true (show (keys.length:Int)=items.length by omega),Bool.not_true,cond_false,hm,Option.bind_some]
 have:=q6e (body:=gQ40 keys items (List.replicate keys.length 0)) (fun s=>∃ i:Nat,i≤keys.length∧s.1=(i:Int)∧s.2.length=keys.length∧∀ j:Nat,j < i→s.2[j]?=some (j:Int)) (fun s=>keys.length - s.1.toNat) (fun q=>q=r) ?_ (0,List.replicate keys.length 0) ⟨0,Nat.zero_le _,rfl,by simp,fun j hj=>by omega⟩
 ·obtain ⟨q,h',e⟩:=this
  rw[e]at h'; exact h'
 rintro ⟨s,l⟩ ⟨i,hi,rfl,hlen,hv⟩
 simp only at hlen hv ⊢
 unfold gQ40
 simp only[List.length_replicate]
 by_cases hlt:i < keys.length
 ·left
  refine ⟨(((i+1:Nat):Int),upd l (i:Int) (i:Int)),?_,⟨i+1,hlt,rfl,by simp only[qcc]; exact hlen,fun j hj=>?_⟩,by simp only[Int.toNat_natCast]; omega⟩
  ·rw[decide_eq_true (show (i:Int) < (keys.length:Int) by omega),cond_true,q1n,List.getElem?_eq_getElem (show i < l.length by omega),Option.bind_some,q37 hlt (by omega)]
  ·unfold upd
   simp only[Int.toNat_natCast]
   rcases Nat.eq_or_lt_of_le (Nat.le_of_lt_succ hj) with rfl | hj'
   ·rw[List.getElem?_set_self (by omega)]
   ·rw[List.getElem?_set_ne (by omega)]; exact hv j hj'
 ·right
  obtain rfl:i=keys.length:=by omega
  have hlo:l=iota keys.length:=by
   apply List.ext_getElem?
   intro j
   rcases Nat.lt_or_ge j keys.length with hj | hj
   ·rw[hv j hj]; simp[iota,hj]
   ·rw[List.getElem?_eq_none (by omega),List.getElem?_eq_none (by rw[qb3]; exact hj)]
  refine ⟨r,?_,rfl⟩
  rw[decide_eq_false (show ¬ (keys.length:Int) < (keys.length:Int) by omega),cond_false,hlo,ho,Option.bind_some,h]
theorem qec {n i:Nat} {x:Int} (h:(iota n)[i]?=some x):x=(i:Int)∧i < n:=by
 have hi:i < n:=by have:=(List.getElem?_eq_some_iff.1 h).1; rwa [qb3]at this
 simp[iota,hi]at h
 exact ⟨h.symm,hi⟩
def q34 (L:List (ByteArray×Val)):Val:=Val.mk 5 0 eS (L.map (·.2)) (L.map (·.1))
def q29 {α:Type} (L:List (ByteArray×α)) (ps:List (ByteArray×α)):List (ByteArray×α):=ps.foldl (fun L p=>insP p L) L
theorem qe0 {α:Type}:∀ (ps L:List (ByteArray×α)),SP L→(ps.map (·.1)).Nodup→(∀ p ∈ ps,∀ q ∈ L,q.1≠p.1) →
  SP (q29 L ps)∧(∀ p,p ∈ q29 L ps ↔ p ∈ L∨p ∈ ps)∧(q29 L ps).length=L.length+ps.length
 | [],L,h,_,_=>⟨h,fun p=>by simp[q29],rfl⟩
 | p::r,L,h,hn,hd=>by
  rw[List.map_cons,List.nodup_cons]at hn
  obtain ⟨a,b,c⟩:=qe0 r (insP p L) (qnj h fun q hq=>hd p List.mem_cons_self q hq) hn.2 (fun m hm q hq e=>by
   rcases qbl.1 hq with rfl | k
   ·exact hn.1 (e ▸ List.mem_map.2 ⟨m,hm,rfl⟩)
   ·exact hd m (List.mem_cons_of_mem _ hm) q k e)
  refine ⟨a,fun q=>(b q).trans ?_,by show (q29 (insP p L) r).length=_; rw[c,qjv,List.length_cons]; omega⟩
  rw[qbl,List.mem_cons]
  constructor
  ·rintro ((k | k) | k)
   ·exact .inr (.inl k)
   ·exact .inl k
   ·exact .inr (.inr k)
  ·rintro (k | k | k)
   ·exact .inl (.inr k)
   ·exact .inl (.inl k)
   ·exact .inr k
def kvAt (keys:List ByteArray) (items:List Val) (x:Int):ByteArray×Val:=(keys.getD x.toNat eS,items.getD x.toNat vZ)
theorem qt2 (keys:List ByteArray) (items:List Val) (hk:keys.length=items.length) (hl:keys.length≤100000) (hn:keys.Nodup) (hf:∀ x ∈ items,x.Fits) :
  gQ3z keys items=some (q34 (q29 [] (keys.zip items)),0):=by
 obtain ⟨o,o1,o2,o3⟩:=quf keys (by omega)
 have olen:o.length=keys.length:=by rw[o2.length_eq,qb3]
 have orng:∀ (i:Nat) x,o[i]?=some x→∃ j:Nat,x=(j:Int)∧j < keys.length:=fun i x h=>by
  obtain ⟨j,hj⟩:=List.getElem?_of_mem (o2.mem_iff.1 (List.mem_of_getElem? h))
  exact ⟨j,qec hj⟩
 have onod:o.Nodup:=o2.nodup_iff.2 (by
  rw[List.nodup_iff_pairwise_ne,List.pairwise_iff_getElem]
  intro i j hi hj hij e
  have h1:=(qec (List.getElem?_eq_getElem hi)).1
  have h2:=(qec (List.getElem?_eq_getElem hj)).1
  omega)
 have kat:∀ j:Nat,(hj:j < keys.length)→kvAt keys items (j:Int)=(keys[j],items[j]'(hk ▸ hj)):=fun j hj=>by
  unfold kvAt
  rw[Int.toNat_natCast,List.getD_eq_getElem?_getD,List.getD_eq_getElem?_getD,List.getElem?_eq_getElem hj,List.getElem?_eq_getElem (hk ▸ hj)]; rfl
 have hsp:SP (o.map (kvAt keys items)):=by
  refine List.pairwise_map.2 (List.pairwise_iff_getElem.2 fun i j hi hj hij=>?_)
  obtain ⟨p,e1,hp⟩:=orng i _ (List.getElem?_eq_getElem hi)
  obtain ⟨q,e2,hq⟩:=orng j _ (List.getElem?_eq_getElem hj)
  have:=o3 i j _ _ keys[p] keys[q] hij (List.getElem?_eq_getElem hi) (List.getElem?_eq_getElem hj) (by rw[e1,Int.toNat_natCast]; exact List.getElem?_eq_getElem hp) (by rw[e2,Int.toNat_natCast]; exact List.getElem?_eq_getElem hq)
  rw[e1,e2,kat p hp,kat q hq]
  rcases qeq keys[p].toList keys[q].toList with k | k | k
  ·exact k
  ·exfalso
   have hpq:p=q:=(List.getElem_inj hn).1 (qd2 k)
   have:=(List.getElem_inj onod).1 (show o[i]=o[j] by rw[e1,e2,hpq])
   omega
  ·rw[this]at k; cases k
 have hz:=qe0 (keys.zip items) ([]:List (ByteArray×Val)) List.Pairwise.nil (by rw[List.map_fst_zip (by omega)]; exact hn) (fun _ _ q hq=>absurd hq List.not_mem_nil)
 have hM:o.map (kvAt keys items)=q29 [] (keys.zip items):=qg4 hsp hz.1 fun p=>by
  rw[hz.2.1,List.mem_map]
  constructor
  ·rintro ⟨x,hx,rfl⟩
   obtain ⟨i,hi⟩:=List.getElem?_of_mem hx
   obtain ⟨j,rfl,hj⟩:=orng i x hi
   right
   rw[kat j hj]
   exact List.mem_of_getElem? (i:=j) (by rw[List.getElem?_zip_eq_some]; exact ⟨List.getElem?_eq_getElem hj,List.getElem?_eq_getElem (hk ▸ hj)⟩)
  ·rintro (h | h)
   ·exact absurd h List.not_mem_nil
   ·obtain ⟨j,hj⟩:=List.getElem?_of_mem h
    obtain ⟨h1,h2⟩:=zip_at hj
    have hjk:=(List.getElem?_eq_some_iff.1 h1).1
    refine ⟨(j:Int),o2.mem_iff.2 ?_,?_⟩
    ·exact List.mem_map.2 ⟨j,List.mem_range.2 hjk,rfl⟩
    ·rw[kat j hjk]
     rw[List.getElem?_eq_getElem hjk]at h1
     rw[List.getElem?_eq_getElem (hk ▸ hjk)]at h2
     exact Prod.ext (Option.some.inj h1) (Option.some.inj h2)
 rw[← hM]
 refine qt1 keys items hk (by omega) o1 _ ?_
 have:=q6e (body:=gQ41 keys items o) (fun s=>∃ i:Nat,i≤o.length∧s=((i:Int),((o.map (kvAt keys items)).take i).map (·.2),((o.map (kvAt keys items)).take i).map (·.1))) (fun s=>o.length - s.1.toNat) (fun q=>q=.inr (q34 (o.map (kvAt keys items)),0)) ?_ (0,[],[]) ⟨0,Nat.zero_le _,rfl⟩
 ·obtain ⟨q,h',e⟩:=this
  rw[e]at h'; exact h'
 rintro s ⟨i,hi,rfl⟩
 unfold gQ41
 by_cases hlt:i < o.length
 ·left
  have hx:=List.getElem?_eq_getElem hlt
  obtain ⟨p,e1,hp⟩:=orng i _ hx
  have hp2:p < items.length:=hk ▸ hp
  have e0:idx o (i:Int)=some (p:Int):=by rw[q1n,hx,e1]
  have e2:idx keys (p:Int)=some keys[p]:=by rw[q1n,List.getElem?_eq_getElem hp]
  have e3:idx items (p:Int)=some items[p]:=by rw[q1n,List.getElem?_eq_getElem hp2]
  have e4:tQ5f items[p]=some items[p]:=qq6 _ (hf _ (List.getElem_mem hp2))
  have tk:(o.map (kvAt keys items)).take (i+1)=(o.map (kvAt keys items)).take i++[(keys[p],items[p])]:=by
   rw[List.take_add_one,List.getElem?_map,hx,e1]
   show _++[kvAt keys items (p:Int)]=_
   rw[kat p hp]
  have n1:(((o.map (kvAt keys items)).take i).map (·.1)).length=i:=by simp; omega
  have n2:(((o.map (kvAt keys items)).take i).map (·.2)).length=i:=by simp; omega
  have a1:=q3u (((o.map (kvAt keys items)).take i).map (·.1)) keys[p] (m:=16) (n:=100001) (by decide) (by omega) (by decide)
  have a2:=q3u (((o.map (kvAt keys items)).take i).map (·.2)) items[p] (m:=80) (n:=100001) (by decide) (by omega) (by decide)
  refine ⟨_,?_,⟨i+1,hlt,rfl⟩,by simp only[Int.toNat_natCast]; omega⟩
  rw[tk]
  simp only[decide_eq_true (show (i:Int) < (o.length:Int) by omega),cond_true,e0,Option.bind_some,e2,e3,e4,a1,a2,q37 hlt (show o.length≤9223372036854775807 by omega),List.map_append,List.map_cons,List.map_nil]
  cases i with
  | zero=>rw[decide_eq_false (show ¬ (((0:Nat):Int) > 0) by omega),cond_false]
  | succ j =>
   have hj:j < o.length:=by omega
   have w:IntKind.i64.wrap (((j+1:Nat):Int) - 1)=(j:Int):=by
    rw[show (((j+1:Nat):Int) - 1)=(j:Int) by omega]; exact q13 (by omega) (by omega)
   obtain ⟨q,e5,hq⟩:=orng j _ (List.getElem?_eq_getElem hj)
   have e6:idx (((o.map (kvAt keys items)).take (j+1)).map (·.1)) (j:Int)=some keys[q]:=by
    rw[q1n,List.getElem?_map,List.getElem?_take,if_pos (by omega),List.getElem?_map,List.getElem?_eq_getElem hj,e5]
    show some (kvAt keys items (q:Int)).1=_
    rw[kat q hq]
   rw[decide_eq_true (show (((j+1:Nat):Int) > 0) by omega),cond_true,w,e6,Option.bind_some]
   rw[decide_eq_false (fun e=>?_),cond_false]
   have hpq:p=q:=(List.getElem_inj hn).1 e
   have:=(List.getElem_inj onod).1 (show o[j+1]=o[j] by rw[e1,e5,hpq])
   omega
 ·right
  obtain rfl:i=o.length:=by omega
  refine ⟨_,?_,rfl⟩
  rw[decide_eq_false (show ¬ (o.length:Int) < (o.length:Int) by omega),cond_false]
  rw[show (o.map (kvAt keys items)).take o.length=o.map (kvAt keys items) from List.take_of_length_le (by simp)]; rfl
theorem qrc {α:Type} (L ps:List (ByteArray×α)) (p:ByteArray×α):q29 L (ps++[p])=insP p (q29 L ps):=by
 unfold q29; rw[List.foldl_append]; rfl
theorem qax {ks:List ByteArray} {vs:List Val} (h:ks.length=vs.length) (hn:ks.Nodup):SP (q29 [] (ks.zip vs))∧(∀ p,p ∈ q29 [] (ks.zip vs) ↔ p ∈ ks.zip vs)∧(q29 [] (ks.zip vs)).length=ks.length:=by
 obtain ⟨a,b,c⟩:=qe0 (ks.zip vs) ([]:List (ByteArray×Val)) List.Pairwise.nil (by rw[List.map_fst_zip (by omega)]; exact hn) (fun _ _ q hq=>absurd hq List.not_mem_nil)
 refine ⟨a,fun p=>(b p).trans ⟨fun k=>k.elim (fun k=>absurd k List.not_mem_nil) id,.inr⟩,?_⟩
 rw[c,List.length_zip]; simp; omega
inductive Good:Nat→Val→Prop
 | mk {d:Nat} {x:Val}:q19 x=0→(∀ y ∈ x.items,Good d y)→Good (d+1) x
theorem Good.node {d:Nat} {x:Val} (h:Good d x):q19 x=0:=by cases h; assumption
theorem Good.item {d:Nat} {x:Val} (h:Good d x):∃ e,d=e+1∧∀ y ∈ x.items,Good e y:=by cases h; exact ⟨_,rfl,by assumption⟩
theorem qi5:∀ (l:List Val) (lv n:Int),(q1e l lv n).1=0→∀ x ∈ l,∃ k,(qy x lv k).1=0
 | [],_,_,_,x,hx=>absurd hx List.not_mem_nil
 | y::r,lv,n,h,x,hx=>by
  simp only[q1e]at h
  by_cases hc:(qy y lv n).1=0
  ·rw[if_neg (by simp[hc])]at h
   rcases List.mem_cons.1 hx with rfl | hx
   ·exact ⟨n,hc⟩
   ·exact qi5 r lv _ h x hx
  ·rw[if_pos hc]at h; exact absurd h hc
theorem qrl (x:Val):∀ (lv n:Int) (d:Nat),(qy x lv n).1=0→33≤lv+d→Good d x:=by
 induction x using Val.ind with
 | h k m s items keys ih =>
  intro lv n d h hd
  rw[q8k]at h
  split at h
  ·simp at h
  ·rename_i h32
   split at h
   ·simp at h
   ·split at h
    ·rename_i h2; exact absurd h h2
    ·rename_i h3
     obtain ⟨e,rfl⟩:∃ e,d=e+1:=⟨d - 1,by omega⟩
     refine .mk (by simpa using h3) fun y hy=>?_
     obtain ⟨q,hq⟩:=qi5 _ _ _ h y hy
     exact ih y hy (lv+1) q e hq (by omega)
theorem q75 {x:Val} (h:q1y x=0):Good 32 x:=qrl x 1 0 32 h (by omega)
theorem q99 {x:Val} (h:q19 x=0):q3e x=true∧(x.kind=2→NumPlain.validB x.num=true)∧vtext x.str=0∧q1f none x.keys=0:=by
 unfold q19 at h
 split at h
 ·simp at h
 ·rename_i h1
  split at h
  ·simp at h
  ·rename_i h2
   split at h
   ·rename_i h3; exact absurd h h3
   ·rename_i h3
    refine ⟨by simpa using h1,fun hk=>?_,by simpa using h3,h⟩
    cases hv:NumPlain.validB x.num
    ·exact absurd ⟨hk,hv⟩ h2
    ·rfl
theorem qek:∀ (l:List ByteArray) (p:Option ByteArray),q1f p l=0→(∀ q,p=some q→∀ a ∈ l,Op.bytesLess q.toList a.toList=true)∧l.Pairwise fun a b=>Op.bytesLess a.toList b.toList=true
 | [],p,_=>⟨fun _ _ a ha=>absurd ha List.not_mem_nil,List.Pairwise.nil⟩
 | s::r,p,h=>by
  unfold q1f at h
  by_cases hv:vtext s=0
  ·rw[if_neg (by simp[hv])]at h
   have hr:q1f (some s) r=0∧∀ q,p=some q→Op.bytesLess q.toList s.toList=true:=by
    cases p with
    | none=>exact ⟨by simpa using h,fun q hq=>by cases hq⟩
    | some q =>
     cases hb:ltB q s with
     | true=>exact ⟨by simpa [hb] using h,fun q' hq=>by cases hq; exact hb⟩
     | false=>simp[hb]at h
   have ⟨i1,i2⟩:=qek r (some s) hr.1
   refine ⟨fun q hq a ha=>?_,List.pairwise_cons.2 ⟨i1 s rfl,i2⟩⟩
   rcases List.mem_cons.1 ha with rfl | ha
   ·exact hr.2 q hq
   ·exact qb9 (hr.2 q hq) (i1 s rfl a ha)
  ·rw[if_pos hv]at h; exact absurd h hv
theorem q7x {x:Val} (h:q3e x=true):0≤x.kind∧x.kind≤6∧(x.kind≠1→x.kind≠2→x.num=0)∧(x.kind=1→x.num=0∨x.num=1)∧(x.kind≠3→x.str=eS)∧(x.kind≠4→x.kind≠5→x.items=[])∧(x.kind=5→x.keys.length=x.items.length)∧(x.kind≠5→x.keys=[]):=by
 simp only[q3e,qd,Bool.and_eq_true,decide_eq_true_eq,qq,qu,qt,qr,Bool.or_eq_true,beq_iff_eq,bne_iff_ne,ne_eq]at h
 obtain ⟨⟨⟨⟨⟨h0,h1⟩,h2⟩,h3⟩,h4⟩,h5⟩:=h
 refine ⟨h0,h1,?_,?_,?_,?_,?_,?_⟩
 ·intro a b; rcases h2 with (q | q) | q
  ·exact absurd q b
  ·exact absurd q.1 a
  ·exact q
 ·intro a; rcases h2 with (q | q) | q
  ·omega
  ·exact q.2
  ·exact .inl q
 ·intro a; rcases h3 with q | q
  ·exact absurd q a
  ·have:x.str.toList=[]:=by simpa using q
   rw[ByteArray.toList_eq]at this
   exact ByteArray.ext (Array.toList_inj.1 this)
 ·intro a b; rcases h4 with (q | q) | q
  ·exact absurd q a
  ·exact absurd q b
  ·exact List.length_eq_zero_iff.1 (by omega)
 ·intro a; rcases h5 with q | q
  ·omega
  ·exact absurd a q.1
 ·intro a; rcases h5 with q | q
  ·exact absurd q.1 a
  ·exact List.length_eq_zero_iff.1 (by omega)
end Abs
end Go.Proofs.YtpidpioifnnllaaGreatDoor
namespace Go.Proofs.YtpidpioifnnllaaGreatDoor
namespace Abs
open Go.RowKit
theorem qwu {a b:Val} (h1:a.kind=b.kind) (h2:a.num=b.num) (h3:a.str=b.str) (h4:a.items=b.items) (h5:a.keys=b.keys):a=b:=by
 cases a; cases b; simp only[Val.kind,Val.num,Val.str,Val.items,Val.keys]at *; subst h1 h2 h3 h4 h5; rfl
theorem qky {α:Type} {a b:List α} (hl:a.length=b.length) (h:∀ i,i < a.length→a[i]?=b[i]?):a=b:=by
 apply List.ext_getElem?
 intro i
 rcases Nat.lt_or_ge i a.length with k | k
 ·exact h i k
 ·rw[List.getElem?_eq_none k,List.getElem?_eq_none (by omega)]
open Classical in
theorem qvn (a b:Val):tQ4x a b=gQ19 (fun a0 a1=>if relV a0 a then tQ4x a0 a1 else none) a b:=q42 a b
open Classical in
theorem qvo (a:Val):∀ b:Val,a.Fits→∃ q,tQ4x a b=some q∧(q=true ↔ a=b):=by
 induction a using wfV.induction with
 | h a ih =>
  intro b hf
  obtain ⟨f1,f2,f3,f4,f5,f6,f7⟩:=hf.parts
  rw[qvn]
  unfold gQ19
  by_cases h1:a.kind=b.kind
  case neg=>exact ⟨false,by simp[h1],by simp; intro e; subst e; exact h1 rfl⟩
  by_cases h2:a.num=b.num
  case neg=>exact ⟨false,by simp[h1,h2],by simp; intro e; subst e; exact h2 rfl⟩
  by_cases h3:a.str=b.str
  case neg=>exact ⟨false,by simp[h1,h2,h3],by simp; intro e; subst e; exact h3 rfl⟩
  by_cases h5:a.items.length=b.items.length
  case neg =>
   have h5':¬ (a.items.length:Int)=b.items.length:=by omega
   exact ⟨false,by simp[h1,h2,h3,h5'],by simp; intro e; subst e; exact h5 rfl⟩
  by_cases h4:a.keys.length=b.keys.length
  case neg =>
   have h4':¬ (a.keys.length:Int)=b.keys.length:=by omega
   exact ⟨false,by simp[h1,h2,h3,h5,h4'],by simp; intro e; subst e; exact h4 rfl⟩
  rw[decide_eq_true h1,decide_eq_true h2,decide_eq_true h3,decide_eq_true (show (a.items.length:Int)=b.items.length by omega),decide_eq_true (show (a.keys.length:Int)=b.keys.length by omega)]
  simp only[Bool.not_true,cond_false]
  have hn:=q5j f4 (by decide)
  have hm:=q5j f5 (by decide)
  have inner:∃ q,qf (gQ1b (fun a0 a1=>if relV a0 a then tQ4x a0 a1 else none) a b) 0=some (.inr q)∧(q=true ↔ ∀ i,i < a.items.length→a.items[i]?=b.items[i]?):=by
   have:=q6e (body:=gQ1b (fun a0 a1=>if relV a0 a then tQ4x a0 a1 else none) a b) (fun s=>∃ i:Nat,s=(i:Int)∧i≤a.items.length∧∀ j,j < i→a.items[j]?=b.items[j]?) (fun s=>a.items.length - s.toNat) (fun r=>∃ q,r=.inr q∧(q=true ↔ ∀ i,i < a.items.length→a.items[i]?=b.items[i]?)) (by
    rintro s ⟨i,rfl,hi,hp⟩
    rcases Nat.eq_or_lt_of_le hi with h0 | h0
    ·subst h0
     exact .inr ⟨.inr true,by simp only[gQ1b,decide_eq_false (show ¬ (a.items.length:Int) < a.items.length by omega),cond_false],true,rfl,by simpa using hp⟩
    ·have hxi:=List.getElem?_eq_getElem h0
     have hyi:=List.getElem?_eq_getElem (show i < b.items.length by omega)
     have hmem:a.items[i] ∈ a.items:=List.getElem_mem h0
     obtain ⟨q,hq,hiff⟩:=ih _ hmem b.items[i] (f7 _ hmem)
     have hrel:relV a.items[i] a:=hmem
     have hlt:decide ((i:Int) < a.items.length)=true:=decide_eq_true (by omega)
     cases q with
     | true =>
      refine .inl ⟨((i+1:Nat):Int),by simp only[gQ1b,hlt,cond_true,q1n,hxi,hyi,Option.bind_some,if_pos hrel,hq,Bool.not_true,cond_false,q37 h0 (show a.items.length≤9223372036854775807 by omega)],⟨i+1,rfl,h0,fun j hj=>?_⟩,by simp only[Int.toNat_natCast]; omega⟩
      rcases Nat.eq_or_lt_of_le (Nat.le_of_lt_succ hj) with rfl | hj
      ·rw[hxi,hyi,hiff.1 rfl]
      ·exact hp j hj
     | false =>
      refine .inr ⟨.inr false,by simp only[gQ1b,hlt,cond_true,q1n,hxi,hyi,Option.bind_some,if_pos hrel,hq,Bool.not_false],false,rfl,⟨fun h=>(by cases h),fun hall=>?_⟩⟩
      have he:=hall i h0
      rw[hxi,hyi]at he; simp at he
      have:=hiff.2 he; cases this) 0 ⟨0,rfl,Nat.zero_le _,fun j hj=>by omega⟩
   obtain ⟨r,h1,q,rfl,h2⟩:=this
   exact ⟨q,h1,h2⟩
  obtain ⟨q0,i1,i2⟩:=inner
  have:=q6e (body:=gQ1a (fun a0 a1=>if relV a0 a then tQ4x a0 a1 else none) a b) (fun s=>∃ i:Nat,s=(i:Int)∧i≤a.keys.length∧∀ j,j < i→a.keys[j]?=b.keys[j]?) (fun s=>a.keys.length - s.toNat) (fun q=>q=true ↔ a=b) (by
   rintro s ⟨i,rfl,hi,hp⟩
   rcases Nat.eq_or_lt_of_le hi with h0 | h0
   ·subst h0
    refine .inr ⟨q0,by simp only[gQ1a,decide_eq_false (show ¬ (a.keys.length:Int) < a.keys.length by omega),cond_false,i1],i2.trans ⟨fun hall=>?_,?_⟩⟩
    ·exact qwu h1 h2 h3 (qky h5 hall) (qky h4 hp)
    ·intro e i _; rw[e]
   ·have hxi:=List.getElem?_eq_getElem h0
    have hyi:=List.getElem?_eq_getElem (show i < b.keys.length by omega)
    have hlt:decide ((i:Int) < a.keys.length)=true:=decide_eq_true (by omega)
    by_cases he:a.keys[i]=b.keys[i]
    ·refine .inl ⟨((i+1:Nat):Int),by simp only[gQ1a,hlt,cond_true,q1n,hxi,hyi,Option.bind_some,decide_eq_true he,Bool.not_true,cond_false,q37 h0 (show a.keys.length≤9223372036854775807 by omega)],⟨i+1,rfl,h0,fun j hj=>?_⟩,by simp only[Int.toNat_natCast]; omega⟩
     rcases Nat.eq_or_lt_of_le (Nat.le_of_lt_succ hj) with rfl | hj
     ·rw[hxi,hyi,he]
     ·exact hp j hj
    ·refine .inr ⟨false,by simp only[gQ1a,hlt,cond_true,q1n,hxi,hyi,Option.bind_some,decide_eq_false he,Bool.not_false],⟨fun h=>(by cases h),fun e=>?_⟩⟩
     subst e; exact absurd rfl he) 0 ⟨0,rfl,Nat.zero_le _,fun j hj=>by omega⟩
  exact this
theorem q9i {x:Val} (h:x.Fits):tQ4x x x=some true:=by
 obtain ⟨q,h1,h2⟩:=qvo x x h
 rw[h1,h2.2 rfl]
end Abs
end Go.Proofs.YtpidpioifnnllaaGreatDoor
namespace Go.Proofs.YtpidpioifnnllaaGreatDoor
set_option linter.unusedSimpArgs false
set_option linter.unusedVariables false
open Go.RowKit Go.Lib
namespace Abs
def finV (ks:List ByteArray) (vs:List Val):Val:=q34 (q29 [] (ks.zip vs))
theorem qav:FinOk finV where
 fits ks vs hl hn hk hks hvs:=by
  obtain ⟨_,h2,h3⟩:=qax hl hk
  refine .mk (by decide) (by decide) q48 (by rw[List.length_map,h3]; omega) (by rw[List.length_map,h3]; omega) (fun t ht=>?_) (fun x hx=>?_)
  ·obtain ⟨p,hp,rfl⟩:=List.mem_map.1 ht
   have:=hks p.1 (List.of_mem_zip ((h2 p).1 hp)).1
   omega
  ·obtain ⟨p,hp,rfl⟩:=List.mem_map.1 hx
   exact hvs p.2 (List.of_mem_zip ((h2 p).1 hp)).2
 map ks vs hl hn hk hks hvs:=⟨0,qt2 ks vs hl hn hk hvs⟩
theorem qsi {a b:ByteArray} (h:a≠b):Op.bytesLess a.toList b.toList=!Op.bytesLess b.toList a.toList:=by
 rcases qeq a.toList b.toList with k | k | k
 ·rw[k,qep k]; rfl
 ·exact absurd (qd2 k) h
 ·rw[k,qep k]; rfl
theorem qv1 (L:List (ByteArray×Val)) (key:ByteArray) (x:Val) (hl:L.length≤100000) (hn:∀ q ∈ L,q.1≠key):gQ2r (q34 L) key x=some (q34 (insP (key,x) L)):=by
 unfold gQ2r
 have hk:(q34 L).keys=L.map (·.1):=rfl
 have hi:(q34 L).items=L.map (·.2):=rfl
 have:=qsv (body:=gQ2s (q34 L) key x) L (fun i (a:Bool×List Val×List ByteArray)=>(a.1,(i:Int),a.2.1,a.2.2)) (fun a r=>if a.1=true then Val.mk 5 0 eS (a.2.1++r.map (·.2)) (a.2.2++r.map (·.1)) else Val.mk 5 0 eS (a.2.1++(insP (key,x) r).map (·.2)) (a.2.2++(insP (key,x) r).map (·.1)))
  (fun a r=>a.2.1.length+r.length≤100002+a.1.toNat∧a.2.2.length+r.length≤100002+a.1.toNat) (s0:=(false,0,[],[])) (a:=(false,[],[])) rfl ⟨by simp; omega,by simp; omega⟩ (fun a qa=>?_) (fun i q r a hlt hx hd qa=>?_)
 ·rw[this]; simp[q34]
 ·obtain ⟨d,vs,ks⟩:=a
  have hd2:d.toNat≤1:=Bool.toNat_le d
  simp only[List.length_nil]at qa
  have a1:=q3u ks key (m:=16) (n:=200000) (by decide) (by have:=qa.2; omega) (by decide)
  have a2:=q3u vs x (m:=80) (n:=200000) (by decide) (by have:=qa.1; omega) (by decide)
  simp only[gQ2s,hk,List.length_map,decide_eq_false (show ¬ (L.length:Int) < L.length by omega),cond_false]
  cases d with
  | true=>simp
  | false=>simp[a1,a2,insP]
 ·obtain ⟨d,vs,ks⟩:=a
  have hd2:d.toNat≤1:=Bool.toNat_le d
  simp only[List.length_cons]at qa
  have hmem:=List.mem_of_getElem? hx
  have hne:¬ q.1=key:=hn q hmem
  have x1:idx (q34 L).keys (i:Int)=some q.1:=by rw[hk,q1n,List.getElem?_map,hx]; rfl
  have x2:idx (q34 L).items (i:Int)=some q.2:=by rw[hi,q1n,List.getElem?_map,hx]; rfl
  have w:=q37 hlt (show L.length≤9223372036854775807 by omega)
  have d1:decide ((i:Int) < ((q34 L).keys.length:Int))=true:=by rw[hk,List.length_map]; exact decide_eq_true (by omega)
  have hfl:=qsi (a:=key) (b:=q.1) (fun e=>hne e.symm)
  have a1:=q3u ks key (m:=16) (n:=200000) (by decide) (by have:=qa.2; omega) (by decide)
  have a2:=q3u vs x (m:=80) (n:=200000) (by decide) (by have:=qa.1; omega) (by decide)
  have a3:=q3u ks q.1 (m:=16) (n:=200000) (by decide) (by have:=qa.2; omega) (by decide)
  have a4:=q3u vs q.2 (m:=80) (n:=200000) (by decide) (by have:=qa.1; omega) (by decide)
  have a5:=q3u (ks++[key]) q.1 (m:=16) (n:=200000) (by decide) (by have:=qa.2; simp; omega) (by decide)
  have a6:=q3u (vs++[x]) q.2 (m:=80) (n:=200000) (by decide) (by have:=qa.1; simp; omega) (by decide)
  left
  cases d with
  | true =>
   refine ⟨(true,vs++[q.2],ks++[q.1]),⟨by simp at qa ⊢; omega,by simp at qa ⊢; omega⟩,?_,by simp⟩
   simp only[gQ2s,d1,cond_true,Bool.not_true,cond_false,x1,x2,Option.bind_some,a3,a4,w]
  | false =>
   cases hb:Op.bytesLess q.1.toList key.toList with
   | true =>
    rw[hb]at hfl
    refine ⟨(false,vs++[q.2],ks++[q.1]),⟨by simp at qa ⊢; omega,by simp at qa ⊢; omega⟩,?_,by simp[insP,hb]⟩
    simp only[gQ2s,d1,cond_true,Bool.not_true,cond_false,x1,x2,Option.bind_some,Bool.not_false,hfl,a3,a4,w]
   | false =>
    rw[hb]at hfl
    refine ⟨(true,vs++[x]++[q.2],ks++[key]++[q.1]),⟨by simp at qa ⊢; omega,by simp at qa ⊢; omega⟩,?_,by simp[insP,hb]⟩
    simp only[gQ2s,d1,cond_true,Bool.not_true,cond_false,x1,x2,Option.bind_some,Bool.not_false,hfl,a1,a2,a5,a6,w]
section
variable {s : ByteArray}
theorem q4f (hs:s.size≤99999):∀ l:List UInt8,l <:+ bL s→gQ2u s (ps s l)=some (ps s (qc l))
 | [],h=>by
  unfold gQ2u
  refine qs ?_
  unfold gQ2v
  rw[q52,cond_false]; rfl
 | c::r,h=>by
  have ue:=fun d:UInt8=>qx c d
  have hbl:isBl c=(decide (c=32) || (decide (c=9) || (decide (c=10) || decide (c=13)))):=by
   unfold isBl
   simp only[List.contains_cons,List.contains_nil,Bool.or_false]
   rfl
  rw[q1i]
  have go:∀ x:Bool,isBl c=x→gQ2v s (ps s (c::r))=if x=true then some (.inl (ps s r)) else some (.inr (ps s (c::r))):=fun x hx=>by
   unfold gQ2v
   simp only[q2v h,cond_true,q1k h,Option.bind_some,q24 h (by omega:s.size≤9223372036854775807)]
   rw[show decide (((c.toNat:Nat):Int)=32)=decide (c=32) from ue 32,show decide (((c.toNat:Nat):Int)=9)=decide (c=9) from ue 9,show decide (((c.toNat:Nat):Int)=10)=decide (c=10) from ue 10,show decide (((c.toNat:Nat):Int)=13)=decide (c=13) from ue 13,← hx,hbl]
   cases decide (c=32) <;> cases decide (c=9) <;> cases decide (c=10) <;> cases decide (c=13) <;> rfl
  unfold gQ2u
  by_cases hb:isBl c=true
  ·rw[if_pos hb,q1v ((go true hb).trans (if_pos rfl))]
   exact q4f hs r (q3r h)
  ·rw[if_neg hb,qs ((go false (Bool.eq_false_iff.2 hb)).trans (if_neg (by decide)))]
theorem qip (hs:s.size≤99999) (l:List UInt8) (h:l <:+ bL s) (e:UInt8):gQ1v s (ps s l) ((e.toNat:Nat):Int)=some (match qc l with | []=>false | c::_=>decide (c=e)):=by
 unfold gQ1v
 rw[q4f hs l h,Option.bind_some]
 have hb:=(q1j l).trans h
 cases hx:qc l with
 | nil=>rw[q52,cond_false]
 | cons c r =>
  rw[hx]at hb
  rw[q2v hb,cond_true,q1k hb,Option.bind_some,qx c e]
theorem qia (hs:s.size≤99999) (l:List UInt8) (h:l <:+ bL s) (e:UInt8) (he:e≠44):gQ1r s (ps s l) ((e.toNat:Nat):Int)=some (match q18 e l with
  | .inl p=>(false,ps s p.2,⟨p.1,ps s p.2,eS⟩)
  | .inr y=>(!y.1,ps s y.2,⟨0,0,eS⟩)):=by
 unfold gQ1r q18 gQ36
 rw[q4f hs l h,Option.bind_some]
 have hb:=(q1j l).trans h
 cases hx:qc l with
 | nil=>rw[q7q,cond_true]; rfl
 | cons c r =>
  rw[hx]at hb
  rw[q7r hb,cond_false,q1k hb,Option.bind_some,Option.bind_some,Option.bind_some,Option.bind_some,show decide (((c.toNat:Nat):Int)=44)=decide (c=44) from qx c 44,qx c e,q24 hb (by omega)]
  by_cases h1:c=44
  ·rw[decide_eq_true h1,Bool.not_true,cond_false,decide_eq_false (fun q=>he (q.symm.trans h1))]
   simp only
   rw[if_pos h1]; rfl
  ·rw[decide_eq_false h1,Bool.not_false,cond_true]
   simp only
   rw[if_neg h1]
   by_cases h2:c=e
   ·rw[decide_eq_true h2,if_pos h2]; rfl
   ·rw[decide_eq_false h2,if_neg h2]; rfl
theorem qs4 {ks ks':List ByteArray} (h:∀ x,hasK ks x=hasK ks' x) (l:List UInt8):keyS ks l=keyS ks' l:=by
 unfold keyS
 simp only[h]
def R9 {α β:Type} (s:ByteArray) (f:α→β) (x:PR α) (y:β×Int×DiagG):Prop:=match x with
 | .inl p=>p.1≠0∧y.2.2=⟨p.1,ps s p.2,eS⟩
 | .inr z=>y=(f z.1,ps s z.2,⟨0,0,eS⟩)
theorem qs7 (hs:s.size≤99999) (l:List UInt8) (h:l <:+ bL s) (m:Val) (hm:m.keys.length≤100000):∃ y,gQ20 s (ps s l) m=some y∧R9 s id (keyS m.keys l) y:=by
 unfold gQ20 keyS gQ36
 rw[q4f hs l h,Option.bind_some]
 have hb:=(q1j l).trans h
 cases hx:qc l with
 | nil=>rw[q7q,cond_true]; exact ⟨_,rfl,show (40:Int)≠0 by decide,rfl⟩
 | cons c r =>
  rw[hx]at hb
  rw[q7r hb,cond_false,q1k hb,Option.bind_some,show decide (((c.toNat:Nat):Int)=34)=decide (c=34) from qx c 34]
  simp only
  by_cases h1:c=34
  ·rw[decide_eq_true h1,Bool.not_true,cond_false,if_pos h1,qc2 hb,Option.bind_some]
   have hlen:=q1x hb
   obtain ⟨⟨b,k,e⟩,hq⟩:=qcb (c::r)
   obtain ⟨y,hy,hy1,hy2⟩:=qn3 (c::r) (by omega) hq
   rw[hy,Option.bind_some,hy1]
   have ht:q1d (c::r)=if e=0 then .inr (bS b,(c::r).drop k) else .inl (e,c::r):=by unfold q1d; rw[hq]
   rw[ht]
   by_cases he:e=0
   ·have:=hy2 he
    subst this
    obtain ⟨_,_,hk⟩:=q9t (he ▸ hq)
    rw[decide_eq_true he,Bool.not_true,cond_false,if_pos he]
    simp only
    have hl1:=qc8 hb k
    have hend:∃ y,gQ21 s m (ps s (c::r)) (bS b,(k:Int),0) (m.keys.length:Int)=some (.inr y)∧R9 s id (match qc ((c::r).drop k) with
      | []=>(.inl (40,[]):PR ByteArray)
      | c2::r2=>if c2=58 then .inr (bS b,r2) else .inl (2,c2::r2)) y:=by
     have hb1:=(q1j ((c::r).drop k)).trans hl1
     have hsk:gQ2u s (IntKind.i64.wrap (ps s (c::r)+(k:Int)))=some (ps s (qc ((c::r).drop k))):=by rw[q3d hb (by omega) hk]; exact q4f hs _ hl1
     unfold gQ21 gQ36
     rw[decide_eq_false (show ¬ (m.keys.length:Int) < (m.keys.length:Int) by omega),cond_false,hsk,Option.bind_some]
     cases h3:qc ((c::r).drop k) with
     | nil =>
      rw[q7q,cond_true]
      exact ⟨_,rfl,show (40:Int)≠0 by decide,rfl⟩
     | cons c2 r2 =>
      rw[h3]at hb1
      rw[q7r hb1,cond_false,q1k hb1,Option.bind_some,show decide (((c2.toNat:Nat):Int)=58)=decide (c2=58) from qx c2 58,q24 hb1 (by omega)]
      simp only
      by_cases hc2:c2=58
      ·rw[decide_eq_true hc2,Bool.not_true,cond_false,if_pos hc2]
       exact ⟨_,rfl,rfl⟩
      ·rw[decide_eq_false hc2,Bool.not_false,cond_true,if_neg hc2]
       exact ⟨_,rfl,show (2:Int)≠0 by decide,rfl⟩
    obtain ⟨ye,hye,hre⟩:=hend
    have hloop:∀ n i:Nat,m.keys.length - i=n→i≤m.keys.length→∃ y,qf (gQ21 s m (ps s (c::r)) (bS b,(k:Int),0)) (i:Int)=some y∧R9 s id (if hasK (m.keys.drop i) (bS b) then .inl (8,c::r) else match qc ((c::r).drop k) with
      | []=>(.inl (40,[]):PR ByteArray)
      | c2::r2=>if c2=58 then .inr (bS b,r2) else .inl (2,c2::r2)) y:=by
     intro n
     induction n with
     | zero =>
      intro i hn hi
      obtain rfl:i=m.keys.length:=by omega
      refine ⟨ye,qs hye,?_⟩
      rw[List.drop_length,if_neg (by simp[hasK])]
      exact hre
     | succ n ih =>
      intro i hn hi
      have hlt:i < m.keys.length:=by omega
      have hdr:=List.drop_eq_getElem_cons hlt
      have hidx:idx m.keys (i:Int)=some m.keys[i]:=by rw[q1n,List.getElem?_eq_getElem hlt]
      have hkk:hasK (m.keys.drop i) (bS b)=(decide (m.keys[i]=bS b) || hasK (m.keys.drop (i+1)) (bS b)):=by
       rw[hdr]; unfold hasK; rw[List.any_cons]
      rw[hkk]
      have hB:gQ21 s m (ps s (c::r)) (bS b,(k:Int),0) (i:Int)=if m.keys[i]=bS b then some (.inr (eS,ps s (c::r),⟨8,ps s (c::r),eS⟩)) else some (.inl ((i+1:Nat):Int)):=by
       unfold gQ21 gQ36
       rw[decide_eq_true (show (i:Int) < (m.keys.length:Int) by omega),cond_true,hidx,Option.bind_some,q37 hlt (by omega)]
       by_cases hq:m.keys[i]=bS b
       ·rw[if_pos hq,decide_eq_true hq]; rfl
       ·rw[if_neg hq,decide_eq_false hq]; rfl
      by_cases hq:m.keys[i]=bS b
      ·rw[if_pos hq]at hB
       rw[decide_eq_true hq,Bool.true_or,if_pos rfl]
       exact ⟨_,qs hB,show (8:Int)≠0 by decide,rfl⟩
      ·rw[if_neg hq]at hB
       rw[decide_eq_false hq,Bool.false_or,q1v hB]
       exact ih (i+1) (by omega) hlt
    have:=hloop _ 0 rfl (Nat.zero_le _)
    rw[List.drop_zero]at this
    exact this
   ·rw[decide_eq_false he,Bool.not_false,cond_true,if_neg he]
    exact ⟨_,rfl,he,rfl⟩
  ·rw[decide_eq_false h1,Bool.not_false,cond_true,if_neg h1]
   exact ⟨_,rfl,show (2:Int)≠0 by decide,rfl⟩
end
end Abs
end Go.Proofs.YtpidpioifnnllaaGreatDoor
namespace Go.Proofs.YtpidpioifnnllaaGreatDoor
set_option linter.unusedSimpArgs false
set_option linter.unusedVariables false
open Go.RowKit Go.Lib
namespace Abs
theorem qle {e:UInt8} {l:List UInt8} {p:Int×List UInt8} (h:q18 e l=.inl p):p.1≠0:=by
 unfold q18 at h
 cases hx:qc l with
 | nil=>rw[hx]at h; cases h; exact (by decide:(40:Int)≠0)
 | cons c r =>
  rw[hx]at h
  simp only at h
  split at h
  ·cases h
  split at h
  ·cases h
  ·cases h; exact (by decide:(2:Int)≠0)
section
variable {s : ByteArray} {rd : ByteArray → Int → Int → Option (Val × Int × DiagG)} {rec : List UInt8 → PR Val} {dep : Int}
theorem closed93 (hs:s.size≤99999) (l:List UInt8) (h:l <:+ bL s):gQ1r s (ps s l) 93=some (match q18 93 l with | .inl p=>(false,ps s p.2,⟨p.1,ps s p.2,eS⟩) | .inr y=>(!y.1,ps s y.2,⟨0,0,eS⟩)):=qia hs l h 93 (by decide)
theorem closed125 (hs:s.size≤99999) (l:List UInt8) (h:l <:+ bL s):gQ1r s (ps s l) 125=some (match q18 125 l with | .inl p=>(false,ps s p.2,⟨p.1,ps s p.2,eS⟩) | .inr y=>(!y.1,ps s y.2,⟨0,0,eS⟩)):=qia hs l h 125 (by decide)
theorem qku (hs:s.size≤99999) (hok:∀ l,Lg l→RP Val.Fits l (rec l)) (hrd:∀ l,l <:+ bL s→∃ y,rd s (ps s l) dep=some y∧R9 s id (rec l) y):∀ (f:Nat) (l:List UInt8) (acc:List Val),l <:+ bL s→l.length < f→acc.length+l.length≤99999 →
  ∃ y,qf (gQ2p rd s dep) (ps s l,acc)=some y∧R9 s id (q1r rec f l acc) y
 | 0,l,acc,_,h,_=>by omega
 | f+1,l,acc,hl,hlt,hn=>by
  have h1:=hok l (qba hs hl)
  obtain ⟨y,hy,hr⟩:=hrd l hl
  unfold q1r
  have hB:∀ z,(bif (!decide (y.2.2.kind=0)) then some (.inr ((Val.mk 0 0 eS [] []),y.2.1,y.2.2)) else (app 80 acc [y.1]).bind fun l6=>(gQ1r s y.2.1 93).bind fun y7=>bif (!decide (y7.2.2.kind=0)) then some (.inr ((Val.mk 4 0 eS l6 []),y7.2.1,y7.2.2)) else bif y7.1 then some (.inr ((Val.mk 4 0 eS l6 []),y7.2.1,y7.2.2)) else some (.inl (y7.2.1,l6)))=z→gQ2p rd s dep (ps s l,acc)=z:=fun z hz=>by
   unfold gQ2p
   rw[hy]; exact hz
  cases hx:rec l with
  | inl p =>
   rw[hx]at hr
   obtain ⟨q1,q2⟩:=hr
   rw[q2]at hB
   rw[decide_eq_false (show ¬ (DiagG.mk p.1 (ps s p.2) eS).kind=0 from q1),Bool.not_false,cond_true]at hB
   exact ⟨_,qs (hB _ rfl),q1,rfl⟩
  | inr z =>
   obtain ⟨v,l1⟩:=z
   rw[hx]at hr h1
   obtain ⟨hv,hl1⟩:=h1
   simp only at hv hl1
   have hyy:y=(v,ps s l1,⟨0,0,eS⟩):=hr
   subst hyy
   have hl1':=hl1.trans hl
   have happ:=qa9 (m:=80) acc v (by decide) (by omega) (by decide)
   simp only at hB ⊢
   rw[decide_true,Bool.not_true,cond_false,happ,Option.bind_some,closed93 hs l1 hl1',Option.bind_some]at hB
   have h2:=q7k 93 l1
   cases hm:q18 93 l1 with
   | inl p =>
    rw[hm]at hB
    have hp:=qle hm
    simp only at hB
    rw[decide_eq_false hp,Bool.not_false,cond_true]at hB
    exact ⟨_,qs (hB _ rfl),hp,rfl⟩
   | inr z =>
    obtain ⟨b,l2⟩:=z
    have hlt2:=q7j hm
    have hle:=hl1.length_le
    rw[hm]at hB h2
    have hl2:=h2.2.trans hl1'
    simp only at hB
    rw[decide_true,Bool.not_true,cond_false]at hB
    cases b with
    | true =>
     rw[q1v (hB _ rfl)]
     exact qku hs hok hrd f l2 _ hl2 (by omega) (by rw[List.length_append,List.length_singleton]; omega)
    | false=>exact ⟨_,qs (hB _ rfl),rfl⟩
theorem qsq (hs:s.size≤99999) (hok:∀ l,Lg l→RP Val.Fits l (rec l)) (hbl:∀ l,rec (qc l)=rec l) (hnil:∀ l,qc l=[]→rec l=.inl (40,[])) (hrd:∀ l,l <:+ bL s→∃ y,rd s (ps s l) dep=some y∧R9 s id (rec l) y) (l:List UInt8) (hl:l <:+ bL s) :
  ∃ y,gQ2o rd s (ps s l) dep=some y∧R9 s id (q3c rec l) y:=by
 unfold gQ2o q3c
 have he:gQ1v s (ps s l) 93=some (match qc l with | []=>false | c::_=>decide (c=93)):=qip hs l hl 93
 have hlen:=q1x hl
 have hloop:=qku hs hok hrd (l.length+1) l [] hl (by omega) (by rw[List.length_nil]; omega)
 have hsame:q1r rec (l.length+1) (qc l) []=q1r rec (l.length+1) l []:=by unfold q1r; rw[hbl]
 rw[he,Option.bind_some,q4f hs l hl]
 have hb:=(q1j l).trans hl
 cases h:qc l with
 | nil =>
  rw[h]at hsame
  simp only
  rw[cond_false]
  obtain ⟨y,hy,hr⟩:=hloop
  refine ⟨y,hy,?_⟩
  unfold q1r at hr
  rw[hnil l h]at hr
  exact hr
 | cons c r =>
  rw[h]at hb hsame
  simp only
  by_cases hc:c=93
  ·rw[decide_eq_true hc,cond_true,if_pos hc,Option.bind_some,q24 hb (by omega)]
   exact ⟨_,rfl,rfl⟩
  ·rw[decide_eq_false hc,cond_false,if_neg hc,hsame]
   exact hloop
theorem qei (ks:List ByteArray) (l:List UInt8):keyS ks (qc l)=keyS ks l:=by unfold keyS; rw[qhm]
theorem qs6 (ks:List ByteArray) {l:List UInt8} (h:qc l=[]):keyS ks l=.inl (40,[]):=by unfold keyS; rw[h]
theorem qj1 {ks:List ByteArray} {vs:List Val} (h:KV ks vs):(∀ x,hasK (finV ks vs).keys x=hasK ks x)∧(finV ks vs).keys.length=ks.length∧∀ k,hasK ks k=false→∀ q ∈ q29 [] (ks.zip vs),q.1≠k:=by
 obtain ⟨h1,h2,h3⟩:=qax h.len h.nodup
 have hk:(finV ks vs).keys=(q29 [] (ks.zip vs)).map (·.1):=rfl
 have hmem:∀ x,x ∈ (q29 [] (ks.zip vs)).map (·.1) ↔ x ∈ ks:=fun x=>by
  rw[List.mem_map]
  constructor
  ·rintro ⟨p,hp,rfl⟩; exact (List.of_mem_zip ((h2 p).1 hp)).1
  ·intro hx
   have:x ∈ (ks.zip vs).map (·.1):=by rw[List.map_fst_zip (by rw[h.len]; exact Nat.le_refl _)]; exact hx
   obtain ⟨p,hp,rfl⟩:=List.mem_map.1 this
   exact ⟨p,(h2 p).2 hp,rfl⟩
 refine ⟨fun x=>?_,by rw[hk,List.length_map,h3],fun k hno q hq e=>?_⟩
 ·rw[hk]
  have a:=q8x (ks:=(q29 [] (ks.zip vs)).map (·.1)) (k:=x)
  have b:=q8x (ks:=ks) (k:=x)
  cases h4:hasK ks x with
  | true=>exact a.2 ((hmem x).2 (b.1 h4))
  | false=>exact Bool.eq_false_iff.2 fun q=>by rw[b.2 ((hmem x).1 (a.1 q))]at h4; cases h4
 ·have:=q8x.2 ((hmem k).1 (List.mem_map.2 ⟨q,hq,e⟩))
  rw[hno]at this; cases this
theorem qr2 {ks:List ByteArray} {vs:List Val} (h:KV ks vs) (hl:ks.length≤99999) {k:ByteArray} (v:Val) (hno:hasK ks k=false):gQ2r (finV ks vs) k v=some (finV (ks++[k]) (vs++[v])):=by
 obtain ⟨_,_,h3⟩:=qax h.len h.nodup
 have:=qv1 (q29 [] (ks.zip vs)) k v (by omega) ((qj1 h).2.2 k hno)
 unfold finV
 rw[this,List.zip_append h.len,← qrc]
 rfl
theorem qno (hs:s.size≤99999) (hok:∀ l,Lg l→RP Val.Fits l (rec l)) (hrd:∀ l,l <:+ bL s→∃ y,rd s (ps s l) dep=some y∧R9 s id (rec l) y):∀ (f:Nat) (l:List UInt8) (ks:List ByteArray) (vs:List Val),l <:+ bL s→l.length < f→ks.length+l.length≤99999→KV ks vs →
  ∃ y,qf (gQ2y rd s dep) (5,0,eS,(finV ks vs).items,(finV ks vs).keys,ps s l)=some y∧R9 s id (mapF rec finV f l ks vs) y
 | 0,l,ks,vs,_,h,_,_=>by omega
 | f+1,l,ks,vs,hl,hlt,hn,hkv=>by
  obtain ⟨fk1,fk2,fk3⟩:=qj1 hkv
  obtain ⟨y4,hy4,hr4⟩:=qs7 hs l hl (finV ks vs) (by omega)
  rw[qs4 fk1]at hr4
  have h0:=qej ks l
  have hB:∀ z,(bif (!decide (y4.2.2.kind=0)) then some (.inr ((Val.mk 0 0 eS [] []),y4.2.1,y4.2.2)) else (rd s y4.2.1 dep).bind fun y6=>bif (!decide (y6.2.2.kind=0)) then some (.inr ((Val.mk 0 0 eS [] []),y6.2.1,y6.2.2)) else (gQ2r (finV ks vs) y4.1 y6.1).bind fun y8=>(gQ1r s y6.2.1 125).bind fun y9=>bif (!decide (y9.2.2.kind=0)) then some (.inr (y8,y9.2.1,y9.2.2)) else bif y9.1 then some (.inr (y8,y9.2.1,y9.2.2)) else some (.inl (y8.kind,y8.num,y8.str,y8.items,y8.keys,y9.2.1)))=z→gQ2y rd s dep (5,0,eS,(finV ks vs).items,(finV ks vs).keys,ps s l)=z:=fun z hz=>by
   unfold gQ2y
   show (gQ20 s (ps s l) (finV ks vs)).bind _=z
   rw[hy4]; exact hz
  unfold mapF
  cases hk:keyS ks l with
  | inl p =>
   rw[hk]at hr4
   obtain ⟨q1,q2⟩:=hr4
   rw[q2,decide_eq_false (show ¬ (DiagG.mk p.1 (ps s p.2) eS).kind=0 from q1),Bool.not_false,cond_true]at hB
   exact ⟨_,qs (hB _ rfl),q1,rfl⟩
  | inr y =>
   obtain ⟨k,l0⟩:=y
   rw[hk]at h0 hr4
   obtain ⟨⟨hk1,hk2⟩,hl0⟩:=h0
   simp only at hk1 hk2 hl0
   have hyy:y4=(k,ps s l0,⟨0,0,eS⟩):=hr4
   subst hyy
   have hl0':=hl0.trans hl
   obtain ⟨y6,hy6,hr6⟩:=hrd l0 hl0'
   have h1:=hok l0 (qba hs hl0')
   have hlen:=hkv.len
   simp only at hB ⊢
   rw[decide_true,Bool.not_true,cond_false,hy6,Option.bind_some]at hB
   cases hx:rec l0 with
   | inl p =>
    rw[hx]at hr6
    obtain ⟨q1,q2⟩:=hr6
    rw[q2,decide_eq_false (show ¬ (DiagG.mk p.1 (ps s p.2) eS).kind=0 from q1),Bool.not_false,cond_true]at hB
    exact ⟨_,qs (hB _ rfl),q1,rfl⟩
   | inr z =>
    obtain ⟨v,l1⟩:=z
    rw[hx]at h1 hr6
    obtain ⟨hv,hl1⟩:=h1
    simp only at hv hl1
    have hyy:y6=(v,ps s l1,⟨0,0,eS⟩):=hr6
    subst hyy
    have hl1':=hl1.trans hl0'
    have h2:=q7k 125 l1
    simp only at hB ⊢
    rw[decide_true,Bool.not_true,cond_false,qr2 hkv (by omega) v hk2,Option.bind_some,closed125 hs l1 hl1',Option.bind_some]at hB
    cases hm:q18 125 l1 with
    | inl p =>
     rw[hm]at hB
     have hp:=qle hm
     simp only at hB
     rw[decide_eq_false hp,Bool.not_false,cond_true]at hB
     exact ⟨_,qs (hB _ rfl),hp,rfl⟩
    | inr z =>
     obtain ⟨b,l2⟩:=z
     have hlt2:=q7j hm
     have hle:=(hl1.trans hl0).length_le
     rw[hm]at hB h2
     have hl2:=h2.2.trans hl1'
     have hkv':=hkv.snoc hk1 hk2 hv
     simp only at hB
     rw[decide_true,Bool.not_true,cond_false]at hB
     cases b with
     | true =>
      rw[q1v (hB _ rfl)]
      exact qno hs hok hrd f l2 _ _ hl2 (by omega) (by rw[List.length_append,List.length_singleton]; omega) hkv'
     | false=>exact ⟨_,qs (hB _ rfl),rfl⟩
theorem qw8 (hs:s.size≤99999) (hok:∀ l,Lg l→RP Val.Fits l (rec l)) (hrd:∀ l,l <:+ bL s→∃ y,rd s (ps s l) dep=some y∧R9 s id (rec l) y) (l:List UInt8) (hl:l <:+ bL s) :
  ∃ y,gQ2x rd s (ps s l) dep=some y∧R9 s id (mapS rec finV l) y:=by
 unfold gQ2x mapS
 have he:gQ1v s (ps s l) 125=some (match qc l with | []=>false | c::_=>decide (c=125)):=qip hs l hl 125
 have hlen:=q1x hl
 have hloop:=qno hs hok hrd (l.length+1) l [] [] hl (by omega) (by rw[List.length_nil]; omega) KV.nil
 have hsame:mapF rec finV (l.length+1) (qc l) [] []=mapF rec finV (l.length+1) l [] []:=by unfold mapF; rw[qei]
 rw[he,Option.bind_some,q4f hs l hl]
 have hb:=(q1j l).trans hl
 cases h:qc l with
 | nil =>
  rw[h]at hsame
  simp only
  rw[cond_false]
  obtain ⟨y,hy,hr⟩:=hloop
  refine ⟨y,hy,?_⟩
  unfold mapF at hr
  rw[qs6 [] h]at hr
  exact hr
 | cons c r =>
  rw[h]at hb hsame
  simp only
  by_cases hc:c=125
  ·rw[decide_eq_true hc,cond_true,if_pos hc,Option.bind_some,q24 hb (by omega)]
   exact ⟨_,rfl,rfl⟩
  ·rw[decide_eq_false hc,cond_false,if_neg hc,hsame]
   exact hloop
theorem qdp (c:UInt8):gQ1t ((c.toNat:Nat):Int)=some (digB c):=by
 unfold gQ1t
 rw[q8m]
 cases decide (((c.toNat:Nat):Int) ≥ 48) <;> rfl
theorem qih (hs:s.size≤99999) (c:UInt8):∀ (t a:List UInt8),c::(a++t) <:+ bL s →
  ∃ y,qf (gQ31 s (ps s (c::(a++t)))) (ps s t)=some y∧R9 s id (if (NumPlain.parseB (bS (c::(a++t.takeWhile digB)))).2=0 then .inr (.mk 2 (NumPlain.parseB (bS (c::(a++t.takeWhile digB)))).1 eS [] [],t.dropWhile digB) else .inl ((NumPlain.parseB (bS (c::(a++t.takeWhile digB)))).2,c::(a++t)):PR Val) y
 | t,a,h=>by
  have ht:t <:+ bL s:=(List.suffix_append a t).trans (q3r h)
  have hsl:sslc s (ps s (c::(a++t))) (ps s t)=some (bS (c::a)):=q9m (a:=c::a) (t:=t) h
  have hp:q31 (bS (c::a))=some (NumPlain.parseB (bS (c::a))):=by
   unfold q31
   refine q3y ?_
   have:=q1x h
   rw[q26]
   simp only[List.length_cons,List.length_append]at this ⊢
   omega
  have fin:∀ {x y:List UInt8},x=[]→y=t→∃ q,((sslc s (ps s (c::(a++t))) (ps s t)).bind fun x27=>(q31 x27).bind fun y28=>bif (!decide (y28.2=0)) then (gQ36 y28.2 (ps s (c::(a++t)))).bind fun y30=>some (.inr ((Val.mk 0 0 eS [] []),ps s (c::(a++t)),y30)) else some (.inr ((Val.mk 2 y28.1 eS [] []),ps s t,(DiagG.mk 0 0 eS))):Option (Int⊕(Val×Int×DiagG)))=some (.inr q)∧R9 s id (if (NumPlain.parseB (bS (c::(a++x)))).2=0 then .inr (.mk 2 (NumPlain.parseB (bS (c::(a++x)))).1 eS [] [],y) else .inl ((NumPlain.parseB (bS (c::(a++x)))).2,c::(a++t)):PR Val) q:=by
   rintro x y rfl rfl
   rw[List.append_nil,hsl,Option.bind_some,hp,Option.bind_some]
   by_cases he:(NumPlain.parseB (bS (c::a))).2=0
   ·rw[if_pos he,decide_eq_true he]; exact ⟨_,rfl,rfl⟩
   ·rw[if_neg he,decide_eq_false he]; exact ⟨_,rfl,he,rfl⟩
  cases t with
  | nil =>
   obtain ⟨q,hq,hr⟩:=fin (x:=[]) (y:=[]) rfl rfl
   refine ⟨q,qs ?_,hr⟩
   unfold gQ31
   rw[q52,cond_false]
   exact hq
  | cons d t =>
   by_cases hd:digB d=true
   ·rw[q1v (s':=ps s t) (by
     unfold gQ31
     rw[q2v ht,cond_true,q1k ht,Option.bind_some,qdp,hd,Option.bind_some,cond_true,q24 ht (by omega)])]
    have he:c::(a++d::t)=c::((a++[d])++t):=by simp
    rw[he]at h ⊢
    have:=qih hs c t (a++[d]) h
    rw[List.takeWhile_cons_of_pos hd,List.dropWhile_cons_of_pos hd]
    rw[List.append_assoc a [d] (t.takeWhile digB)]at this
    exact this
   ·have hx:(d::t).takeWhile digB=[]:=List.takeWhile_cons_of_neg hd
    have hy:(d::t).dropWhile digB=d::t:=List.dropWhile_cons_of_neg hd
    obtain ⟨q,hq,hr⟩:=fin hx hy
    refine ⟨q,qs ?_,hr⟩
    unfold gQ31
    rw[q2v ht,cond_true,q1k ht,Option.bind_some,qdp,Bool.eq_false_iff.2 hd,Option.bind_some,cond_false]
    exact hq
theorem qlr (hs:s.size≤99999) (c:UInt8) (r:List UInt8) (h:c::r <:+ bL s):∃ y,qf (gQ31 s (ps s (c::r))) (ps s r)=some y∧R9 s id (numS c r) y:=qih hs c r [] h
theorem qaf (hs:s.size≤99999) (l:List UInt8) (h:l <:+ bL s) (w:List UInt8):gQ1m s (ps s l) (bS w)=some (w.isPrefixOf l):=by
 have hlen:=q1x h
 unfold gQ1m
 rw[q26]
 have e1:IntKind.i64.wrap ((s.size:Int) - ps s l)=(l.length:Int):=by
  unfold ps; rw[q13 (by omega) (by omega)]; omega
 rw[e1]
 by_cases hw:w.length≤l.length
 ·rw[decide_eq_true (show (l.length:Int) ≥ (w.length:Int) by omega),cond_true,q3d h (by omega) hw]
  have hmid:sslc s (ps s l) (ps s (l.drop w.length))=some (bS (l.take w.length)):=by
   have:=q9m (s:=s) (a:=l.take w.length) (t:=l.drop w.length) (by rw[List.take_append_drop]; exact h)
   rwa [List.take_append_drop]at this
  rw[hmid,Option.bind_some,Option.some.injEq]
  have hiff:bS (l.take w.length)=bS w ↔ w.isPrefixOf l=true:=by
   rw[List.isPrefixOf_iff_prefix,List.prefix_iff_eq_take]
   constructor
   ·intro q
    have:=congrArg bL q
    rw[q4l,q4l]at this
    exact this.symm
   ·intro q; rw[← q]
  cases hq:w.isPrefixOf l with
  | true=>exact decide_eq_true (hiff.2 hq)
  | false=>exact decide_eq_false fun q=>by rw[hiff.1 q]at hq; cases hq
 ·rw[decide_eq_false (show ¬ (l.length:Int) ≥ (w.length:Int) by omega),cond_false,Option.some.injEq]
  cases hq:w.isPrefixOf l with
  | true=>exact absurd (List.isPrefixOf_iff_prefix.1 hq).length_le hw
  | false=>rfl
theorem qx7 (hs:s.size≤99999) (l:List UInt8) (h:l <:+ bL s):∃ y,gQ34 s (ps s l)=some y∧R9 s id (q20 l) y:=by
 unfold gQ34 q20 gQ36
 have b0:gQ1m s (ps s l) (⟨#[110,117,108,108]⟩:ByteArray)=_:=qaf hs l h [110,117,108,108]
 have b1:gQ1m s (ps s l) (⟨#[116,114,117,101]⟩:ByteArray)=_:=qaf hs l h [116,114,117,101]
 have b2:gQ1m s (ps s l) (⟨#[102,97,108,115,101]⟩:ByteArray)=_:=qaf hs l h [102,97,108,115,101]
 have b3:gQ1m s (ps s l) (⟨#[40,117,110,107,110,111,119,110,41]⟩:ByteArray)=_:=qaf hs l h [40,117,110,107,110,111,119,110,41]
 rw[b0,b1,b2,b3]
 simp only[Option.bind_some]
 have ad:∀ w:List UInt8,w.isPrefixOf l=true→IntKind.i64.wrap (ps s l+((w.length:Nat):Int))=ps s (l.drop w.length):=fun w hw=>q3d h (by omega) (qmc hw)
 by_cases h0:([110,117,108,108]:List UInt8).isPrefixOf l=true
 ·rw[if_pos h0,h0,cond_true]
  have:=ad _ h0
  exact ⟨_,rfl,by rw[show IntKind.i64.wrap (ps s l+4)=_ from this]; rfl⟩
 rw[if_neg h0,Bool.eq_false_iff.2 h0,cond_false]
 by_cases h1:([116,114,117,101]:List UInt8).isPrefixOf l=true
 ·rw[if_pos h1,h1,cond_true]
  have:=ad _ h1
  exact ⟨_,rfl,by rw[show IntKind.i64.wrap (ps s l+4)=_ from this]; rfl⟩
 rw[if_neg h1,Bool.eq_false_iff.2 h1,cond_false]
 by_cases h2:([102,97,108,115,101]:List UInt8).isPrefixOf l=true
 ·rw[if_pos h2,h2,cond_true]
  have:=ad _ h2
  exact ⟨_,rfl,by rw[show IntKind.i64.wrap (ps s l+5)=_ from this]; rfl⟩
 rw[if_neg h2,Bool.eq_false_iff.2 h2,cond_false]
 by_cases h3:([40,117,110,107,110,111,119,110,41]:List UInt8).isPrefixOf l=true
 ·rw[if_pos h3,h3,cond_true]
  have:=ad _ h3
  exact ⟨_,rfl,by rw[show IntKind.i64.wrap (ps s l+9)=_ from this]; rfl⟩
 rw[if_neg h3,Bool.eq_false_iff.2 h3,cond_false]
 exact ⟨_,rfl,show (2:Int)≠0 by decide,rfl⟩
theorem qwb (hs:s.size≤99999) (c:UInt8) (r:List UInt8) (h:c::r <:+ bL s):∃ y,((sslc s (ps s (c::r)) (s.size:Int)).bind fun x14=>(gQ0u x14).bind fun y15=>bif (!decide (y15.2.2=0)) then (gQ36 y15.2.2 (ps s (c::r))).bind fun y17=>some ((Val.mk 0 0 eS [] []),ps s (c::r),y17) else some ((Val.mk 3 0 y15.1 [] []),(IntKind.i64.wrap (ps s (c::r)+y15.2.1)),(DiagG.mk 0 0 eS)))=some y∧R9 s id (match q1d (c::r) with | .inl p=>.inl p | .inr (t,l1)=>.inr (.mk 3 0 t [] [],l1):PR Val) y:=by
 have hlen:=q1x h
 obtain ⟨⟨b,k,e⟩,hq⟩:=qcb (c::r)
 obtain ⟨y,hy,hy1,hy2⟩:=qn3 (c::r) (by omega) hq
 have ht:q1d (c::r)=if e=0 then .inr (bS b,(c::r).drop k) else .inl (e,c::r):=by unfold q1d; rw[hq]
 rw[qc2 h,Option.bind_some,hy,Option.bind_some,hy1,ht]
 unfold gQ36
 by_cases he:e=0
 ·have:=hy2 he
  subst this
  obtain ⟨_,_,hk⟩:=q9t (he ▸ hq)
  rw[decide_eq_true he,Bool.not_true,cond_false,if_pos he]
  simp only
  rw[q3d h (by omega) hk]
  exact ⟨_,rfl,rfl⟩
 ·rw[decide_eq_false he,Bool.not_false,cond_true,if_neg he]
  exact ⟨_,rfl,he,rfl⟩
theorem q4j (fin:List ByteArray→List Val→Val) (d:Nat) (l:List UInt8):qg fin d (qc l)=qg fin d l:=by
 cases d <;> (unfold qg; rw[qhm])
theorem qcf (fin:List ByteArray→List Val→Val) (d:Nat) (l:List UInt8) (h:qc l=[]):qg fin d l=.inl (40,[]):=by
 cases d <;> (unfold qg; rw[h])
open Classical in
theorem qo5 (s:ByteArray) (a dep:Int):tQ59 s a dep=gQ30 (gQ2x fun a0 a1 a2=>if relD a2 dep then tQ59 a0 a1 a2 else none) (gQ2o fun a0 a1 a2=>if relD a2 dep then tQ59 a0 a1 a2 else none) s a dep:=q42 dep (s,a)
theorem qnb (hs:s.size≤99999) (c:UInt8) (r:List UInt8) (h:c::r <:+ bL s) :
  ∃ y,(bif (decide (((c.toNat:Nat):Int)=34)) then (sslc s (ps s (c::r)) (s.size:Int)).bind fun x14=>(gQ0u x14).bind fun y15=>bif (!decide (y15.2.2=0)) then (gQ36 y15.2.2 (ps s (c::r))).bind fun y17=>some ((Val.mk 0 0 eS [] []),ps s (c::r),y17) else some ((Val.mk 3 0 y15.1 [] []),(IntKind.i64.wrap (ps s (c::r)+y15.2.1)),(DiagG.mk 0 0 eS)) else bif (decide (((c.toNat:Nat):Int)=45)) then qf (gQ31 s (ps s (c::r))) (IntKind.i64.wrap (ps s (c::r)+1)) else (gQ1t ((c.toNat:Nat):Int)).bind fun y31=>bif y31 then qf (gQ32 s (ps s (c::r))) (IntKind.i64.wrap (ps s (c::r)+1)) else (gQ34 s (ps s (c::r))).bind fun y45=>some (y45.1,y45.2.1,y45.2.2))=some y ∧
  R9 s id (if c=34 then (match q1d (c::r) with | .inl p=>.inl p | .inr (t,l1)=>.inr (.mk 3 0 t [] [],l1)) else if c=45∨digB c=true then numS c r else q20 (c::r):PR Val) y:=by
 rw[show decide (((c.toNat:Nat):Int)=34)=decide (c=34) from qx c 34,show decide (((c.toNat:Nat):Int)=45)=decide (c=45) from qx c 45,q24 h (by omega),qdp]
 have hL:gQ32 s (ps s (c::r))=gQ31 s (ps s (c::r)):=rfl
 rw[hL,Option.bind_some]
 by_cases h1:c=34
 ·rw[decide_eq_true h1,cond_true,if_pos h1]
  exact qwb hs c r h
 rw[decide_eq_false h1,cond_false,if_neg h1]
 by_cases h2:c=45
 ·rw[decide_eq_true h2,cond_true,if_pos (Or.inl h2)]
  exact qlr hs c r h
 rw[decide_eq_false h2,cond_false]
 by_cases h3:digB c=true
 ·rw[if_pos (Or.inr h3),h3,cond_true]
  exact qlr hs c r h
 ·rw[if_neg (fun q=>q.elim h2 h3),Bool.eq_false_iff.2 h3,cond_false]
  obtain ⟨y,hy,hr⟩:=qx7 hs _ h
  rw[hy,Option.bind_some]
  exact ⟨_,rfl,hr⟩
open Classical in
theorem qo6 (hs:s.size≤99999):∀ (d:Nat) (l:List UInt8),d≤32→l <:+ bL s→∃ y,tQ59 s (ps s l) (32 - (d:Int))=some y∧R9 s id (qg finV d l) y
 | 0,l,hd,hl=>by
  rw[qo5]
  unfold gQ30
  rw[q4f hs l hl,Option.bind_some]
  unfold qg
  have hb:=(q1j l).trans hl
  cases h:qc l with
  | nil=>rw[q7q,cond_true]; exact ⟨_,rfl,show (40:Int)≠0 by decide,rfl⟩
  | cons c r =>
   rw[h]at hb
   rw[q7r hb,cond_false,q1k hb,Option.bind_some,show decide (((c.toNat:Nat):Int)=91)=decide (c=91) from qx c 91,show decide (((c.toNat:Nat):Int)=123)=decide (c=123) from qx c 123]
   have e32:decide ((32:Int) - ((0:Nat):Int) ≥ 32)=true:=by decide
   rw[e32,cond_true]
   simp only
   by_cases h1:c=91
   ·rw[decide_eq_true h1,cond_true,if_pos (Or.inl h1)]
    exact ⟨_,rfl,show (4:Int)≠0 by decide,rfl⟩
   rw[decide_eq_false h1,cond_false]
   by_cases h2:c=123
   ·rw[decide_eq_true h2,cond_true,if_pos (Or.inr h2)]
    exact ⟨_,rfl,show (4:Int)≠0 by decide,rfl⟩
   rw[decide_eq_false h2,cond_false,if_neg (fun q=>q.elim h1 h2)]
   exact qnb hs c r hb
 | d+1,l,hd,hl=>by
  have hrec:∀ l',l' <:+ bL s→∃ y,(if relD (32 - (d:Int)) (32 - ((d+1:Nat):Int)) then tQ59 s (ps s l') (32 - (d:Int)) else none)=some y∧R9 s id (qg finV d l') y:=fun l' hl'=>by
   rw[if_pos ⟨by omega,by omega⟩]
   exact qo6 hs d l' (by omega) hl'
  rw[qo5]
  unfold gQ30
  rw[q4f hs l hl,Option.bind_some]
  unfold qg
  have hb:=(q1j l).trans hl
  cases h:qc l with
  | nil=>rw[q7q,cond_true]; exact ⟨_,rfl,show (40:Int)≠0 by decide,rfl⟩
  | cons c r =>
   rw[h]at hb
   have hr:=q3r hb
   rw[q7r hb,cond_false,q1k hb,Option.bind_some,show decide (((c.toNat:Nat):Int)=91)=decide (c=91) from qx c 91,show decide (((c.toNat:Nat):Int)=123)=decide (c=123) from qx c 123]
   have e32:decide ((32:Int) - ((d+1:Nat):Int) ≥ 32)=false:=decide_eq_false (by omega)
   have ew:IntKind.i64.wrap ((32:Int) - ((d+1:Nat):Int)+1)=32 - (d:Int):=by rw[q13 (by omega) (by omega)]; omega
   rw[e32,cond_false,cond_false,ew,q24 hb (by omega)]
   simp only
   by_cases h1:c=91
   ·rw[decide_eq_true h1,cond_true,if_pos h1]
    obtain ⟨y,hy,hr9⟩:=qsq (rd:=fun a0 a1 a2=>if relD a2 (32 - ((d+1:Nat):Int)) then tQ59 a0 a1 a2 else none) (dep:=32 - (d:Int)) hs (fun l hl=>q9u qav d l hl) (q4j finV d) (qcf finV d) hrec r hr
    rw[hy,Option.bind_some]
    exact ⟨_,rfl,hr9⟩
   rw[decide_eq_false h1,cond_false,if_neg h1]
   by_cases h2:c=123
   ·rw[decide_eq_true h2,cond_true,if_pos h2]
    obtain ⟨y,hy,hr9⟩:=qw8 (rd:=fun a0 a1 a2=>if relD a2 (32 - ((d+1:Nat):Int)) then tQ59 a0 a1 a2 else none) (dep:=32 - (d:Int)) hs (fun l hl=>q9u qav d l hl) hrec r hr
    rw[hy,Option.bind_some]
    exact ⟨_,rfl,hr9⟩
   rw[decide_eq_false h2,cond_false,if_neg h2]
   have hsimp:=qnb hs c r hb
   rw[q24 hb (by omega)]at hsimp
   exact hsimp
end
end Abs
end Go.Proofs.YtpidpioifnnllaaGreatDoor
namespace Go.Proofs.YtpidpioifnnllaaGreatDoor
set_option linter.unusedSimpArgs false
set_option linter.unusedVariables false
open Go.RowKit Go.Lib
namespace Abs
def q5c (s:ByteArray) (v:Val) (l1:List UInt8):Val×DiagG :=
 if qc l1=[] then (if q1y v=0 then (v,⟨0,0,eS⟩) else (vZ,⟨q1y v,0,eS⟩)) else (vZ,⟨2,ps s (qc l1),eS⟩)
def q2b (s:ByteArray):Val×DiagG :=
 if 65536 < s.size then (vZ,⟨3,0,eS⟩) else match qg finV 32 (bL s) with
  | .inl p=>(vZ,⟨p.1,ps s p.2,eS⟩)
  | .inr y=>q5c s y.1 y.2
section
variable {s : ByteArray}
theorem qvm (hs:s.size≤99999):tQ5c s 0 0=some (encR s id (qg finV 32 (bL s))):=by
 have:=qo9 qav hs 32 (bL s) (Nat.le_refl _) (List.suffix_refl _)
 rw[qfo]at this
 exact this
theorem qmp (hs:s.size≤99999):∃ y,tQ59 s 0 0=some y∧R9 s id (qg finV 32 (bL s)) y:=by
 have:=qo6 hs 32 (bL s) (Nat.le_refl _) (List.suffix_refl _)
 rw[qfo]at this
 exact this
theorem qgj (hs:s.size≤99999) {p:Int×List UInt8} (h:qg finV 32 (bL s)=.inl p):p.1≠0:=by
 obtain ⟨y,_,hr⟩:=qmp hs
 rw[h]at hr
 exact hr.1
theorem qc9 (hs:s.size≤99999):RP Val.Fits (bL s) (qg finV 32 (bL s)):=q9u qav 32 (bL s) (by unfold Lg; rw[q2c]; exact hs)
theorem q50 (s:ByteArray):gQ4j s=some (q2b s):=by
 unfold gQ4j q2b
 by_cases h1:65536 < s.size
 ·rw[decide_eq_true (show (s.size:Int) > 65536 by omega),cond_true,if_pos h1]
 rw[decide_eq_false (show ¬ (s.size:Int) > 65536 by omega),cond_false,if_neg h1]
 have hs:s.size≤99999:=by omega
 have hok:=qc9 hs
 unfold qbh
 rw[if_pos (by omega),qvm hs,Option.bind_some]
 cases hx:qg finV 32 (bL s) with
 | inl p =>
  have hp:=qgj hs hx
  simp only[encR,Option.bind_some]
  rw[decide_eq_false hp]; rfl
 | inr y =>
  obtain ⟨v,l1⟩:=y
  rw[hx]at hok
  obtain ⟨hv,hl1⟩:=hok
  simp only at hv hl1
  have hlen:=q1x hl1
  simp only[encR,id]
  rw[if_pos ⟨by unfold ps; omega,by unfold ps; omega⟩]
  have hdrop:(bL s).drop (ps s l1).toNat=l1:=by rw[q7s hl1,Int.toNat_natCast,q9p hl1]
  rw[hdrop]
  unfold q5c
  by_cases hb:qc l1=[]
  ·rw[if_pos hb,if_pos hb,Option.bind_some,decide_eq_true (show (v,(⟨0,0,eS⟩:DiagG)).2.kind=0 from rfl),Bool.not_true,cond_false]
   unfold q5m
   rw[q3y hv,Option.bind_some]
   by_cases hc:q1y v=0
   ·rw[if_pos hc,decide_eq_true hc]; rfl
   ·rw[if_neg hc,decide_eq_false hc]; rfl
  ·rw[if_neg hb,if_neg hb,Option.bind_some]
   rw[decide_eq_false (show ¬ (2:Int)=0 by decide)]; rfl
theorem qum (s:ByteArray):gQ1k s=some (q2b s):=by
 unfold gQ1k q2b gQ36
 by_cases h1:65536 < s.size
 ·rw[decide_eq_true (show (s.size:Int) > 65536 by omega),cond_true,if_pos h1]; rfl
 rw[decide_eq_false (show ¬ (s.size:Int) > 65536 by omega),cond_false,if_neg h1]
 have hs:s.size≤99999:=by omega
 have hok:=qc9 hs
 obtain ⟨y,hy,hr⟩:=qmp hs
 rw[hy,Option.bind_some]
 cases hx:qg finV 32 (bL s) with
 | inl p =>
  rw[hx]at hr
  obtain ⟨q1,q2⟩:=hr
  rw[q2,decide_eq_false (show ¬ (DiagG.mk p.1 (ps s p.2) eS).kind=0 from q1)]; rfl
 | inr z =>
  obtain ⟨v,l1⟩:=z
  rw[hx]at hok hr
  obtain ⟨hv,hl1⟩:=hok
  simp only at hv hl1
  have hyy:y=(v,ps s l1,⟨0,0,eS⟩):=hr
  subst hyy
  simp only
  rw[decide_true,Bool.not_true,cond_false,q4f hs l1 hl1,Option.bind_some]
  have hb1:=(q1j l1).trans hl1
  unfold q5c
  cases hb:qc l1 with
  | nil =>
   rw[q52,cond_false,if_pos rfl]
   unfold q5m
   rw[q3y hv,Option.bind_some]
   by_cases hc:q1y v=0
   ·rw[if_pos hc,decide_eq_true hc]; rfl
   ·rw[if_neg hc,decide_eq_false hc]; rfl
  | cons c r =>
   rw[hb]at hb1
   rw[q2v hb1,cond_true,if_neg (by simp)]; rfl
theorem qfh (s:ByteArray):(q2b s).1.Fits:=by
 have hz:vZ.Fits:=vfits (by decide) (by decide) q48
 unfold q2b
 split
 ·exact hz
 ·have hok:=qc9 (s:=s) (by omega)
  cases hx:qg finV 32 (bL s) with
  | inl p=>exact hz
  | inr y =>
   rw[hx]at hok
   simp only
   unfold q5c
   split
   ·split
    ·exact hok.1
    ·exact hz
   ·exact hz
end
end Abs
end Go.Proofs.YtpidpioifnnllaaGreatDoor
namespace Go.Proofs.YtpidpioifnnllaaGreatDoor
set_option linter.unusedSimpArgs false
set_option linter.unusedVariables false
open Go.RowKit Go.Lib
namespace Abs
set_option maxRecDepth 100000
abbrev hexC (c:Nat):List UInt8:=(hexI c).map (fun n=>UInt8.ofNat n.toNat)
theorem qjp (c:Nat):(hexC c).length≤2:=by
 unfold hexC hexI; rw[List.length_map]; split <;> simp
theorem qig:∀ c:Fin 256,sslc (⟨#[48,49,50,51,52,53,54,55,56,57,97,98,99,100,101,102]⟩:ByteArray) (((c.val:Nat):Int).tmod 16) (IntKind.i64.wrap ((((c.val:Nat):Int).tmod 16)+1))=some (bS [UInt8.ofNat (digN (c.val % 16)).toNat]):=by decide +kernel
open Classical in
theorem qij (c:Int):tQ4r c=gQ0x (fun a=>if relN a c then tQ4r a else none) c:=q42 c ()
theorem qii (c:Nat) (h:c < 16):tQ4r (c:Int)=some (bS (hexC c)):=by
 rw[qij]
 unfold gQ0x
 rw[qig ⟨c,by omega⟩,Option.bind_some,decide_eq_true (show (c:Int) < 16 by omega),cond_true]
 simp only
 rw[Nat.mod_eq_of_lt h]
 unfold hexC hexI
 rw[if_pos h]; rfl
open Classical in
theorem qqe (c:Nat) (h:16≤c) (h2:c < 256):tQ4r (c:Int)=some (bS (hexC c)):=by
 rw[qij]
 unfold gQ0x
 have e1:IntKind.i64.wrap ((c:Int).tdiv 16)=((c / 16:Nat):Int):=by
  rw[Int.tdiv_eq_ediv_of_nonneg (by omega),q13 (by omega) (by omega)]; omega
 rw[qig ⟨c,h2⟩,Option.bind_some,decide_eq_false (show ¬ (c:Int) < 16 by omega),cond_false,e1]
 show ((if relN ((c / 16:Nat):Int) (c:Int) then tQ4r ((c / 16:Nat):Int) else none).bind _)=_
 rw[if_pos ⟨by omega,by omega⟩,qii _ (by omega),Option.bind_some,q14 _ _ (by have:=qjp (c / 16); simp only[List.length_cons,List.length_nil]; omega)]
 unfold hexC hexI
 rw[if_pos (by omega),if_neg (by omega)]; rfl
theorem qqf (c:Nat) (h:c < 256):tQ4r (c:Int)=some (bS (hexC c)):=by
 rcases Nat.lt_or_ge c 16 with k | k
 ·exact qii c k
 ·exact qqe c k h
theorem qqy (c:UInt8):gQ0z ((c.toNat:Nat):Int)=some (bS (escB c)):=by
 have ue:=fun d:UInt8=>qx c d
 have hlt:=c.toNat_lt
 unfold gQ0z escB
 rw[show decide (((c.toNat:Nat):Int)=10)=decide (c=10) from ue 10,show decide (((c.toNat:Nat):Int)=13)=decide (c=13) from ue 13,show decide (((c.toNat:Nat):Int)=9)=decide (c=9) from ue 9,show decide (((c.toNat:Nat):Int)=34)=decide (c=34) from ue 34,show decide (((c.toNat:Nat):Int)=92)=decide (c=92) from ue 92,show decide (((c.toNat:Nat):Int)=127)=decide (c=127) from ue 127]
 by_cases h1:c=10
 ·rw[decide_eq_true h1,if_pos h1]; rfl
 rw[decide_eq_false h1,cond_false,if_neg h1]
 by_cases h2:c=13
 ·rw[decide_eq_true h2,if_pos h2]; rfl
 rw[decide_eq_false h2,cond_false,if_neg h2]
 by_cases h3:c=9
 ·rw[decide_eq_true h3,if_pos h3]; rfl
 rw[decide_eq_false h3,cond_false,if_neg h3]
 by_cases h4:c=34
 ·rw[decide_eq_true h4,if_pos (Or.inl h4),h4]; rfl
 rw[decide_eq_false h4,cond_false]
 by_cases h5:c=92
 ·rw[decide_eq_true h5,if_pos (Or.inr h5),h5]; rfl
 rw[decide_eq_false h5,cond_false,if_neg (fun q=>q.elim h4 h5)]
 have hw:IntKind.i64.wrap ((c.toNat:Nat):Int)=((c.toNat:Nat):Int):=q13 (by omega) (by omega)
 have hx:=qjp c.toNat
 have hesc:((tQ4r (IntKind.i64.wrap ((c.toNat:Nat):Int))).bind fun y7=>(cat (⟨#[92,117,123]⟩:ByteArray) y7).bind fun x8=>(cat x8 (⟨#[125]⟩:ByteArray)).bind fun x9=>some (x9))=some (bS ([92,117,123]++hexC c.toNat++[125])):=by
  rw[hw,qqf _ hlt,Option.bind_some,show cat (⟨#[92,117,123]⟩:ByteArray) (bS (hexC c.toNat))=some (bS ([92,117,123]++hexC c.toNat)) from q14 [92,117,123] _ (by simp only[List.length_cons,List.length_nil]; omega),Option.bind_some,show cat (bS ([92,117,123]++hexC c.toNat)) (⟨#[125]⟩:ByteArray)=some (bS ([92,117,123]++hexC c.toNat++[125])) from q14 _ [125] (by simp only[List.length_append,List.length_cons,List.length_nil]; omega)]
  rfl
 have hlt32:(c < 32) ↔ c.toNat < 32:=UInt8.lt_iff_toNat_lt
 by_cases h6:c < 32
 ·rw[decide_eq_true (show ((c.toNat:Nat):Int) < 32 by have:=hlt32.1 h6; omega),cond_true,if_pos (Or.inl h6)]
  exact hesc
 rw[decide_eq_false (show ¬ ((c.toNat:Nat):Int) < 32 by have:¬ c.toNat < 32:=fun q=>h6 (hlt32.2 q); omega),cond_false]
 by_cases h7:c=127
 ·rw[decide_eq_true h7,cond_true,if_pos (Or.inr h7)]
  exact hesc
 rw[decide_eq_false h7,cond_false,if_neg (fun q=>q.elim h6 h7)]
 unfold bstr
 rw[if_pos (by simp; omega)]
 simp[bS]
theorem qv4 (s:ByteArray) (hs:s.size≤1000000):gQ0r s=some (bS (q12 (bL s))):=by
 have hloop:∀ (l acc:List UInt8),l <:+ bL s→acc.length+6*l.length≤9000000→qf (gQ0s s) (bS acc,ps s l)=some (bS (acc++l.flatMap escB++[34])):=by
  intro l
  induction l with
  | nil =>
   intro acc hl hn
   refine qs ?_
   unfold gQ0s
   rw[q52,cond_false,show cat (bS acc) (⟨#[34]⟩:ByteArray)=some (bS (acc++[34])) from q14 acc [34] (by simp only[List.length_cons,List.length_nil]; omega)]
   simp
  | cons c r ih =>
   intro acc hl hn
   have he:=qix c
   simp only[List.length_cons]at hn
   rw[q1v (s':=(bS (acc++escB c),ps s r)) (by
    unfold gQ0s
    rw[q2v hl,cond_true,q1k hl,Option.bind_some,qqy,Option.bind_some,q14 _ _ (by omega),Option.bind_some,q24 hl (by omega)])]
   rw[ih _ (q3r hl) (by rw[List.length_append]; omega),List.flatMap_cons]
   simp only[List.append_assoc]
 unfold gQ0r
 have:=hloop (bL s) [34] (List.suffix_refl _) (by rw[q2c]; simp only[List.length_cons,List.length_nil]; omega)
 rw[qfo]at this
 refine (show qf (gQ0s s) (bS [34],0)=_ from this).trans ?_
 rfl
open Classical in
theorem qqb (x:Val):x.Fits→∃ d,tQ4u x=some d:=by
 induction x using wfV.induction with
 | h x ih =>
  intro hf
  obtain ⟨f1,f2,f3,f4,f5,f6,f7⟩:=hf.parts
  have hn:=q5j f4 (by decide)
  have e:tQ4u x=gQ16 (fun a0=>if relV a0 x then tQ4u a0 else none) x:=q42 x ()
  rw[e]
  unfold gQ16
  obtain ⟨q,h1,_⟩:=q6e (body:=gQ17 (fun a0=>if relV a0 x then tQ4u a0 else none) x) (fun s=>∃ i:Nat,s.2=(i:Int)∧i≤x.items.length) (fun s=>x.items.length - s.2.toNat) (fun _=>True) (by
   rintro ⟨m,j⟩ ⟨i,rfl,hi⟩
   rcases Nat.eq_or_lt_of_le hi with h0 | h0
   ·exact .inr ⟨IntKind.i64.wrap (m+1),by simp only[gQ17,decide_eq_false (show ¬ (i:Int) < x.items.length by omega),cond_false],trivial⟩
   ·have hm:x.items[i] ∈ x.items:=List.getElem_mem h0
    obtain ⟨d,hd⟩:=ih _ hm (f7 _ hm)
    have hrel:relV x.items[i] x:=hm
    exact .inl ⟨((if d > m then d else m),((i+1:Nat):Int)),by simp only[gQ17,decide_eq_true (show (i:Int) < x.items.length by omega),cond_true,q1n,List.getElem?_eq_getElem h0,Option.bind_some,if_pos hrel,hd,q37 h0 (show x.items.length≤9223372036854775807 by omega)],⟨i+1,rfl,h0⟩,by simp only[Int.toNat_natCast]; omega⟩) (0,0) ⟨0,rfl,Nat.zero_le _⟩
  exact ⟨q,h1⟩
open Classical in
theorem qtd (x:Val):x.Fits→∃ d,tQ50 x=some d:=by
 induction x using wfV.induction with
 | h x ih =>
  intro hf
  obtain ⟨f1,f2,f3,f4,f5,f6,f7⟩:=hf.parts
  have hn:=q5j f4 (by decide)
  have e:tQ50 x=gQ1d (fun a0=>if relV a0 x then tQ50 a0 else none) x:=q42 x ()
  rw[e]
  unfold gQ1d
  obtain ⟨q,h1,_⟩:=q6e (body:=gQ1e (fun a0=>if relV a0 x then tQ50 a0 else none) x) (fun s=>∃ i:Nat,s.2=(i:Int)∧i≤x.items.length) (fun s=>x.items.length - s.2.toNat) (fun _=>True) (by
   rintro ⟨m,j⟩ ⟨i,rfl,hi⟩
   rcases Nat.eq_or_lt_of_le hi with h0 | h0
   ·exact .inr ⟨m,by simp only[gQ1e,decide_eq_false (show ¬ (i:Int) < x.items.length by omega),cond_false],trivial⟩
   ·have hm:x.items[i] ∈ x.items:=List.getElem_mem h0
    obtain ⟨d,hd⟩:=ih _ hm (f7 _ hm)
    have hrel:relV x.items[i] x:=hm
    exact .inl ⟨(IntKind.i64.wrap (m+d),((i+1:Nat):Int)),by simp only[gQ1e,decide_eq_true (show (i:Int) < x.items.length by omega),cond_true,q1n,List.getElem?_eq_getElem h0,Option.bind_some,if_pos hrel,hd,q37 h0 (show x.items.length≤9223372036854775807 by omega)],⟨i+1,rfl,h0⟩,by simp only[Int.toNat_natCast]; omega⟩) (1,0) ⟨0,rfl,Nat.zero_le _⟩
  exact ⟨q,h1⟩
theorem qdw (v:Val) (hf:v.Fits):∃ b,gQ0g v=some b∧(b=true→q1y v=0):=by
 obtain ⟨d,hd⟩:=qqb v hf
 obtain ⟨n,hn⟩:=qtd v hf
 unfold gQ0g q5m
 rw[hd,hn,q3y hf]
 simp only[Option.bind_some]
 cases decide (d≤32) with
 | false=>exact ⟨false,rfl,fun h=>by cases h⟩
 | true =>
  cases decide (n≤200) with
  | false=>exact ⟨false,rfl,fun h=>by cases h⟩
  | true=>exact ⟨_,rfl,fun h=>of_decide_eq_true h⟩
theorem qgd {s:ByteArray} (h:vtext s=0):s.size≤4096:=by
 unfold vtext at h
 split at h
 ·cases h
 ·omega
theorem qk8:∀ (l:List ByteArray) (p:Option ByteArray),q1f p l=0→∀ k ∈ l,k.size≤4096
 | [],_,_,k,hk=>absurd hk List.not_mem_nil
 | s::r,p,h,k,hk=>by
  unfold q1f at h
  by_cases hv:vtext s=0
  ·rw[if_neg (by simp[hv])]at h
   have hr:q1f (some s) r=0:=by
    cases p with
    | none=>simpa using h
    | some q =>
     cases hb:ltB q s with
     | true=>simpa [hb] using h
     | false=>simp[hb]at h
   rcases List.mem_cons.1 hk with rfl | hk
   ·exact qgd hv
   ·exact qk8 r (some s) hr k hk
  ·rw[if_pos hv]at h; exact absurd h hv
theorem q68 {x:Val} {d:Nat} (h:Good d x):x.str.size≤4096∧∀ k ∈ x.keys,k.size≤4096:=by
 obtain ⟨_,_,h3,h4⟩:=q99 h.node
 exact ⟨qgd h3,qk8 _ _ h4⟩
theorem qe5:∀ (d:Nat) (x:Val),Good d x→OkS x
 | 0,x,h=>by cases h
 | d+1,x,h=>by
  obtain ⟨h1,h2⟩:=q68 h
  obtain ⟨e,he,hi⟩:=h.item
  obtain ⟨k,n,s,items,keys⟩:=x
  obtain rfl:d=e:=by omega
  exact .mk (by simp only[Val.str]at h1; omega) (fun y hy=>by have:=h2 y hy; omega) (fun y hy=>qe5 d y (hi y hy))
mutual
theorem qi7:∀ (x:Val) (lv n:Int),0≤n→n≤4096→(qy x lv n).1=0→(qy x lv n).2=n+q2a x
 | .mk k m s items keys,lv,n,h0,h1,h=>by
  have hb:=qdi items (lv+1) (n+1)
  rw[q8k]at h ⊢
  simp only[q2a]
  split at h
  ·cases h
  split at h
  ·cases h
  split at h
  ·rename_i q; exact absurd h q
  ·rename_i a b c
   rw[if_neg a,if_neg b,if_neg c]
   have:=qi6 items (lv+1) (n+1) (by omega) (by omega) h
   simp only[Val.items]
   rw[this]; omega
theorem qi6:∀ (l:List Val) (lv n:Int),0≤n→n≤4096→(q1e l lv n).1=0→(q1e l lv n).2=n+q1g l
 | [],lv,n,_,_,_=>by simp[q1e,q1g]
 | x::r,lv,n,h0,h1,h=>by
  have hb:=q8j x lv n h0 h1
  simp only[q1e]at h ⊢
  split at h
  ·rename_i q; exact absurd h q
  ·rename_i q
   have q:(qy x lv n).1=0:=Decidable.not_not.1 q
   rw[if_neg (by rw[q]; decide)]
   have e:=qi7 x lv n h0 h1 q
   have:=qi6 r lv (qy x lv n).2 (by omega) (by omega) h
   rw[this,e]
   simp only[q1g]
   omega
end
theorem qdj {x:Val} (h:q1y x=0):q2a x≤4096:=by
 have h1:=qi7 x 1 0 (by decide) (by decide) h
 have h2:=(q8j x 1 0 (by decide) (by decide)).2
 omega
end Abs
end Go.Proofs.YtpidpioifnnllaaGreatDoor
namespace Go.Proofs.YtpidpioifnnllaaGreatDoor
set_option linter.unusedSimpArgs false
set_option linter.unusedVariables false
open Go.RowKit Go.Lib
namespace Abs
theorem qfs {s:ByteArray} (h:s.size≤4096):(q12 (bL s)).length≤24578:=by
 have:=qmk (bL s)
 rw[q2c]at this
 omega
theorem qfz {x:Val} {d:Nat} (hg:Good d x) (hf:x.Fits):(q25 x).length≤24578:=by
 have h1:=qfs (q68 hg).1
 have h2:=itoa_len' x.num hf.parts.2.1.1 (by have:=hf.parts.2.1.2; omega)
 unfold q25
 repeat' split
 all_goals first | exact h1 | omega | (simp only[List.length_cons,List.length_nil]; omega)
theorem q93 {k:Int} {keys:List ByteArray} (h:∀ x ∈ keys,x.size≤4096) (i:Nat):(qj k keys i).length≤24580:=by
 unfold qj
 split
 ·split
  ·rename_i q hq
   have:=qfs (h q (List.mem_of_getElem? hq))
   rw[List.length_append]; simp only[List.length_cons,List.length_nil]; omega
  ·simp
 ·simp
theorem qm0 (x:Val):(q1h x).length=1:=by unfold q1h; split <;> rfl
theorem qds (x:Val):(endS x).length=1:=by unfold endS; split <;> rfl
mutual
theorem qja:∀ (x:Val) (d:Nat),Good d x→x.Fits→(fmtV x).length+30000≤90000*q2a x
 | .mk k n s items keys,d,hg,hf=>by
  have h1:=qfz hg hf
  obtain ⟨e,_,hi⟩:=hg.item
  have hl:=qj8 items k keys 0 e (q68 hg).2 (fun y hy=>⟨hi y hy,hf.parts.2.2.2.2.2.2 y hy⟩)
  have ho:=qm0 (.mk k n s items keys)
  have he:=qds (.mk k n s items keys)
  rw[q5e]
  by_cases hnil:(Val.mk k n s items keys).items=[]
  ·rw[if_pos hnil]; simp only[q2a]; omega
  ·rw[if_neg hnil,List.length_append,List.length_append]
   simp only[q2a,Val.items,Val.kind,Val.keys]
   omega
theorem qj8:∀ (l:List Val) (k:Int) (keys:List ByteArray) (i d:Nat),(∀ x ∈ keys,x.size≤4096)→(∀ y ∈ l,Good d y∧y.Fits)→(fmtL k keys i l).length≤90000*q1g l
 | [],k,keys,i,d,_,_=>by simp[fmtL]
 | x::r,k,keys,i,d,hk,h=>by
  have h1:=qja x d (h x List.mem_cons_self).1 (h x List.mem_cons_self).2
  have h2:=qj8 r k keys (i+1) d hk (fun y hy=>h y (List.mem_cons_of_mem _ hy))
  have h3:=q93 (k:=k) hk i
  simp only[fmtL,q1g,List.length_append,List.length_cons]
  have h4:(if i=0 then ([]:List UInt8) else [44,32]).length≤2:=by split <;> simp
  omega
end
theorem qj9 {x:Val} (hf:x.Fits) (h:q1y x=0):(fmtV x).length≤400000000:=by
 have h1:=qja x 32 (q75 h) hf
 have h2:=qdj h
 omega
theorem qgl {x:Val} (hf:x.Fits) (h:q1y x=0):q5o x=some (bS (fmtV x)):=by
 unfold q5o
 exact if_pos ⟨hf,qe5 32 x (q75 h),Nat.le_trans (qj9 hf h) (by decide)⟩
open Classical in
theorem qrd (x:Val) (d:Int):tQ53 x d=gQ1x (fun a0 a1=>if relV a0 x then tQ53 a0 a1 else none) x d:=q42 x d
theorem quote9 {s:ByteArray} (h:s.size≤4096):gQ0r s=some (bS (q12 (bL s))):=qv4 s (by omega)
open Classical in
theorem qjc (x:Val):∀ (e d:Nat),Good e x→x.Fits→e+d≤32→(fmtV x).length≤400000000→tQ53 x (d:Int)=some (bS (fmtV x)):=by
 induction x using wfV.induction with
 | h x ih =>
  intro e d hg hf hd hlen
  obtain ⟨f1,f2,f3,f4,f5,f6,f7⟩:=hf.parts
  have hn:=q5j f4 (by decide)
  obtain ⟨hsh,_,_,_⟩:=q99 hg.node
  obtain ⟨k0,k6,_,_,_,kit,kk5,kno⟩:=q7x hsh
  obtain ⟨hs1,hs2⟩:=q68 hg
  obtain ⟨e',he',hit⟩:=hg.item
  rw[qrd,q5e]
  rw[q5e]at hlen
  unfold gQ1x
  by_cases c0:x.kind=0
  ·rw[decide_eq_true c0,cond_true,if_pos (kit (by omega) (by omega))]
   unfold q25
   rw[if_neg (by omega),if_neg (by omega),if_neg (by omega),if_neg (by omega),if_neg (by omega),if_neg (by omega)]; rfl
  rw[decide_eq_false c0,cond_false]
  by_cases c1:x.kind=1
  ·rw[decide_eq_true c1,cond_true,if_pos (kit (by omega) (by omega))]
   unfold q25
   rw[if_pos c1]
   by_cases c:x.num=1
   ·rw[decide_eq_true c,if_pos c]; rfl
   ·rw[decide_eq_false c,if_neg c]; rfl
  rw[decide_eq_false c1,cond_false]
  by_cases c2:x.kind=2
  ·rw[decide_eq_true c2,cond_true,if_pos (kit (by omega) (by omega))]
   unfold q25 q7g
   rw[if_neg c1,if_pos c2,q3y f2]; rfl
  rw[decide_eq_false c2,cond_false]
  by_cases c3:x.kind=3
  ·rw[decide_eq_true c3,cond_true,if_pos (kit (by omega) (by omega)),quote9 hs1]
   unfold q25
   rw[if_neg c1,if_neg c2,if_pos c3]; rfl
  rw[decide_eq_false c3,cond_false]
  by_cases c6:x.kind=6
  ·rw[decide_eq_true c6,cond_true,if_pos (kit (by omega) (by omega))]
   unfold q25
   rw[if_neg c1,if_neg c2,if_neg c3,if_neg (by omega),if_neg (by omega),if_pos c6]; rfl
  rw[decide_eq_false c6,cond_false,decide_eq_false (show ¬ (d:Int) > 32 by omega),cond_false]
  -- the loop
  have hlab:∀ i:Nat,(qj x.kind x.keys i).length≤24580:=fun i=>q93 hs2 i
  have hloop:∀ (l:List Val) (i:Nat) (acc:List UInt8),x.items.drop i=l→i≤x.items.length→acc.length+(fmtL x.kind x.keys i l).length≤400000000 →
    qf (gQ1y (fun a0 a1=>if relV a0 x then tQ53 a0 a1 else none) x (d:Int)) (bS acc,(i:Int))=some (bS (if x.kind=4 then [91]++(acc++fmtL x.kind x.keys i l)++[93] else [123]++(acc++fmtL x.kind x.keys i l)++[125])):=by
   intro l
   induction l with
   | nil =>
    intro i acc hdr hi hac
    have hi2:i=x.items.length:=by
     have:=congrArg List.length hdr
     rw[List.length_drop]at this; simp at this; omega
    refine qs ?_
    unfold gQ1y
    simp only[fmtL,List.append_nil,List.length_nil]at hac ⊢
    rw[decide_eq_false (show ¬ (i:Int) < (x.items.length:Int) by omega),cond_false]
    by_cases c4:x.kind=4
    ·rw[decide_eq_true c4,cond_true,if_pos c4,show cat (⟨#[91]⟩:ByteArray) (bS acc)=some (bS ([91]++acc)) from q14 [91] acc (by simp only[List.length_cons,List.length_nil]; omega),Option.bind_some,show cat (bS ([91]++acc)) (⟨#[93]⟩:ByteArray)=some (bS ([91]++acc++[93])) from q14 _ [93] (by simp only[List.length_append,List.length_cons,List.length_nil]; omega)]; rfl
    ·rw[decide_eq_false c4,cond_false,if_neg c4,show cat (⟨#[123]⟩:ByteArray) (bS acc)=some (bS ([123]++acc)) from q14 [123] acc (by simp only[List.length_cons,List.length_nil]; omega),Option.bind_some,show cat (bS ([123]++acc)) (⟨#[125]⟩:ByteArray)=some (bS ([123]++acc++[125])) from q14 _ [125] (by simp only[List.length_append,List.length_cons,List.length_nil]; omega)]; rfl
   | cons y r ihl =>
    intro i acc hdr hi hac
    obtain ⟨hlt,hget,hdr2⟩:=q3l hdr
    have hy:y ∈ x.items:=List.mem_of_getElem? hget
    simp only[fmtL,List.length_append]at hac
    have hrec:(if relV y x then tQ53 y (((d+1:Nat):Int)) else none)=some (bS (fmtV y)):=by
     rw[if_pos (show relV y x from hy)]
     exact ih y hy e' (d+1) (hit y hy) (f7 y hy) (by omega) (by omega)
    have hwd:IntKind.i64.wrap ((d:Int)+1)=((d+1:Nat):Int):=by rw[q13 (by omega) (by omega)]; omega
    have hx:idx x.items (i:Int)=some y:=by rw[q1n]; exact hget
    have c45:x.kind=4∨x.kind=5:=by
     rcases Decidable.em (x.kind=4) with q | q
     ·exact .inl q
     ·rcases Decidable.em (x.kind=5) with q5 | q5
      ·exact .inr q5
      ·have:=kit q q5; rw[this]at hlt; simp at hlt
    -- what comes behind the separator
    have htail:∀ a:List UInt8,a.length+(qj x.kind x.keys i).length+(fmtV y).length≤400000000 →
      (bif (decide (x.kind=5)) then bif (decide ((i:Int) < (x.keys.length:Int))) then (idx x.keys (i:Int)).bind fun x15=>(gQ0r x15).bind fun y16=>(cat (bS a) y16).bind fun x17=>(cat x17 (⟨#[58,32]⟩:ByteArray)).bind fun x18=>(idx x.items (i:Int)).bind fun x19=>(if relV x19 x then tQ53 x19 (IntKind.i64.wrap ((d:Int)+1)) else none).bind fun y20=>(cat x18 y20).bind fun x21=>some (.inl (x21,(IntKind.i64.wrap ((i:Int)+1)))) else (idx x.items (i:Int)).bind fun x22=>(if relV x22 x then tQ53 x22 (IntKind.i64.wrap ((d:Int)+1)) else none).bind fun y23=>(cat (bS a) y23).bind fun x24=>some (.inl (x24,(IntKind.i64.wrap ((i:Int)+1)))) else (idx x.items (i:Int)).bind fun x25=>(if relV x25 x then tQ53 x25 (IntKind.i64.wrap ((d:Int)+1)) else none).bind fun y26=>(cat (bS a) y26).bind fun x27=>some (.inl (x27,(IntKind.i64.wrap ((i:Int)+1)))):Option ((ByteArray×Int)⊕ByteArray))=some (.inl (bS (a++qj x.kind x.keys i++fmtV y),((i+1:Nat):Int))):=by
     intro a ha
     rw[hx,hwd,q37 hlt (by omega)]
     simp only[Option.bind_some]
     rw[hrec]
     simp only[Option.bind_some]
     by_cases c5:x.kind=5
     ·have hik:i < x.keys.length:=by rw[kk5 c5]; exact hlt
      have hq:=quote9 (hs2 _ (List.getElem_mem hik))
      have hl:qj x.kind x.keys i=q12 (bL x.keys[i])++[58,32]:=by
       unfold qj; rw[if_pos c5,List.getElem?_eq_getElem hik]
      rw[hl]at ha ⊢
      simp only[List.length_append,List.length_cons,List.length_nil]at ha
      rw[decide_eq_true c5,cond_true,decide_eq_true (show (i:Int) < (x.keys.length:Int) by omega),cond_true,q1n,List.getElem?_eq_getElem hik]
      simp only[Option.bind_some]
      rw[hq]
      simp only[Option.bind_some]
      rw[q14 _ _ (by omega)]
      simp only[Option.bind_some]
      rw[show cat (bS (a++q12 (bL x.keys[i]))) (⟨#[58,32]⟩:ByteArray)=some (bS (a++q12 (bL x.keys[i])++[58,32])) from q14 _ [58,32] (by simp only[List.length_append,List.length_cons,List.length_nil]; omega)]
      simp only[Option.bind_some]
      rw[q14 _ _ (by simp only[List.length_append,List.length_cons,List.length_nil]; omega)]
      simp only[Option.bind_some,List.append_assoc]
     ·have hl:qj x.kind x.keys i=[]:=by unfold qj; rw[if_neg c5]
      rw[hl]at ha ⊢
      rw[decide_eq_false c5,cond_false,q14 _ _ (by omega)]
      simp only[Option.bind_some,List.append_nil]
    have hnext:gQ1y (fun a0 a1=>if relV a0 x then tQ53 a0 a1 else none) x (d:Int) (bS acc,(i:Int))=some (.inl (bS (acc++(if i=0 then [] else [44,32])++qj x.kind x.keys i++fmtV y),((i+1:Nat):Int))):=by
     unfold gQ1y
     rw[decide_eq_true (show (i:Int) < (x.items.length:Int) by omega),cond_true]
     by_cases hi0:i=0
     ·rw[decide_eq_false (show ¬ (i:Int) > 0 by omega),cond_false,if_pos hi0,List.append_nil]
      exact htail acc (by omega)
     ·rw[decide_eq_true (show (i:Int) > 0 by omega),cond_true,if_neg hi0]
      rw[if_neg hi0]at hac
      simp only[List.length_cons,List.length_nil]at hac
      simp only
      rw[show cat (bS acc) (⟨#[44,32]⟩:ByteArray)=some (bS (acc++[44,32])) from q14 acc [44,32] (by simp only[List.length_cons,List.length_nil]; omega),Option.bind_some]
      exact htail (acc++[44,32]) (by simp only[List.length_append,List.length_cons,List.length_nil]; omega)
    rw[q1v hnext,ihl (i+1) _ hdr2 hlt (by simp only[List.length_append]; omega)]
    simp only[fmtL,List.append_assoc]
  have hfin:=hloop x.items 0 [] (List.drop_zero) (Nat.zero_le _) ?_
  ·refine hfin.trans ?_
   have c45:x.kind=4∨x.kind=5:=by omega
   congr 2
   by_cases hnil:x.items=[]
   ·rw[if_pos hnil,hnil]
    unfold q25
    rcases c45 with q | q <;> simp[q,fmtL]
   ·rw[if_neg hnil]
    unfold q1h endS
    rcases c45 with q | q <;> simp[q]
  ·by_cases hnil:x.items=[]
   ·rw[hnil]; simp[fmtL]
   ·rw[if_neg hnil,List.length_append,List.length_append]at hlen
    simp only[List.length_nil]; omega
theorem qog {x:Val} (hf:x.Fits) (h:q1y x=0):gQ1g x=some (bS (fmtV x)):=by
 unfold gQ1g
 have:=qjc x 32 0 (q75 h) hf (by decide) (qj9 hf h)
 rw[show ((0:Nat):Int)=0 from rfl]at this
 rw[this]; rfl
theorem qsc (hw:gQ0b=some true) (v:Val) (hf:v.Fits):gQ04 v=some true:=by
 obtain ⟨b,hb,hc⟩:=qdw v hf
 unfold gQ04
 rw[hb,Option.bind_some,hw]
 cases b with
 | false=>rfl
 | true =>
  have:=hc rfl
  rw[qgl hf this,qog hf this]
  simp
theorem qse (hw:gQ0b=some true) (s:ByteArray):gQ09 s=some true:=by
 unfold gQ09
 rw[hw]
 cases decide ((s.size:Int) > 3000) with
 | true=>rfl
 | false =>
  rw[cond_false,q50,qum,Option.bind_some,Option.bind_some,q9i (qfh s)]
  simp
end Abs
end Go.Proofs.YtpidpioifnnllaaGreatDoor
namespace Go.Proofs.YtpidpioifnnllaaGreatDoor
set_option linter.unusedSimpArgs false
set_option linter.unusedVariables false
open Go.RowKit Go.Lib
namespace Abs
set_option maxRecDepth 100000
theorem ex2:q2b (⟨#[91,49,44]⟩:ByteArray)=(vZ,⟨40,3,eS⟩):=by kernel_rfl
theorem ex3:q2b (⟨#[110,117,108]⟩:ByteArray)=(vZ,⟨2,0,eS⟩):=by kernel_rfl
theorem ex1v:qg finV 32 [32,123,32,34,98,34,32,58,32,50,32,44,32,34,97,34,32,58,32,91,32,93,32,125,32]=.inr (finV [⟨#[98]⟩,⟨#[97]⟩] [Val.mk 2 2 eS [] [],Val.mk 4 0 eS [] []],[32]):=by kernel_rfl
theorem ex1f:finV [⟨#[98]⟩,⟨#[97]⟩] [Val.mk 2 2 eS [] [],Val.mk 4 0 eS [] []]=Val.mk 5 0 eS [Val.mk 4 0 eS [] [],Val.mk 2 2 eS [] []] [⟨#[97]⟩,⟨#[98]⟩]:=by
 unfold finV q29 q34
 simp only[List.zip_cons_cons,List.zip_nil_right,List.foldl_cons,List.foldl_nil,insP]
 rw[ByteArray.toList_eq,ByteArray.toList_eq]
 rfl
theorem ex1k:q1f none [(⟨#[97]⟩:ByteArray),⟨#[98]⟩]=0:=by
 have h1:vtext ⟨#[97]⟩=0:=by decide +kernel
 have h2:vtext ⟨#[98]⟩=0:=by decide +kernel
 have h3:ltB ⟨#[97]⟩ ⟨#[98]⟩=true:=by unfold ltB; rw[ByteArray.toList_eq,ByteArray.toList_eq]; rfl
 simp[q1f,h1,h2,h3]
theorem ex1n:q19 (Val.mk 5 0 eS [Val.mk 4 0 eS [] [],Val.mk 2 2 eS [] []] [⟨#[97]⟩,⟨#[98]⟩])=0:=by
 unfold q19
 rw[if_neg (by decide +kernel),if_neg (fun q=>by have:=q.1; simp only[Val.kind]at this; omega),if_neg (by decide +kernel)]
 exact ex1k
theorem ex1c:q1y (Val.mk 5 0 eS [Val.mk 4 0 eS [] [],Val.mk 2 2 eS [] []] [⟨#[97]⟩,⟨#[98]⟩])=0:=by
 unfold q1y
 rw[q8k,if_neg (by decide),if_neg (by decide),ex1n,if_neg (by decide)]
 kernel_rfl
theorem ex1:q2b (⟨#[32,123,32,34,98,34,32,58,32,50,32,44,32,34,97,34,32,58,32,91,32,93,32,125,32]⟩:ByteArray)=(Val.mk 5 0 eS [Val.mk 4 0 eS [] [],Val.mk 2 2 eS [] []] [⟨#[97]⟩,⟨#[98]⟩],⟨0,0,eS⟩):=by
 unfold q2b
 rw[if_neg (by decide)]
 rw[show qg finV 32 (bL (⟨#[32,123,32,34,98,34,32,58,32,50,32,44,32,34,97,34,32,58,32,91,32,93,32,125,32]⟩:ByteArray))=_ from ex1v]
 simp only
 rw[ex1f]
 unfold q5c
 rw[if_pos (by rfl),ex1c,if_pos rfl]
theorem ex1fits:(Val.mk 5 0 eS [Val.mk 4 0 eS [] [],Val.mk 2 2 eS [] []] [(⟨#[97]⟩:ByteArray),⟨#[98]⟩]).Fits:=by
 have:=qfh (⟨#[32,123,32,34,98,34,32,58,32,50,32,44,32,34,97,34,32,58,32,91,32,93,32,125,32]⟩:ByteArray)
 rw[ex1]at this
 exact this
theorem ex1t:q5o (Val.mk 5 0 eS [Val.mk 4 0 eS [] [],Val.mk 2 2 eS [] []] [⟨#[97]⟩,⟨#[98]⟩])=some (⟨#[123,34,97,34,58,32,91,93,44,32,34,98,34,58,32,50,125]⟩:ByteArray):=by
 rw[qgl ex1fits ex1c]
 kernel_rfl
open Classical in
theorem qsl (x:Val) (d:Int):tQ5i x d=gQ4g (fun a0 a1=>if relV a0 x then tQ5i a0 a1 else none) x d:=q42 x d
theorem qmt (n:Nat) (h:n≤64):q96 (⟨#[32]⟩:ByteArray) (n:Int)=some (bS (List.replicate n 32)):=by
 unfold q96
 rw[q3y ⟨by omega,by omega,by decide⟩,Int.toNat_natCast]
 have:∀ k:Nat,Lib.repeatL [32] k=List.replicate k 32:=fun k=>by
  induction k with
  | zero=>rfl
  | succ k ih=>show [32]++Lib.repeatL [32] k=_; rw[ih]; rfl
 show some (bS (Lib.repeatL [32] n))=_
 rw[this]
end Abs
end Go.Proofs.YtpidpioifnnllaaGreatDoor
namespace Go.Proofs.YtpidpioifnnllaaGreatDoor
set_option linter.unusedSimpArgs false
set_option linter.unusedVariables false
open Go.RowKit Go.Lib
namespace Abs
set_option maxRecDepth 100000
def adj (pre:List UInt8) (comma:Bool) (ls:List (List UInt8)):List (List UInt8) :=
 bif comma then (ls.set 0 (pre++ls.headD [])).set (ls.length - 1) ((ls.set 0 (pre++ls.headD [])).getLastD []++[44]) else ls.set 0 (pre++ls.headD [])
def inn (m:Nat):Nat:=min 64 (m+2)
def spc (m:Nat):List UInt8:=List.replicate m 32
mutual
def qo:Val→Nat→List (List UInt8)
 | .mk k n s [] keys,m=>[q25 (.mk k n s [] keys)]
 | .mk k n s (x::r) keys,m=>q1h (.mk k n s (x::r) keys)::(q1q k keys (inn m) 0 (x::r)++[spc m++endS (.mk k n s (x::r) keys)])
def q1q (k:Int) (keys:List ByteArray) (m:Nat):Nat→List Val→List (List UInt8)
 | _,[]=>[]
 | j,x::r=>adj (spc m++qj k keys j) (!r.isEmpty) (qo x m)++q1q k keys m (j+1) r
end
theorem q6b (x:Val) (m:Nat):qo x m=if x.items=[] then [q25 x] else q1h x::(q1q x.kind x.keys (inn m) 0 x.items++[spc m++endS x]):=by
 obtain ⟨k,n,s,items,keys⟩:=x
 cases items with
 | nil=>unfold qo; rfl
 | cons x r=>unfold qo; rfl
theorem q5k (x:Val) (m:Nat):qo x m≠[]:=by
 rw[q6b]; split <;> simp
theorem qa8 (pre:List UInt8) (c:Bool) (ls:List (List UInt8)):(adj pre c ls).length=ls.length:=by
 unfold adj; cases c <;> simp
mutual
theorem q6c:∀ (x:Val) (m:Nat),(qo x m).length≤2*q2a x
 | .mk k n s items keys,m=>by
  have h:=qkp items k keys (inn m) 0
  rw[q6b]
  by_cases hnil:(Val.mk k n s items keys).items=[]
  ·rw[if_pos hnil]; simp only[q2a,List.length_cons,List.length_nil]; omega
  ·rw[if_neg hnil]
   simp only[q2a,List.length_cons,List.length_append,List.length_nil,Val.items,Val.kind,Val.keys]; omega
theorem qkp:∀ (l:List Val) (k:Int) (keys:List ByteArray) (m j:Nat),(q1q k keys m j l).length≤2*q1g l
 | [],k,keys,m,j=>by simp[q1q]
 | x::r,k,keys,m,j=>by
  have h1:=q6c x m
  have h2:=qkp r k keys m (j+1)
  simp only[q1q,q1g,List.length_append,qa8]
  omega
end
theorem mem_set' {α:Type} {l:List α} {i:Nat} {a x:α} (h:x ∈ l.set i a):x=a∨x ∈ l:=by
 rcases List.mem_or_eq_of_mem_set h with q | q
 ·exact .inr q
 ·exact .inl q
theorem qjl {α:Type} {l:List α} {d:α} (h:l≠[]):l.getLastD d ∈ l:=by
 rw[List.getLastD_eq_getLast?,List.getLast?_eq_some_getLast h]
 exact List.getLast_mem h
theorem qjo {α:Type} {l:List α} {d:α} (h:l≠[]):l.headD d ∈ l:=by
 cases l with
 | nil=>exact absurd rfl h
 | cons a t=>exact List.mem_cons_self
theorem qh0 {pre:List UInt8} {c:Bool} {ls:List (List UInt8)} {A B:Nat} (hne:ls≠[]) (hp:pre.length≤A) (h:∀ z ∈ ls,z.length≤B):∀ z ∈ adj pre c ls,z.length≤A+B+1:=by
 have h0:∀ z ∈ ls.set 0 (pre++ls.headD []),z.length≤A+B:=fun z hz=>by
  rcases mem_set' hz with rfl | q
  ·have:=h _ (qjo (d:=[]) hne)
   rw[List.length_append]; omega
  ·have:=h z q; omega
 have hne2:ls.set 0 (pre++ls.headD [])≠[]:=by
  intro e; have:=congrArg List.length e
  rw[List.length_set]at this
  exact hne (List.length_eq_zero_iff.1 this)
 intro z hz
 unfold adj at hz
 cases c with
 | false=>have:=h0 z hz; omega
 | true =>
  rcases mem_set' hz with rfl | q
  ·have:=h0 _ (qjl (d:=[]) hne2)
   rw[List.length_append]; simp only[List.length_cons,List.length_nil]; omega
  ·have:=h0 z q; omega
theorem q3z (m:Nat):inn m≤64:=by unfold inn; omega
mutual
theorem qbb:∀ (x:Val) (m e:Nat),m≤64→Good e x→x.Fits→∀ z ∈ qo x m,z.length≤50000*e
 | .mk k n s items keys,m,e,hm,hg,hf,z,hz=>by
  have h1:=qfz hg hf
  obtain ⟨e',he',hi⟩:=hg.item
  have hL:=qkr items k keys (inn m) 0 e' (q3z m) (q68 hg).2 (fun y hy=>⟨hi y hy,hf.parts.2.2.2.2.2.2 y hy⟩)
  have ho:=qm0 (.mk k n s items keys)
  have hE:=qds (.mk k n s items keys)
  rw[q6b]at hz
  by_cases hnil:(Val.mk k n s items keys).items=[]
  ·rw[if_pos hnil]at hz
   rw[List.mem_singleton.1 hz]; omega
  ·rw[if_neg hnil]at hz
   rcases List.mem_cons.1 hz with rfl | hz
   ·omega
   ·rcases List.mem_append.1 hz with hz | hz
    ·have:=hL z hz; omega
    ·rw[List.mem_singleton.1 hz,List.length_append]; unfold spc; rw[List.length_replicate]; omega
theorem qkr:∀ (l:List Val) (k:Int) (keys:List ByteArray) (m j e:Nat),m≤64→(∀ x ∈ keys,x.size≤4096)→(∀ y ∈ l,Good e y∧y.Fits)→∀ z ∈ q1q k keys m j l,z.length≤50000*e+30000
 | [],k,keys,m,j,e,_,_,_,z,hz=>by simp[q1q]at hz
 | x::r,k,keys,m,j,e,hm,hk,h,z,hz=>by
  have h1:=qbb x m e hm (h x List.mem_cons_self).1 (h x List.mem_cons_self).2
  have h3:=q93 (k:=k) hk j
  simp only[q1q]at hz
  rcases List.mem_append.1 hz with hz | hz
  ·have:=qh0 (A:=24644) (q5k x m) (by unfold spc; rw[List.length_append,List.length_replicate]; omega) h1 z hz
   omega
  ·exact qkr r k keys m (j+1) e hm hk (fun y hy=>h y (List.mem_cons_of_mem _ hy)) z hz
end
abbrev clampI (i:Int):Int:=if 64 < (if 0 > i then 0 else i) then 64 else (if 0 > i then 0 else i)
theorem qi9 {m:Nat} (h:m≤64):clampI (m:Int)=(m:Int):=by unfold clampI; split <;> split <;> omega
theorem qi8 (m:Nat) (h:m≤64):(if 64 < IntKind.i64.wrap ((m:Int)+2) then 64 else IntKind.i64.wrap ((m:Int)+2))=((inn m:Nat):Int):=by
 rw[q13 (by omega) (by omega)]; unfold inn; split <;> omega
theorem qrx {ls:List (List UInt8)} (h:ls≠[]):idx (ls.map bS) 0=some (bS (ls.headD [])):=by
 cases ls with
 | nil=>exact absurd rfl h
 | cons a t=>rfl
theorem qwq (ls:List (List UInt8)) (z:List UInt8):upd (ls.map bS) 0 (bS z)=(ls.set 0 z).map bS:=by
 unfold upd; rw[List.map_set]; rfl
theorem qoc {n:Nat} (h:0 < n) (h2:n≤9223372036854775807):IntKind.i64.wrap ((n:Int) - 1)=((n - 1:Nat):Int):=by
 rw[q13 (by omega) (by omega)]; omega
theorem qrw {ls:List (List UInt8)} (h:ls≠[]):idx (ls.map bS) ((ls.length - 1:Nat):Int)=some (bS (ls.getLastD [])):=by
 rw[q1n,List.getElem?_map,← List.getLast?_eq_getElem?,List.getLast?_eq_some_getLast h,List.getLastD_eq_getLast?,List.getLast?_eq_some_getLast h]; rfl
theorem qwp (ls:List (List UInt8)) (z:List UInt8):upd (ls.map bS) ((ls.length - 1:Nat):Int) (bS z)=(ls.set (ls.length - 1) z).map bS:=by
 unfold upd; rw[List.map_set,Int.toNat_natCast]
open Classical in
theorem qkt (x:Val):∀ (e:Nat) (i:Int) (m:Nat),m≤64→clampI i=(m:Int)→e≤32→Good e x→x.Fits→q2a x≤4096→tQ5i x i=some ((qo x m).map bS):=by
 induction x using wfV.induction with
 | h x ih =>
  intro e i m hm hcl he hg hf hnd
  obtain ⟨f1,f2,f3,f4,f5,f6,f7⟩:=hf.parts
  have hn:=q5j f4 (by decide)
  obtain ⟨hs1,hs2⟩:=q68 hg
  have hos:=qe5 e x hg
  obtain ⟨e',he',hit⟩:=hg.item
  rw[qsl,q6b]
  unfold gQ4g
  by_cases hnil:x.items=[]
  ·rw[if_pos hnil,hnil,decide_eq_true (by rfl),cond_true,qnc x hf hos]; rfl
  ·rw[if_neg hnil]
   have hpos:0 < x.items.length:=List.length_pos_iff.2 hnil
   rw[decide_eq_false (show ¬ (x.items.length:Int)=0 by omega),cond_false,qna,Option.bind_some]
   have hnodes:q2a x=1+q1g x.items:=by obtain ⟨k,n,s,items,keys⟩:=x; rfl
   have hloop:∀ (l:List Val) (j:Nat) (acc:List (List UInt8)),x.items.drop j=l→j≤x.items.length→acc.length+2*q1g l≤8192 →
     qf (gQ4h (fun a0 a1=>if relV a0 x then tQ5i a0 a1 else none) x i (bS (q1h x),bS (endS x))) ((j:Int),acc.map bS)=some ((acc++q1q x.kind x.keys (inn m) j l++[spc m++endS x]).map bS):=by
    intro l
    induction l with
    | nil =>
     intro j acc hdr hj hac
     have hj2:j=x.items.length:=by
      have:=congrArg List.length hdr
      rw[List.length_drop]at this; simp at this; omega
     refine qs ?_
     unfold gQ4h
     simp only[q1g]at hac
     rw[decide_eq_false (show ¬ (j:Int) < (x.items.length:Int) by omega),cond_false]
     rw[show (if 64 < (if 0 > i then 0 else i) then 64 else (if 0 > i then 0 else i))=(m:Int) from hcl,qmt m hm,Option.bind_some,q14 _ _ (by rw[List.length_replicate,qds]; omega),Option.bind_some,q62 (by decide) (by rw[List.length_map]; simp only[List.length_cons,List.length_nil]; omega)]
     simp only[q1q,List.append_nil,List.map_append,List.map_cons,List.map_nil]
     rfl
    | cons y r ihl =>
     intro j acc hdr hj hac
     obtain ⟨hlt,hget,hdr2⟩:=q3l hdr
     have hy:y ∈ x.items:=List.mem_of_getElem? hget
     simp only[q1g]at hac
     have hrec:(if relV y x then tQ5i y ((inn m:Nat):Int) else none)=some ((qo y (inn m)).map bS):=by
      rw[if_pos (show relV y x from hy)]
      exact ih y hy e' _ _ (q3z m) (qi9 (q3z m)) (by omega) (hit y hy) (f7 y hy) (by omega)
     have hx:idx x.items (j:Int)=some y:=by rw[q1n]; exact hget
     have hne:=q5k y (inn m)
     have hsh:=qbb y (inn m) e' (q3z m) (hit y hy) (f7 y hy)
     have hcount:=q6c y (inn m)
     have hlab:=q93 (k:=x.kind) hs2 j
     have hhead:=hsh _ (qjo (d:=[]) hne)
     have hsp:(spc (inn m)).length≤64:=by unfold spc; rw[List.length_replicate]; exact q3z m
     have hrl:x.items.length=j+1+r.length:=by
      have:=congrArg List.length hdr
      rw[List.length_drop,List.length_cons]at this; omega
     have hne2:(qo y (inn m)).set 0 (spc (inn m)++qj x.kind x.keys j++(qo y (inn m)).headD [])≠[]:=by
      intro q; have:=congrArg List.length q
      rw[List.length_set]at this
      exact hne (List.length_eq_zero_iff.1 this)
     have hlast:=qh0 (c:=false) (A:=24644) hne (pre:=spc (inn m)++qj x.kind x.keys j) (by rw[List.length_append]; omega) hsh
     have hmem:=qjl (d:=([]:List UInt8)) hne2
     have hlast2:=hlast _ hmem
     have hpos2:0 < (qo y (inn m)).length:=List.length_pos_iff.2 hne
     have hnext:gQ4h (fun a0 a1=>if relV a0 x then tQ5i a0 a1 else none) x i (bS (q1h x),bS (endS x)) ((j:Int),acc.map bS)=some (.inl (((j+1:Nat):Int),(acc++adj (spc (inn m)++qj x.kind x.keys j) (!r.isEmpty) (qo y (inn m))).map bS)):=by
      unfold gQ4h
      rw[show (if 64 < (if 0 > i then 0 else i) then 64 else (if 0 > i then 0 else i))=(m:Int) from hcl,qi8 m hm]
      simp only
      rw[decide_eq_true (show (j:Int) < (x.items.length:Int) by omega),cond_true,hx]
      simp only[Option.bind_some]
      rw[hrec]
      simp only[Option.bind_some]
      rw[qmt _ (q3z m)]
      simp only[Option.bind_some]
      rw[qkg x j hos]
      simp only[Option.bind_some]
      rw[show List.replicate (inn m) (32:UInt8)=spc (inn m) from rfl,q14 _ _ (by omega)]
      simp only[Option.bind_some]
      rw[qrx hne]
      simp only[Option.bind_some]
      rw[q14 _ _ (by rw[List.length_append]; omega)]
      simp only[Option.bind_some]
      rw[qwq,qoc hpos (by omega),q37 hlt (by omega)]
      cases r with
      | nil =>
       rw[decide_eq_false (show ¬ (j:Int) < ((x.items.length - 1:Nat):Int) by simp only[List.length_nil]at hrl; omega),cond_false,q62 (by decide) (by rw[List.length_map,List.length_map,List.length_set]; omega),Option.bind_some,← List.map_append]
       rfl
      | cons y2 r2 =>
       rw[decide_eq_true (show (j:Int) < ((x.items.length - 1:Nat):Int) by simp only[List.length_cons]at hrl; omega),cond_true,List.length_map]
       have hlen:((qo y (inn m)).set 0 (spc (inn m)++qj x.kind x.keys j++(qo y (inn m)).headD [])).length=(qo y (inn m)).length:=List.length_set
       rw[qoc (by rw[hlen]; exact hpos2) (by rw[hlen]; omega),qrw hne2]
       simp only[Option.bind_some]
       rw[show cat (bS (((qo y (inn m)).set 0 (spc (inn m)++qj x.kind x.keys j++(qo y (inn m)).headD [])).getLastD [])) (⟨#[44]⟩:ByteArray)=some (bS (((qo y (inn m)).set 0 (spc (inn m)++qj x.kind x.keys j++(qo y (inn m)).headD [])).getLastD []++[44])) from q14 _ [44] (by simp only[List.length_cons,List.length_nil]; omega)]
       simp only[Option.bind_some]
       rw[qwp,q62 (by decide) (by rw[List.length_map,List.length_map,List.length_set,hlen]; omega),Option.bind_some,← List.map_append,hlen]
       rfl
     rw[q1v hnext,ihl (j+1) _ hdr2 hlt (by rw[List.length_append,qa8]; omega)]
     simp only[q1q,List.append_assoc]
   have hfin:=hloop x.items 0 [q1h x] List.drop_zero (Nat.zero_le _) (by simp only[List.length_cons,List.length_nil]; omega)
   refine (show qf _ ((0:Int),[bS (q1h x)])=_ from hfin).trans ?_
   rfl
theorem exl_c:q1y (Val.mk 4 0 eS [Val.mk 2 1 eS [] [],Val.mk 6 0 eS [] []] [])=0:=by kernel_rfl
theorem exl_f:(Val.mk 4 0 eS [Val.mk 2 1 eS [] [],Val.mk 6 0 eS [] []] []).Fits :=
 vlist (by simp) fun x hx=>by
  simp only[List.mem_cons,List.not_mem_nil,or_false]at hx
  rcases hx with rfl | rfl <;> exact vfits (by decide) (by decide) q48
theorem exl:tQ5i (Val.mk 4 0 eS [Val.mk 2 1 eS [] [],Val.mk 6 0 eS [] []] []) 0=some [bS [91],bS [32,32,49,44],bS [32,32,40,117,110,107,110,111,119,110,41],bS [93]]:=by
 rw[qkt _ 32 0 0 (by decide) (by decide) (Nat.le_refl _) (q75 exl_c) exl_f (qdj exl_c)]
 kernel_rfl
theorem awake:gQ0b=some true:=by
 unfold gQ0b
 rw[q50,q50,q50,ex1,ex2,ex3,exl]
 simp only[Option.bind_some]
 rw[ex1t]
 rfl
theorem law_Formats' (v:Val) (hf:v.Fits):gQ04 v=some true:=qsc awake v hf
theorem law_Parses' (s:ByteArray):gQ09 s=some true:=qse awake s
end Abs
end Go.Proofs.YtpidpioifnnllaaGreatDoor
