/-
  valuetext.write and Format: a value's text, written into a builder.
  valuetext.Format as a contract by values.
  valuetext.read: the reader's call, told without contexts.
  valuetext.read: the deferred closure.
  valuetext.read as a contract by values: the reader's panics are recovered.
-/
import Derived.Test.YtpidpioifnnllaaGreatDoorFnB
import Derived.Test.YtpidpioifnnllaaGreatDoorQsG
import Derived.Test.YtpidpioifnnllaaGreatDoorAbsB
import Derived.Test.YtpidpioifnnllaaGreatDoorAbsO
import Derived.Defers
import Derived.Recover
namespace Go.Proofs.YtpidpioifnnllaaGreatDoor
set_option linter.unusedSimpArgs false
set_option linter.unusedVariables false
open Go.RowKit Go.Lib
open Abs
def q25 (x:Val):List UInt8 :=
 if x.kind=1 then (if x.num=1 then [116,114,117,101] else [102,97,108,115,101])
 else if x.kind=2 then Lib.itoa x.num
 else if x.kind=3 then q12 (bL x.str)
 else if x.kind=4 then [91,93] else if x.kind=5 then [123,125] else if x.kind=6 then [40,117,110,107,110,111,119,110,41] else [110,117,108,108]
def q1h (x:Val):List UInt8:=if x.kind=5 then [123] else [91]
def endS (x:Val):List UInt8:=if x.kind=5 then [125] else [93]
def qj (kind:Int) (keys:List ByteArray) (i:Nat):List UInt8 :=
 if kind=5 then (match keys[i]? with | some k=>q12 (bL k)++[58,32] | none=>[]) else []
mutual
/-- The text of a value. -/
def fmtV:Val→List UInt8
 | .mk k n s [] keys=>q25 (.mk k n s [] keys)
 | .mk k n s (x::r) keys=>q1h (.mk k n s (x::r) keys)++fmtL k keys 0 (x::r)++endS (.mk k n s (x::r) keys)
def fmtL (k:Int) (keys:List ByteArray):Nat→List Val→List UInt8
 | _,[]=>[]
 | i,x::r=>(if i=0 then [] else [44,32])++qj k keys i++fmtV x++fmtL k keys (i+1) r
end
theorem q5e (x:Val):fmtV x=if x.items=[] then q25 x else q1h x++fmtL x.kind x.keys 0 x.items++endS x:=by
 obtain ⟨k,n,s,items,keys⟩:=x
 cases items with
 | nil=>unfold fmtV; rfl
 | cons x r=>unfold fmtV; rfl
inductive OkS:Val→Prop
 | mk {k n:Int} {s:ByteArray} {items:List Val} {keys:List ByteArray}:s.size≤1099511627776→(∀ y ∈ keys,y.size≤1099511627776)→(∀ y ∈ items,OkS y)→OkS (.mk k n s items keys)
theorem OkS.parts {x:Val} (h:OkS x):x.str.size≤1099511627776∧(∀ y ∈ x.keys,y.size≤1099511627776)∧(∀ y ∈ x.items,OkS y):=by cases h with | mk a b c=>exact ⟨a,b,c⟩
theorem qnc (x:Val) (hf:x.Fits) (ho:OkS x):gQ4p x=some (bS (q25 x)):=by
 unfold gQ4p q25
 have hn:=hf.parts.2.1
 have hs:=ho.parts.1
 by_cases h1:x.kind=1
 ·rw[decide_eq_true h1,cond_true,if_pos h1]
  by_cases h2:x.num=1
  ·rw[decide_eq_true h2,if_pos h2]; rfl
  ·rw[decide_eq_false h2,if_neg h2]; rfl
 rw[decide_eq_false h1,cond_false,if_neg h1]
 by_cases h2:x.kind=2
 ·rw[decide_eq_true h2,cond_true,if_pos h2]
  unfold q7g
  rw[q3y hn]; rfl
 rw[decide_eq_false h2,cond_false,if_neg h2]
 by_cases h3:x.kind=3
 ·rw[decide_eq_true h3,cond_true,if_pos h3]
  unfold q95
  rw[q3y hs]; rfl
 rw[decide_eq_false h3,cond_false,if_neg h3]
 by_cases h4:x.kind=4
 ·rw[decide_eq_true h4,if_pos h4]; rfl
 rw[decide_eq_false h4,cond_false,if_neg h4]
 by_cases h5:x.kind=5
 ·rw[decide_eq_true h5,if_pos h5]; rfl
 rw[decide_eq_false h5,cond_false,if_neg h5]
 by_cases h6:x.kind=6
 ·rw[decide_eq_true h6,if_pos h6]; rfl
 ·rw[decide_eq_false h6,if_neg h6]; rfl
theorem qna (x:Val):gQ4n x=some (bS (q1h x),bS (endS x)):=by
 unfold gQ4n q1h endS
 by_cases h:x.kind=5
 ·rw[decide_eq_true h,if_pos h,if_pos h]; rfl
 ·rw[decide_eq_false h,if_neg h,if_neg h]; rfl
theorem qmk (l:List UInt8):(q12 l).length≤6*l.length+2:=by
 unfold q12
 have:=qau l
 simp only[List.length_cons,List.length_append,List.length_nil]
 omega
theorem qkg (x:Val) (i:Nat) (ho:OkS x):gQ4l x i=some (bS (qj x.kind x.keys i)):=by
 unfold gQ4l qj
 by_cases h:x.kind=5
 ·rw[decide_eq_true h,cond_true,if_pos h]
  by_cases h2:i < x.keys.length
  ·rw[decide_eq_true (by omega),cond_true,q1n,List.getElem?_eq_getElem h2,Option.bind_some]
   have hk:=ho.parts.2.1 _ (List.getElem_mem h2)
   unfold q95
   rw[q3y hk,Option.bind_some]
   have hq:=qmk (bL x.keys[i])
   rw[q2c]at hq
   unfold cat
   rw[if_pos (by rw[q26]; show _+2≤_; omega)]
   simp only[Option.bind_some,Option.some.injEq]
   apply q6y
   unfold bL
   rw[ByteArray.data_append,Array.toList_append]
   rfl
  ·rw[decide_eq_false (by omega),cond_false,List.getElem?_eq_none (by omega)]
   rfl
 ·rw[decide_eq_false h,if_neg h]; rfl
abbrev VRep (w:World) (v:Value) (x:Val):Prop:=q9 (Cx.bare w.heap.size w.heap.size fun _ _=>True) w (.agg (aV x)) v
theorem VRep.keep {w w':World} {v:Value} {x:Val} (h:VRep w v x) (hb:Below w.heap.size w w'):VRep w' v x :=
 q9g (fun b o k=>by
  have hlt:b < w.heap.size:=by
   rcases k with ⟨k,_⟩ | ⟨_,k,_⟩ <;> exact k
  refine ⟨.inl ⟨Nat.lt_of_lt_of_le hlt hb.size,trivial⟩,?_⟩
  simp only[World.cell?]
  rw[hb.block b hlt]) rfl h
theorem VRep.isVal {w:World} {v:Value} {x:Val} (h:VRep w v x):q1l w v x:=qee (x:=x) h
theorem qs1 {prot:Nat→Nat→Prop} {w:World} {items:List Val} {b off n cap:Nat} (h:PRep prot w (.sl false items.length (q2f items)) (.slice (some ⟨b,off,none⟩) n cap)) (j:Nat) (hj:j < items.length) {v0 v1 v2 v3 v4:Value}
  (d0:w.cell? ⟨b,off+j*5,none⟩=some v0) (d1:w.cell? ⟨b,off+j*5+1,none⟩=some v1) (d2:w.cell? ⟨b,off+j*5+2,none⟩=some v2) (d3:w.cell? ⟨b,off+j*5+3,none⟩=some v3) (d4:w.cell? ⟨b,off+j*5+4,none⟩=some v4) :
  All2 (PRep prot w) (flV.c items[j]) [v0,v1,v2,v3,v4]:=by
 unfold PRep at h
 rcases h with ⟨h,_⟩ | ⟨b',off',cap',h,_,_,hc⟩ | ⟨hn,_⟩
 ·cases h
 ·have hb:b'=b∧off'=off:=by simp at h; exact ⟨h.1.1.symm,h.1.2.symm⟩
  obtain ⟨rfl,rfl⟩:=hb
  have hd:=Fl.drop flV items j
  have hc':=qh.drop (j*5) hc
  rw[show (q2f items).drop (j*5)=flV.f (items.drop j) from hd,List.drop_eq_getElem_cons hj,flV.cons]at hc'
  have g:=fun (t:Nat) (p:PV) (e:(flV.c items[j]++flV.f (items.drop (j+1)))[t]?=some p)=>qh.get hc' t p e
  obtain ⟨u0,e0,_,r0⟩:=g 0 _ rfl
  obtain ⟨u1,e1,_,r1⟩:=g 1 _ rfl
  obtain ⟨u2,e2,_,r2⟩:=g 2 _ rfl
  obtain ⟨u3,e3,_,r3⟩:=g 3 _ rfl
  obtain ⟨u4,e4,_,r4⟩:=g 4 _ rfl
  rw[Nat.add_zero,d0]at e0
  rw[d1]at e1
  rw[d2]at e2
  rw[d3]at e3
  rw[d4]at e4
  obtain rfl:=Option.some.inj e0
  obtain rfl:=Option.some.inj e1
  obtain rfl:=Option.some.inj e2
  obtain rfl:=Option.some.inj e3
  obtain rfl:=Option.some.inj e4
  exact ⟨r0,r1,r2,r3,r4,trivial⟩
 ·omega
theorem VRep.item {w:World} {x:Val} {k n s vi vk:Value} (h:VRep w (.agg #[k,n,s,vi,vk]) x) {b off m cap:Nat} (hvi:vi=.slice (some ⟨b,off,none⟩) m cap) (j:Nat) (hj:j < x.items.length) {v0 v1 v2 v3 v4:Value}
  (d0:w.cell? ⟨b,off+j*5,none⟩=some v0) (d1:w.cell? ⟨b,off+j*5+1,none⟩=some v1) (d2:w.cell? ⟨b,off+j*5+2,none⟩=some v2) (d3:w.cell? ⟨b,off+j*5+3,none⟩=some v3) (d4:w.cell? ⟨b,off+j*5+4,none⟩=some v4) :
  VRep w (.agg #[v0,v1,v2,v3,v4]) x.items[j]:=by
 obtain ⟨us,hu,ha⟩:=h
 obtain rfl:us=#[k,n,s,vi,vk]:=by simpa using hu.symm
 obtain ⟨_,_,_,h3,_,_⟩:=ha
 subst hvi
 have:=qs1 (show PRep _ w (.sl false x.items.length (q2f x.items)) _ from h3) j hj d0 d1 d2 d3 d4
 obtain ⟨r0,r1,r2,r3,r4,_⟩:=this
 exact ⟨_,rfl,r0,r1,r2,r3,r4,trivial⟩
variable {E : World → Prop} {E0 : Nat} {G : Nat → Option (List PV)}
theorem qc7 {X:Cx} {w:World} {s:ByteArray} {u:Value} (h:q9 X w (.cell (vS s)) u):u=.string s:=by
 have h':PRep X.prot w (.sc (.string s)) u:=h
 unfold PRep at h'; exact h'.1
theorem qvz (hb:Base E E0 G) (he:∀ w,E w→EnvV w) (x:Val) (hf:x.Fits) (ho:OkS x) (w:World) (v:Value) (hv:VRep w v x) (hE:E w) (h0:E0≤w.heap.size) :
  Calls Tryz.prog 30 #[v] w fun e w'=>e=.returned (.string (bS (q25 x)))∧Below w.heap.size w w'∧E w':=by
 refine (gQ4q hb he x _ (qnc x hf ho) (fun _ _=>True) w [v] hE h0 (fun _ _ _=>trivial) ⟨hv,trivial⟩).mono ?_
 rintro e w' ⟨u,rfl,h1,h2,h3⟩
 have h3':q9 (Cx.bare w.heap.size w'.heap.size fun _ _=>True) w' (.cell (vS (bS (q25 x)))) u:=h3
 exact ⟨by rw[qc7 h3'],h1,h2⟩
theorem qvy (hb:Base E E0 G) (he:∀ w,E w→EnvV w) (x:Val) (w:World) (v:Value) (hv:VRep w v x) (hE:E w) (h0:E0≤w.heap.size) :
  Calls Tryz.prog 31 #[v] w fun e w'=>e=.returned (.tuple #[.string (bS (q1h x)),.string (bS (endS x))])∧Below w.heap.size w w'∧E w':=by
 refine (gQ4o hb he x _ (qna x) (fun _ _=>True) w [v] hE h0 (fun _ _ _=>trivial) ⟨hv,trivial⟩).mono ?_
 rintro e w' ⟨u,rfl,h1,h2,h3⟩
 obtain ⟨us,rfl,h3⟩:=h3
 obtain ⟨us⟩:=us
 match us,h3 with
 | [a,b],⟨k1,k2,_⟩=>exact ⟨by rw[qc7 k1,qc7 k2],h1,h2⟩
theorem qkf (hb:Base E E0 G) (he:∀ w,E w→EnvV w) (x:Val) (ho:OkS x) (i:Nat) (w:World) (v:Value) (hv:VRep w v x) (hE:E w) (h0:E0≤w.heap.size) :
  Calls Tryz.prog 33 #[v,.int .i64 i] w fun e w'=>e=.returned (.string (bS (qj x.kind x.keys i)))∧Below w.heap.size w w'∧E w':=by
 refine (gQ4m hb he x i _ (qkg x i ho) (fun _ _=>True) w [v,.int .i64 i] hE h0 (fun _ _ _=>trivial) ⟨hv,q2k,trivial⟩).mono ?_
 rintro e w' ⟨u,rfl,h1,h2,h3⟩
 have h3':q9 (Cx.bare w.heap.size w'.heap.size fun _ _=>True) w' (.cell (vS (bS (qj x.kind x.keys i)))) u:=h3
 exact ⟨by rw[qc7 h3'],h1,h2⟩
theorem qrb (k:Int) (keys:List ByteArray) (l:List Val) (i j:Nat) (h:j < l.length):fmtL k keys i (l.drop j)=(if i=0 then [] else [44,32])++qj k keys i++fmtV l[j]++fmtL k keys (i+1) (l.drop (j+1)):=by
 rw[List.drop_eq_getElem_cons h]
 simp only[fmtL]
theorem q4w {w w':World} {b blk:Nat} {cs:Array Value} (h:Lib.OthersKept 5 (some b) w w') (hb:w.heap[blk]?=some (.cells cs 26 (0,0))) (hne:blk≠b):w'.heap[blk]?=some (.cells cs 26 (0,0)) :=
 h _ _ hb (by simpa using hne) (fun c fz e=>by cases e)
theorem q7a {e:TypeId} {b:Option Nat} {w w':World} (h:Below w.heap.size w w'):Lib.OthersKept e b w w':=fun k o hk _ _=>(h.block k (ql2 hk)).trans hk
theorem qgo (B b:Nat) (l t:List UInt8) (w:World) (h:IsB B b l w) (hl:l.length+t.length≤140737488355328) (hB:B≤w.heap.size) :
  Calls Tryz.prog 36 #[.pointer (some ⟨b,0,none⟩),.string (bS t)] w fun e w'=>e=.returned (.tuple #[.int .i64 t.length,.nilIface])∧IsB B b (l++t) w'∧Below B w w'∧Lib.OthersKept 5 (some b) w w':=q9v B b l (bS t) w h hl hB
set_option maxHeartbeats 4000000 in
set_option maxRecDepth 100000 in
theorem qxd (hb:Base E E0 G) (he:∀ w,E w→EnvV w) (x:Val):∀ (w0 w:World) (v:Value) (b:Nat) (l:List UInt8),VRep w0 v x→x.Fits→OkS x→Below w0.heap.size w0 w→E0≤w0.heap.size→E w→IsB w0.heap.size b l w→l.length+(fmtV x).length≤70368744177664 →
  Calls Tryz.prog 22 #[.pointer (some ⟨b,0,none⟩),v] w fun e w'=>e=.returned (.tuple #[])∧IsB w0.heap.size b (l++fmtV x) w'∧Below w0.heap.size w w'∧E w'∧Lib.OthersKept 5 (some b) w w':=by
 induction x using Val.ind with
 | h k n s items keys ih =>
  intro w0 w v b l hv hf ho hbw hE0 hE hB hlen
  have IH:=Lib.hid ih
  clear ih
  obtain ⟨vi,vk,rfl,hk,hi⟩:=(q4v _ _ _ _ _ _ _).1 hv.isVal
  obtain ⟨ka,kc,rfl,hkc⟩:=hk.slice
  obtain ⟨ia,ic,rfl,hic⟩:=hi.slice
  obtain ⟨f1,f2,f3,f4,f5,f6,f7⟩:=hf.parts
  simp only[Val.kind,Val.num,Val.str,Val.keys,Val.items]at f1 f2 f3 f4 f5 f6 f7
  have HV:=Lib.hid hv
  have HF:=Lib.hid hf
  have HO:=Lib.hid ho
  have HI:=Lib.hid hi
  have HFI:=Lib.hid f7
  have HOI:=Lib.hid ho.parts.2.2
  have HBW:=Lib.hid hbw
  have HE:=Lib.hid hE
  have HB:=Lib.hid hB
  have hbl:=ql3 hB
  have HFV:=Lib.hid (q5e (.mk k n s items keys))
  have b1:Below w.heap.size w (w.alloc (.cells #[.int .i64 k,.int .i64 n,.string s,.slice ia items.length ic,.slice ka keys.length kc] 26 (0,0))):=(Below.refl _ w).alloc (Nat.le_refl _) _
  have B1:=Lib.hid (b1.mono hbw.size)
  have K1:=Lib.hid (q7a (e:=5) (b:=some b) b1)
  have H1:=Lib.hid (q2s hB b1)
  have E1:=Lib.hid (hb.step _ _ hE (b1.mono (Nat.le_trans hE0 hbw.size)))
  have V1:=Lib.hid (hv.keep (hbw.trans (b1.mono hbw.size)))
  have X1:=Lib.hid (q46 w (.cells #[.int .i64 k,.int .i64 n,.string s,.slice ia items.length ic,.slice ka keys.length kc] 26 (0,0)))
  have hsz0:w0.heap.size≤w.heap.size:=hbw.size
  have hsz1:w0.heap.size≤(w.alloc (.cells #[.int .i64 k,.int .i64 n,.string s,.slice ia items.length ic,.slice ka keys.length kc] 26 (0,0))).heap.size:=Nat.le_trans hsz0 b1.size
  have HS0:=Lib.hid hsz0
  have HS1:=Lib.hid hsz1
  have HL:=Lib.hid hlen
  clear hv hk hi f6 f7 hf ho hbw hE hB b1 hsz0 hsz1 hlen
  by_cases hnil:items=[]
  ·subst hnil
   have HZ:=Lib.hid (show fmtV (.mk k n s [] keys)=q25 (.mk k n s [] keys) by unfold fmtV; rfl)
   go_enter Tryz.func22,Tryz.ntmps22
   go_wp2_with fail
   refine (qvz hb he _ HF.out HO.out _ _ V1.out E1.out (Nat.le_trans hE0 HS1.out)).mono ?_
   rintro e w2 ⟨rfl,b2,e2⟩
   have B2:=Lib.hid (B1.out.trans (b2.mono HS1.out))
   have H2:=Lib.hid (q2s H1.out b2)
   have E2:=Lib.hid e2
   have K2:=Lib.hid (K1.out.trans (q7a b2))
   clear b2 e2
   go_wp2_with fail
   refine (q9v w0.heap.size b l _ _ H2.out (by have:=HL.out; rw[HZ.out]at this; rw[q26]; omega) (Nat.le_trans HS0.out B2.out.size)).mono ?_
   rintro e w3 ⟨rfl,h3,b3,k3⟩
   have B3:=Lib.hid (B2.out.trans b3)
   have H3:=Lib.hid h3
   have E3:=Lib.hid (hb.step _ _ E2.out (b3.mono hE0))
   have K3:=Lib.hid (K2.out.trans k3)
   clear h3 b3 k3
   go_wp2_with fail
   refine bodyPost_ret (results_none rfl _ _ _) rfl ?_
   exact ⟨rfl,by rw[HZ.out]; exact H3.out,B3.out,E3.out,K3.out⟩
  ·have hpos:0 < items.length:=List.length_pos_iff.2 hnil
   have hz:fmtV (.mk k n s items keys)=q1h (.mk k n s items keys)++fmtL k keys 0 items++endS (.mk k n s items keys):=by
    have:=HFV.out
    rw[if_neg (show ¬ (Val.mk k n s items keys).items=[] from hnil)]at this
    exact this
   have HZ:=Lib.hid hz
   have hlen0:¬ (items.length:Int)=0:=by omega
   have hlz:l.length+(q1h (.mk k n s items keys)).length+(fmtL k keys 0 items).length+(endS (.mk k n s items keys)).length≤70368744177664:=by
    have:=HL.out
    rw[hz,List.length_append,List.length_append]at this
    omega
   have HLZ:=Lib.hid hlz
   clear hz hlz
   go_enter Tryz.func22,Tryz.ntmps22
   go_wp2_with fail
   refine (qvy hb he _ _ _ V1.out E1.out (Nat.le_trans hE0 HS1.out)).mono ?_
   rintro e w2 ⟨rfl,b2,e2⟩
   have B2:=Lib.hid (B1.out.trans (b2.mono HS1.out))
   have H2:=Lib.hid (q2s H1.out b2)
   have E2:=Lib.hid e2
   have K2:=Lib.hid (K1.out.trans (q7a b2))
   have X2:=Lib.hid ((b2.block w.heap.size (lt_of_block X1.out)).trans X1.out)
   clear b2 e2 B1 H1 E1 K1 X1 V1 HS1
   go_wp2_with fail
   refine (q9v w0.heap.size b l _ _ H2.out (by have:=HLZ.out; rw[q26]; omega) (Nat.le_trans HS0.out B2.out.size)).mono ?_
   rintro e w3 ⟨rfl,h3,b3,k3⟩
   have B3:=Lib.hid (B2.out.trans b3)
   have H3:=Lib.hid (show IsB w0.heap.size b (l++q1h (.mk k n s items keys)++[]) w3 by rw[List.append_nil]; exact h3)
   have E3:=Lib.hid (hb.step _ _ E2.out (b3.mono hE0))
   have K3:=Lib.hid (K2.out.trans k3)
   have X3:=Lib.hid (q4w k3 X2.out (Nat.ne_of_gt hbl))
   clear h3 b3 k3 B2 H2 E2 K2 X2
   have c3:w3.cell? ⟨w.heap.size,3,none⟩=some (.slice ia items.length ic):=qe X3.out 3
   go_wp2_with fail
   clear c3
   go_loopw [27] (fun i wr=>∃ (j:Nat) (p:List UInt8),j≤items.length∧i=.int .i64 j∧p++fmtL k keys j (items.drop j)=fmtL k keys 0 items∧IsB w0.heap.size b (l++q1h (.mk k n s items keys)++p) wr∧wr.heap[w.heap.size]?=some (.cells #[.int .i64 k,.int .i64 n,.string s,.slice ia items.length ic,.slice ka keys.length kc] 26 (0,0))∧Below w0.heap.size w wr∧E wr∧Lib.OthersKept 5 (some b) w wr) (fun i _=>items.length - (intOf i).toNat)
   case atStart=>exact ⟨0,[],Nat.zero_le _,rfl,rfl,H3.out,X3.out,B3.out,E3.out,K3.out⟩
   case round =>
    obtain ⟨j,p,hj,rfl,hp,hB,hX,hbw,hE,hK⟩:=hrel
    have HP:=Lib.hid hp
    have HB:=Lib.hid hB
    have HX:=Lib.hid hX
    have HBR:=Lib.hid hbw
    have HE:=Lib.hid hE
    have HKR:=Lib.hid hK
    clear hp hB hX hbw hE hK B3 H3 E3 K3 X3
    by_cases hlt:j < items.length
    ·obtain ⟨b',off,rfl,v0,v1,v2,v3,v4,d0,d1,d2,d3,d4,hx⟩:=HI.out.at j hlt
     have HVI:=Lib.hid (HV.out.item rfl j hlt d0 d1 d2 d3 d4)
     have HB0:=Lib.hid (HBW.out.trans HBR.out)
     replace d0:=q2i HB0.out d0
     replace d1:=q2i HB0.out d1
     replace d2:=q2i HB0.out d2
     replace d3:=q2i HB0.out d3
     replace d4:=q2i HB0.out d4
     obtain ⟨xk,xn,xs,xia,xil,xic,xka,xkl,xkc,ev⟩:=hx.shape
     obtain ⟨rfl,rfl,rfl,rfl,rfl⟩:=agg5 ev
     clear hx ev
     have HD:=Lib.hid (qrb k keys items j j hlt)
     have HLJ:=Lib.hid (show p.length+((if j=0 then [] else [44,32])++qj k keys j++fmtV items[j]++fmtL k keys (j+1) (items.drop (j+1)):List UInt8).length=(fmtL k keys 0 items).length by rw[← HD.out,← List.length_append,HP.out])
     have a1:Below wr.heap.size wr (wr.alloc (.cells #[.int .i64 xk,.int .i64 xn,.string xs,.slice xia xil xic,.slice xka xkl xkc] 26 (0,0))):=(Below.refl _ wr).alloc (Nat.le_refl _) _
     have hsw:w0.heap.size≤wr.heap.size:=Nat.le_trans HS0.out HBR.out.size
     have HSW:=Lib.hid hsw
     have B4:=Lib.hid (HBR.out.trans (a1.mono hsw))
     have H4:=Lib.hid (q2s HB.out a1)
     have E4:=Lib.hid (hb.step _ _ HE.out (a1.mono (Nat.le_trans hE0 hsw)))
     have K4:=Lib.hid (HKR.out.trans (q7a (e:=5) (b:=some b) a1))
     have X4:=Lib.hid ((a1.block w.heap.size (lt_of_block HX.out)).trans HX.out)
     have Y4:=Lib.hid (q46 wr (.cells #[.int .i64 xk,.int .i64 xn,.string xs,.slice xia xil xic,.slice xka xkl xkc] 26 (0,0)))
     have hne:wr.heap.size≠b:=Nat.ne_of_gt (ql3 HB.out)
     clear a1 hsw HB HE HKR
     by_cases h0:j=0
     ·have hj0:¬ (0:Int) < (j:Int):=by omega
      have H0:=Lib.hid h0
      clear h0
      have c0:=qe HX.out 0
      have c1:=qe HX.out 1
      have c2:=qe HX.out 2
      have c3:=qe HX.out 3
      have c4:=qe HX.out 4
      have g0:=qe X4.out 0
      have g1:=qe X4.out 1
      have g2:=qe X4.out 2
      have g3:=qe X4.out 3
      have g4:=qe X4.out 4
      go_wp2_with fail
      clear c0 c1 c2 c3 c4 g0 g1 g2 g3 g4
      have BL:=Lib.hid B4.out
      have HL4:=Lib.hid (show IsB w0.heap.size b (l++q1h (.mk k n s items keys)++(p++(if j=0 then [] else [44,32]))) _ by rw[if_pos H0.out,List.append_nil]; exact H4.out)
      clear H4 d0 d1 d2 d3 d4 hj0
      refine (qkf hb he _ HO.out j _ _ (HV.out.keep (HBW.out.trans B4.out)) E4.out (Nat.le_trans hE0 (Nat.le_trans HS0.out B4.out.size))).mono ?_
      rintro e w6 ⟨rfl,b6⟩
      have B6:=Lib.hid (B4.out.trans (b6.1.mono (Nat.le_trans HS0.out B4.out.size)))
      have H6:=Lib.hid (q2s HL4.out b6.1)
      have E6:=Lib.hid b6.2
      have K6:=Lib.hid (K4.out.trans (q7a b6.1))
      have X6:=Lib.hid ((b6.1.block w.heap.size (lt_of_block X4.out)).trans X4.out)
      have Y6:=Lib.hid ((b6.1.block wr.heap.size (lt_of_block Y4.out)).trans Y4.out)
      clear b6 B4 HL4 E4 K4 X4 Y4
      go_wp2_with fail
      refine (qgo w0.heap.size b _ _ _ H6.out (by have h:=HLJ.out; have h2:=HLZ.out; simp only[List.length_append]at h ⊢; show _+(qj k keys j).length≤_; omega) (Nat.le_trans HS0.out B6.out.size)).mono ?_
      rintro e w7 ⟨rfl,h7,b7,k7⟩
      have B7:=Lib.hid (B6.out.trans b7)
      have E7:=Lib.hid (hb.step _ _ E6.out (b7.mono hE0))
      have K7:=Lib.hid (K6.out.trans k7)
      have X7:=Lib.hid (q4w k7 X6.out (Nat.ne_of_gt hbl))
      have Y7:=Lib.hid (q4w k7 Y6.out hne)
      have H7:=Lib.hid h7
      clear h7 b7 k7 B6 H6 E6 K6 X6 Y6
      have c0:=qe Y7.out 0
      have c1:=qe Y7.out 1
      have c2:=qe Y7.out 2
      have c3:=qe Y7.out 3
      have c4:=qe Y7.out 4
      go_wp2_with fail
      clear c0 c1 c2 c3 c4
      refine (IH.out _ (List.getElem_mem hlt) w0 _ _ b _ HVI.out (HFI.out _ (List.getElem_mem hlt)) (HOI.out _ (List.getElem_mem hlt)) (HBW.out.trans B7.out) hE0 E7.out H7.out (by have h:=HLJ.out; have h2:=HLZ.out; simp only[List.length_append]at h ⊢; show _+(qj k keys j).length+_≤_; omega)).mono ?_
      rintro e w8 ⟨rfl,h8,b8,e8,k8⟩
      have B8:=Lib.hid (B7.out.trans b8)
      have X8:=Lib.hid (q4w k8 X7.out (Nat.ne_of_gt hbl))
      have K8:=Lib.hid (K7.out.trans k8)
      have H8:=Lib.hid h8
      have E8:=Lib.hid e8
      clear h8 b8 k8 e8 B7 H7 E7 K7 X7 Y7
      go_wp2_with fail
      go_roundw
      case rel=>exact ⟨j+1,p++(if j=0 then [] else [44,32])++qj k keys j++fmtV items[j],by omega,by go_num,by rw[← HP.out,HD.out]; simp only[List.append_assoc],by have:=H8.out; simpa only[List.append_assoc] using this,X8.out,B8.out,E8.out,K8.out⟩
      case measure=>simp[intOf]; omega
     ·have hj0:(0:Int) < (j:Int):=by omega
      have H0:=Lib.hid h0
      clear h0
      go_wp2_with fail
      refine (q9v w0.heap.size b _ _ _ H4.out (by have h:=HLJ.out; have h2:=HLZ.out; rw[if_neg H0.out]at h; simp only[List.length_append,List.length_cons,List.length_nil]at h ⊢; show _+2≤_; omega) (Nat.le_trans HS0.out B4.out.size)).mono ?_
      rintro e w5 ⟨rfl,h5,b5,k5⟩
      have B5:=Lib.hid (B4.out.trans b5)
      have HL4:=Lib.hid (show IsB w0.heap.size b (l++q1h (.mk k n s items keys)++(p++(if j=0 then [] else [44,32]))) w5 by rw[if_neg H0.out,← List.append_assoc]; exact h5)
      have E5:=Lib.hid (hb.step _ _ E4.out (b5.mono hE0))
      have K5:=Lib.hid (K4.out.trans k5)
      have X5:=Lib.hid (q4w k5 X4.out (Nat.ne_of_gt hbl))
      have Y5:=Lib.hid (q4w k5 Y4.out hne)
      clear h5 b5 k5 B4 H4 E4 K4 X4 Y4 d0 d1 d2 d3 d4 hj0
      have B4:=B5
      have E4:=E5
      have K4:=K5
      have X4:=X5
      have Y4:=Y5
      clear B5 E5 K5 X5 Y5
      have c0:=qe X4.out 0
      have c1:=qe X4.out 1
      have c2:=qe X4.out 2
      have c3:=qe X4.out 3
      have c4:=qe X4.out 4
      go_wp2_with fail
      clear c0 c1 c2 c3 c4
      refine (qkf hb he _ HO.out j _ _ (HV.out.keep (HBW.out.trans B4.out)) E4.out (Nat.le_trans hE0 (Nat.le_trans HS0.out B4.out.size))).mono ?_
      rintro e w6 ⟨rfl,b6⟩
      have B6:=Lib.hid (B4.out.trans (b6.1.mono (Nat.le_trans HS0.out B4.out.size)))
      have H6:=Lib.hid (q2s HL4.out b6.1)
      have E6:=Lib.hid b6.2
      have K6:=Lib.hid (K4.out.trans (q7a b6.1))
      have X6:=Lib.hid ((b6.1.block w.heap.size (lt_of_block X4.out)).trans X4.out)
      have Y6:=Lib.hid ((b6.1.block wr.heap.size (lt_of_block Y4.out)).trans Y4.out)
      clear b6 B4 HL4 E4 K4 X4 Y4
      go_wp2_with fail
      refine (qgo w0.heap.size b _ _ _ H6.out (by have h:=HLJ.out; have h2:=HLZ.out; simp only[List.length_append]at h ⊢; show _+(qj k keys j).length≤_; omega) (Nat.le_trans HS0.out B6.out.size)).mono ?_
      rintro e w7 ⟨rfl,h7,b7,k7⟩
      have B7:=Lib.hid (B6.out.trans b7)
      have E7:=Lib.hid (hb.step _ _ E6.out (b7.mono hE0))
      have K7:=Lib.hid (K6.out.trans k7)
      have X7:=Lib.hid (q4w k7 X6.out (Nat.ne_of_gt hbl))
      have Y7:=Lib.hid (q4w k7 Y6.out hne)
      have H7:=Lib.hid h7
      clear h7 b7 k7 B6 H6 E6 K6 X6 Y6
      have c0:=qe Y7.out 0
      have c1:=qe Y7.out 1
      have c2:=qe Y7.out 2
      have c3:=qe Y7.out 3
      have c4:=qe Y7.out 4
      go_wp2_with fail
      clear c0 c1 c2 c3 c4
      refine (IH.out _ (List.getElem_mem hlt) w0 _ _ b _ HVI.out (HFI.out _ (List.getElem_mem hlt)) (HOI.out _ (List.getElem_mem hlt)) (HBW.out.trans B7.out) hE0 E7.out H7.out (by have h:=HLJ.out; have h2:=HLZ.out; simp only[List.length_append]at h ⊢; show _+(qj k keys j).length+_≤_; omega)).mono ?_
      rintro e w8 ⟨rfl,h8,b8,e8,k8⟩
      have B8:=Lib.hid (B7.out.trans b8)
      have X8:=Lib.hid (q4w k8 X7.out (Nat.ne_of_gt hbl))
      have K8:=Lib.hid (K7.out.trans k8)
      have H8:=Lib.hid h8
      have E8:=Lib.hid e8
      clear h8 b8 k8 e8 B7 H7 E7 K7 X7 Y7
      go_wp2_with fail
      go_roundw
      case rel=>exact ⟨j+1,p++(if j=0 then [] else [44,32])++qj k keys j++fmtV items[j],by omega,by go_num,by rw[← HP.out,HD.out]; simp only[List.append_assoc],by have:=H8.out; simpa only[List.append_assoc] using this,X8.out,B8.out,E8.out,K8.out⟩
      case measure=>simp[intOf]; omega
    ·obtain rfl:j=items.length:=by omega
     have hnd:items.drop items.length=[]:=List.drop_length
     have HPF:=Lib.hid (show p=fmtL k keys 0 items by rw[← HP.out,hnd]; simp only[fmtL,List.append_nil])
     go_wp2_with fail
     refine (qgo w0.heap.size b _ _ _ HB.out (by have h2:=HLZ.out; have h3:=HPF.out; rw[h3]; simp only[List.length_append]; omega) (Nat.le_trans HS0.out HBR.out.size)).mono ?_
     rintro e w5 ⟨rfl,h5,b5,k5⟩
     have B5:=Lib.hid (HBR.out.trans b5)
     have H5:=Lib.hid h5
     have E5:=Lib.hid (hb.step _ _ HE.out (b5.mono hE0))
     have K5:=Lib.hid (HKR.out.trans k5)
     clear h5 b5 k5
     go_wp2_with fail
     go_end0
     refine ⟨rfl,?_,B5.out,E5.out,K5.out⟩
     have:=H5.out
     rw[HPF.out]at this
     rw[HZ.out]
     simpa only[List.append_assoc] using this
end Go.Proofs.YtpidpioifnnllaaGreatDoor
namespace Go.Proofs.YtpidpioifnnllaaGreatDoor
set_option linter.unusedSimpArgs false
set_option linter.unusedVariables false
namespace Abs
open Go.RowKit Go.Lib
variable {E : World → Prop} {E0 : Nat} {G : Nat → Option (List PV)}
open Classical in
/-- The text of a value,where it is of no great size. -/
noncomputable def q5o (v:Val):Option ByteArray:=if v.Fits∧OkS v∧(fmtV v).length≤70368744177664 then some (bS (fmtV v)) else none
set_option maxHeartbeats 4000000 in
set_option maxRecDepth 100000 in
theorem qgk (hb:Base E E0 G) (he:∀ w,E w→EnvV w) (v:Val) (r:ByteArray) (h:q5o v=some r):Pure E E0 Tryz.prog 9 [.agg (aV v)] (c1 (vS r)):=by
 unfold q5o at h
 split at h
 ·rename_i hq
  obtain ⟨hf,ho,hl⟩:=hq
  obtain rfl:=Option.some.inj h
  clear h
  intro old w vs hE h0 hold hv
  match vs,hv with
  | [u],⟨k1,_⟩ =>
   have hv:VRep w u v:=q9g (fun b o k=>by
    have hlt:b < w.heap.size:=by
     rcases k with ⟨k,_⟩ | ⟨_,k,_⟩ <;> exact k
    exact ⟨.inl ⟨hlt,trivial⟩,rfl⟩) rfl k1
   clear k1
   obtain ⟨k,n,s,items,keys⟩:=v
   obtain ⟨vi,vk,rfl,hk,hi⟩:=(q4v _ _ _ _ _ _ _).1 hv.isVal
   obtain ⟨ka,kc,rfl,hkc⟩:=hk.slice
   obtain ⟨ia,ic,rfl,hic⟩:=hi.slice
   clear hk hi
   have b1:Below w.heap.size w (w.alloc (.cells #[.int .i64 k,.int .i64 n,.string s,.slice ia items.length ic,.slice ka keys.length kc] 26 (0,0))):=(Below.refl _ w).alloc (Nat.le_refl _) _
   have hx:=q46 w (.cells #[.int .i64 k,.int .i64 n,.string s,.slice ia items.length ic,.slice ka keys.length kc] 26 (0,0))
   have V1:=Lib.hid (hv.keep b1)
   have E1:=Lib.hid (hb.step _ _ hE (b1.mono h0))
   have B1:=Lib.hid b1
   have H0:=Lib.hid (Nat.le_trans h0 b1.size)
   generalize hw1:w.alloc (.cells #[.int .i64 k,.int .i64 n,.string s,.slice ia items.length ic,.slice ka keys.length kc] 26 (0,0))=w1 at *
   have b2:Below w1.heap.size w1 (w1.alloc (.cells #[.pointer none,.slice none 0 0] 47)):=(Below.refl _ w1).alloc (Nat.le_refl _) _
   have HB2:=Lib.hid (qed w1)
   have E2:=Lib.hid (hb.step _ _ E1.out (b2.mono H0.out))
   have X2:=Lib.hid ((b2.block w.heap.size (lt_of_block hx)).trans hx)
   have c0:=qe hx 0
   have c1:=qe hx 1
   have c2:=qe hx 2
   have c3:=qe hx 3
   have c4:=qe hx 4
   have g0:=qe X2.out 0
   have g1:=qe X2.out 1
   have g2:=qe X2.out 2
   have g3:=qe X2.out 3
   have g4:=qe X2.out 4
   have HV:=Lib.hid hv
   have HF:=Lib.hid hf
   have HO:=Lib.hid ho
   have HL:=Lib.hid hl
   have HB:=Lib.hid b2
   clear hv hf ho hl b2 hE hx b1
   go_enter Tryz.func9,Tryz.ntmps9
   go_wp2_with fail
   refine (qxd hb he _ w1 _ _ w1.heap.size [] V1.out HF.out HO.out HB.out H0.out E2.out HB2.out (by rw[List.length_nil,Nat.zero_add]; exact HL.out)).mono ?_
   rintro e w3 ⟨rfl,h3,b3,e3,_⟩
   have B3:=Lib.hid (HB.out.trans b3)
   have E3:=Lib.hid e3
   have H3:=Lib.hid h3
   clear c0 c1 c2 c3 c4 g0 g1 g2 g3 g4 h3 b3 e3
   go_wp2_with fail
   refine (bStr w1.heap.size w1.heap.size _ _ H3.out B3.out.size).mono ?_
   rintro e w4 ⟨rfl,h4,b4⟩
   have B4:=Lib.hid (B3.out.trans b4)
   have E4:=Lib.hid (hb.step _ _ E3.out (b4.mono H0.out))
   clear h4 b4
   go_wp2_with fail
   go_ret
   exact ⟨_,rfl,B1.out.trans (B4.out.mono B1.out.size),E4.out,q4c q53⟩
 ·cases h
end Abs
end Go.Proofs.YtpidpioifnnllaaGreatDoor
namespace Go.Proofs.YtpidpioifnnllaaGreatDoor
set_option linter.unusedSimpArgs false
set_option linter.unusedVariables false
namespace Abs
open Go.RowKit Go.Lib
variable {E : World → Prop} {E0 : Nat} {G : Nat → Option (List PV)}
def ReadP (E:World→Prop) (B:Nat) (old:Nat→Nat→Prop) (s:ByteArray) (w:World):(Int×Int)⊕(Val×Int)→Ending→World→Prop
 | .inl p,e,w'=>e=.panicked [{ v:=dD p,recovered:=false }]∧Below B w w'∧E w'
 | .inr y,e,w'=>∃ u,e=.returned u∧Below B w w'∧E w'∧B < w'.heap.size∧w'.cell? ⟨B,1,none⟩=some (.int .i64 y.2) ∧
   ∀ (Z:Cx) (w3:World),(∀ b o,(b < B∧old b o)∨(B < b∧b < w'.heap.size)→Z.prot b o∧w3.cell? ⟨b,o,none⟩=w'.cell? ⟨b,o,none⟩)→q9 Z w3 (.agg (aV y.1)) u
theorem qvl (hb : Base E E0 G) (he : ∀ w, E w → EnvV w) (s : ByteArray) (r : (Int × Int) ⊕ (Val × Int)) (hr : tQ5c s 0 0 = some r) (old : Nat → Nat → Prop) (w : World) (B : Nat) (hB : B + 1 = w.heap.size) (h0 : E0 ≤ B) (hE : E w) (hold : ∀ b o, b < E0 → old b o)
    (hx : w.heap[B]? = some (.cells #[.string s, .int .i64 0] 71 (0, 0))) :
    Calls Tryz.prog 40 #[.pointer (some ⟨B, 0, none⟩), .int .i64 0] w (ReadP E B old s w r) := by
  have hok := tQ5d hb he s 0 0 r hr
  let X : Cx := { B0 := B, hs := w.heap.size, old := old, loc := fun i => if i = 0 then some (B, 2) else none, pend := fun _ => False, σ := [some (.box [vS s, vi 0])] }
  have one : ∀ {i : Nat} {ob : AObj}, X.σ[i]? = some (some ob) → i = 0 ∧ ob = .box [vS s, vi 0] := fun {i ob} e => by
    match i, e with
    | 0, e => simp [X] at e; exact ⟨rfl, e.symm⟩
    | i + 1, e => simp [X] at e
  have hi : Inv E E0 X w := by
    refine ⟨rfl, by show B ≤ _; omega, h0, hE, fun i ob e _ _ => ?_, fun i i' ob ob' l1 l2 e e' _ _ _ _ _ => ?_, hold, fun i ob e _ hb => ?_, ⟨fun i ag es e => ?_, fun i i' ag ag' es es' r e => ?_⟩, fun k hk => hk.elim⟩
    · obtain ⟨rfl, rfl⟩ := one e
      refine ⟨(B, 2), rfl, .inl (Nat.le_refl _), _, _, hx, rfl, fun j c hj => ?_⟩
      match j, hj with
      | 0, hj => obtain rfl : vS s = c := by simpa [AObj.cells] using hj
                 exact ⟨_, rfl, show q9 X w (.cell (vS s)) (.string s) from q53⟩
      | 1, hj => obtain rfl : vi 0 = c := by simpa [AObj.cells] using hj
                 exact ⟨_, rfl, show q9 X w (.cell (vi 0)) (.int .i64 0) from q2k⟩
      | j + 2, hj => simp [AObj.cells] at hj
    · obtain ⟨rfl, _⟩ := one e
      obtain ⟨rfl, _⟩ := one e'
      rfl
    · obtain ⟨rfl, rfl⟩ := one e
      cases hb
    · obtain ⟨_, q⟩ := one e
      cases q
    · obtain ⟨_, q⟩ := one e
      cases q
  have hp : q2e X 0 0 0 (.pointer (some ⟨B, 0, none⟩)) := ⟨rfl, fun k => k, by simp [X], fun ob e => ⟨Nat.zero_le _, fun _ => ⟨(B, 2), rfl, rfl⟩⟩⟩
  cases r with
  | inl p =>
    refine (hok X w [.pointer (some ⟨B, 0, none⟩), .int .i64 0] rfl (fun _ k => k) hi ⟨hp, q2k, trivial⟩).mono ?_
    rintro e w' ⟨rfl, X', h1, h2, h3⟩
    exact ⟨rfl, h3.below.full (Nat.le_refl _) fun k hk => hk.elim, h2.env⟩
  | inr y =>
    refine (hok X w [.pointer (some ⟨B, 0, none⟩), .int .i64 0] rfl (fun _ k => k) hi ⟨hp, q2k, trivial⟩).mono ?_
    rintro e w' ⟨X', u, rfl, h1, h2, h3, h4, h5⟩
    have e0 : X'.σ[0]? = some (some (.box [vS s, vi y.2])) := by rw [h1]; rfl
    obtain ⟨o0, f1, _, f3⟩ := h4.ids 0 _ (by simp [X]) (fun h => h) e0
    obtain ⟨_, rfl⟩ := one f1
    have hloc : X'.loc 0 = some (B, 2) := (f3 rfl).1
    obtain ⟨l, g1, g2, us, T, g3, g4, g5⟩ := h3.ob 0 _ e0 (h2 0) rfl
    rw [hloc] at g1
    obtain rfl : (B, 2) = l := by simpa using g1
    obtain ⟨u1, q1, q2⟩ := g5 1 (vi y.2) rfl
    have hsz : B < w'.heap.size := lt_of_block g3
    refine ⟨u, rfl, h4.below.full (Nat.le_refl _) (fun k hk => hk.elim), h3.env, hsz, ?_, fun Z w3 hz => ?_⟩
    · rw [qe g3, q1, q6a (show q9 X' w' (.cell (vi y.2)) u1 from q2)]
    · refine q9g (fun b o k => hz b o ?_) rfl h5
      rcases k with ⟨k1, k2⟩ | ⟨k1, k2, k3⟩
      · rw [h4.b0] at k1
        rw [h4.old] at k2
        exact .inl ⟨k1, k2⟩
      · rw [h4.b0] at k1
        have k1 : B ≤ b := k1
        rw [h3.hs] at k2
        refine .inr ⟨?_, k2⟩
        rcases Nat.lt_or_ge B b with h | h
        · exact h
        · obtain rfl : B = b := by omega
          have := k3 0 _ _ e0 (h2 0) hloc rfl
          exact absurd this (Nat.not_lt_zero _)
end Abs
end Go.Proofs.YtpidpioifnnllaaGreatDoor
namespace Go.Proofs.YtpidpioifnnllaaGreatDoor
set_option linter.unusedSimpArgs false
set_option linter.unusedVariables false
namespace Abs
open Go.RowKit Go.Lib
structure Boxes (b d:Nat) (v:Array Value) (q:Array Value) (w:World):Prop where
 v0:w.cell? ⟨b,0,none⟩=v[0]?
 v1:w.cell? ⟨b,1,none⟩=v[1]?
 v2:w.cell? ⟨b,2,none⟩=v[2]?
 v3:w.cell? ⟨b,3,none⟩=v[3]?
 v4:w.cell? ⟨b,4,none⟩=v[4]?
 q0:w.cell? ⟨d,0,none⟩=q[0]?
 q1:w.cell? ⟨d,1,none⟩=q[1]?
 q2:w.cell? ⟨d,2,none⟩=q[2]?
theorem qp3 (x:TypeId) (v:Value) (w:World):(Instr.typeAssert (.iface 32 v) x 32 true).run Tryz.prog w=.ok (.tuple #[v,.bool true]) w:=by kernel_rfl
set_option maxHeartbeats 4000000 in
set_option maxRecDepth 100000 in
theorem qi0 (b d:Nat) (p:Int×Int) (older:List PanicEntry) (w:World) (v0 v1 v2 v3 v4 d0 d1 d2:Value) (hb:w.heap[b]?=some (.cells #[v0,v1,v2,v3,v4] 26 (0,0))) (hd:w.heap[d]?=some (.cells #[d0,d1,d2] 32 (0,0))) (hn:d≠b) :
  CallsD Tryz.prog 39 #[.pointer (some ⟨b,0,none⟩),.pointer (some ⟨d,0,none⟩)] (.panicking ({ v:=dD p,recovered:=false }::older)) w fun e u' w' =>
   e=.returned (.tuple #[])∧u'=.panicking ({ v:=dD p,recovered:=true }::older)∧(∀ B,B≤b→B≤d→Below B w w')∧w'.heap.size=w.heap.size∧Boxes b d #[.int .i64 0,.int .i64 0,.string ⟨#[]⟩,.slice none 0 0,.slice none 0 0] #[.int .i64 p.1,.int .i64 p.2,.string ⟨#[]⟩] w':=by
 have c0:=qe hb 0
 have c1:=qe hb 1
 have c2:=qe hb 2
 have c3:=qe hb 3
 have c4:=qe hb 4
 have z0:=q22 hb 0
 have z1:=q22 hb 1
 have z2:=q22 hb 2
 have z3:=q22 hb 3
 have z4:=q22 hb 4
 have e0:=qe hd 0
 have e1:=qe hd 1
 have e2:=qe hd 2
 have f0:=q22 hd 0
 have f1:=q22 hd 1
 have f2:=q22 hd 2
 have hm:b≠d:=fun h=>hn h.symm
 refine callsD_of_wpS Tryz.func39 rfl fun c₀ cs hu=>?_
 apply wpS_seq
 apply wpS_region
 simp[wpOpsS,go_sem,recoverD,hu,Tryz.ntmps39,Exit.thenS]
 refine wpS_of_wp ?_
 have hdd:dD p=.iface 32 (.agg #[.int .i64 p.1,.int .i64 p.2,.string ⟨#[]⟩]):=rfl
 simp only[hdd]
 have has:=qp3
 go_wp2
 cases c₀
 simp only[bodyPostS]
 refine ⟨trivial,_,rfl,.tuple #[],by simp[results,Tryz.results39,go_sem],rfl,rfl,fun B h1 h2=>?_,by simp[World.setCell],?_⟩
 ·exact (((((((((Below.refl B w).setCell (p:=⟨b,0,none⟩) h1 _).setCell (p:=⟨b,1,none⟩) h1 _).setCell (p:=⟨b,2,none⟩) h1 _).setCell (p:=⟨b,3,none⟩) h1 _).setCell (p:=⟨b,4,none⟩) h1 _).setCell (p:=⟨d,0,none⟩) h2 _).setCell (p:=⟨d,1,none⟩) h2 _).setCell (p:=⟨d,2,none⟩) h2 _)
 ·constructor <;> simp[go_sem,c0,c1,c2,c3,c4,e0,e1,e2,hn,hm]
theorem qpw (b d:Nat) (w:World) :
  CallsD Tryz.prog 39 #[.pointer (some ⟨b,0,none⟩),.pointer (some ⟨d,0,none⟩)] .returning w fun e u' w'=>e=.returned (.tuple #[])∧u'=.returning∧w'=w:=by
 refine callsD_of_wpS Tryz.func39 rfl fun c₀ cs hu=>?_
 apply wpS_seq
 apply wpS_region
 simp[wpOpsS,go_sem,recoverD,hu,Tryz.ntmps39,Exit.thenS]
 refine wpS_of_wp ?_
 go_wp2
 cases c₀
 simp_all [bodyPostS,results,Tryz.results39]
end Abs
end Go.Proofs.YtpidpioifnnllaaGreatDoor
namespace Go.Proofs.YtpidpioifnnllaaGreatDoor
set_option linter.unusedSimpArgs false
set_option linter.unusedVariables false
namespace Abs
open Go.RowKit Go.Lib
variable {E : World → Prop} {E0 : Nat} {G : Nat → Option (List PV)}
structure DiagG where
 kind:Int
 at_:Int
 name:ByteArray
def qc (l:List UInt8):List UInt8:=Lib.trimLeftS l [32,9,10,13]
noncomputable def qbh (s:ByteArray):Option (Val×DiagG):=if s.size≤1099511627776 then (tQ5c s 0 0).bind fun
 | .inl p=>some (.mk 0 0 eS [] [],⟨p.1,p.2,eS⟩)
 | .inr y=>if 0≤y.2∧y.2≤s.size then
   if qc ((bL s).drop y.2.toNat)=[] then some (y.1,⟨0,0,eS⟩) else some (.mk 0 0 eS [] [],⟨2,(s.size:Int) - ((qc ((bL s).drop y.2.toNat)).length:Int),eS⟩)
  else none
 else none
theorem qod {X:Cx} {w:World}:q9 X w (.agg (aV (.mk 0 0 eS [] []))) (.agg #[.int .i64 0,.int .i64 0,.string ⟨#[]⟩,.slice none 0 0,.slice none 0 0]):=by
 refine ⟨_,rfl,?_,?_,?_,?_,?_,trivial⟩
 ·exact (q2k:q9 X w (.cell (vi 0)) _)
 ·exact (q2k:q9 X w (.cell (vi 0)) _)
 ·exact (q53:q9 X w (.cell (vS eS)) _)
 ·show PRep X.prot w (.sl false 0 []) (.slice none 0 0)
  unfold PRep
  exact .inl ⟨rfl,rfl,rfl⟩
 ·show PRep X.prot w (.sl false 0 []) (.slice none 0 0)
  unfold PRep
  exact .inl ⟨rfl,rfl,rfl⟩
theorem qdm {X:Cx} {w:World} (k a:Int):q9 X w (.agg [vi k,vi a,vS eS]) (.agg #[.int .i64 k,.int .i64 a,.string ⟨#[]⟩]) :=
 ⟨_,rfl,(q2k:q9 X w (.cell (vi k)) _),(q2k:q9 X w (.cell (vi a)) _),(q53:q9 X w (.cell (vS eS)) _),trivial⟩
theorem q5t {w:World} {b:Nat} {cs:Array Value} {t:TypeId} (h:w.heap[b]?=some (.cells cs t (0,0))) (i:Nat) (u:Value):(w.setCell ⟨b,i,none⟩ u).heap[b]?=some (.cells (cs.setIfInBounds i u) t (0,0)):=by
 simp only[World.setCell]
 rw[Array.getElem?_modify,if_pos rfl,h]
 rfl
theorem qn9 {w:World} {b k:Nat} (hk:k≠b) (i:Nat) (u:Value):(w.setCell ⟨b,i,none⟩ u).heap[k]?=w.heap[k]?:=Below.heap_setCell _ _ _ _ hk
theorem set5 {w:World} {b:Nat} {a0 a1 a2 a3 a4:Value} {t:TypeId} (h:w.heap[b]?=some (.cells #[a0,a1,a2,a3,a4] t (0,0))) (u0 u1 u2 u3 u4:Value) :
  (((((w.setCell ⟨b,0,none⟩ u0).setCell ⟨b,1,none⟩ u1).setCell ⟨b,2,none⟩ u2).setCell ⟨b,3,none⟩ u3).setCell ⟨b,4,none⟩ u4).heap[b]?=some (.cells #[u0,u1,u2,u3,u4] t (0,0)) ∧
  (∀ k,k≠b→(((((w.setCell ⟨b,0,none⟩ u0).setCell ⟨b,1,none⟩ u1).setCell ⟨b,2,none⟩ u2).setCell ⟨b,3,none⟩ u3).setCell ⟨b,4,none⟩ u4).heap[k]?=w.heap[k]?) ∧
  (((((w.setCell ⟨b,0,none⟩ u0).setCell ⟨b,1,none⟩ u1).setCell ⟨b,2,none⟩ u2).setCell ⟨b,3,none⟩ u3).setCell ⟨b,4,none⟩ u4).heap.size=w.heap.size ∧
  (∀ B,B≤b→Below B w (((((w.setCell ⟨b,0,none⟩ u0).setCell ⟨b,1,none⟩ u1).setCell ⟨b,2,none⟩ u2).setCell ⟨b,3,none⟩ u3).setCell ⟨b,4,none⟩ u4)) :=
 ⟨q5t (q5t (q5t (q5t (q5t h 0 u0) 1 u1) 2 u2) 3 u3) 4 u4,fun k hk=>by simp only[qn9 hk],by simp[World.setCell],
  fun B h1=>((((((Below.refl B w).setCell (p:=⟨b,0,none⟩) h1 _).setCell (p:=⟨b,1,none⟩) h1 _).setCell (p:=⟨b,2,none⟩) h1 _).setCell (p:=⟨b,3,none⟩) h1 _).setCell (p:=⟨b,4,none⟩) h1 _)⟩
theorem set3 {w:World} {b:Nat} {a0 a1 a2:Value} {t:TypeId} (h:w.heap[b]?=some (.cells #[a0,a1,a2] t (0,0))) (u0 u1 u2:Value) :
  (((w.setCell ⟨b,0,none⟩ u0).setCell ⟨b,1,none⟩ u1).setCell ⟨b,2,none⟩ u2).heap[b]?=some (.cells #[u0,u1,u2] t (0,0)) ∧
  (∀ k,k≠b→(((w.setCell ⟨b,0,none⟩ u0).setCell ⟨b,1,none⟩ u1).setCell ⟨b,2,none⟩ u2).heap[k]?=w.heap[k]?) ∧
  (((w.setCell ⟨b,0,none⟩ u0).setCell ⟨b,1,none⟩ u1).setCell ⟨b,2,none⟩ u2).heap.size=w.heap.size ∧
  (∀ B,B≤b→Below B w (((w.setCell ⟨b,0,none⟩ u0).setCell ⟨b,1,none⟩ u1).setCell ⟨b,2,none⟩ u2)) :=
 ⟨q5t (q5t (q5t h 0 u0) 1 u1) 2 u2,fun k hk=>by simp only[qn9 hk],by simp[World.setCell],
  fun B h1=>((((Below.refl B w).setCell (p:=⟨b,0,none⟩) h1 _).setCell (p:=⟨b,1,none⟩) h1 _).setCell (p:=⟨b,2,none⟩) h1 _)⟩
theorem qr0 (u:Value) (k at_:Int) (w:World):Calls Tryz.prog 42 #[u,.int .i64 k,.int .i64 at_] w fun e w'=>e=.panicked [{ v:=dD (k,at_),recovered:=false }]∧w'=w:=by
 go_enter Tryz.func42,Tryz.ntmps42
 go_wp2
 exact ⟨rfl,rfl,rfl⟩
theorem qq8 (j:Nat) (b:UInt8) (h:(⟨#[32,9,10,13]⟩:ByteArray).data.toList[j]?=some b):b.toNat < 128:=by
 have:=List.mem_of_getElem? h
 simp only[List.mem_cons,List.not_mem_nil,or_false]at this
 rcases this with rfl | rfl | rfl | rfl <;> decide
set_option maxHeartbeats 4000000 in
set_option maxRecDepth 100000 in
theorem read_g (hb:Base E E0 G) (he:∀ w,E w→EnvV w) (s:ByteArray) (r:Val×DiagG) (h:qbh s=some r):Pure E E0 Tryz.prog 25 [.cell (vS s)] (.tup [.agg (aV r.1),.agg [vi r.2.kind,vi r.2.at_,vS r.2.name]]):=by
 unfold qbh at h
 split at h
 case isFalse=>cases h
 rename_i hs
 obtain ⟨q,hq,h⟩:=Option.bind_eq_some_iff.1 h
 intro old w vs hE h0 hold hv
 match vs,hv with
 | [u],⟨k1,_⟩ =>
 rw[q4g k1]
 clear k1 u
 have hmf:∀ (fn:Fn) (first cap:Array Value) (w:World),(Instr.makeFunc fn first cap).run Tryz.prog w=.ok (.func fn first cap) w:=fun _ _ _ _=>rfl
 have hb1:Below w.heap.size w (((w.alloc (.cells #[.int .i64 0,.int .i64 0,.string ⟨#[]⟩,.slice none 0 0,.slice none 0 0] 26)).alloc (.cells #[.int .i64 0,.int .i64 0,.string ⟨#[]⟩] 32)).alloc (.cells #[.string s,.int .i64 0] 71)) :=
  (((Below.refl _ w).alloc (Nat.le_refl _) _).alloc (by simp only[World.alloc,Array.size_push]; omega) _).alloc (by simp only[World.alloc,Array.size_push]; omega) _
 have hsz1:(((w.alloc (.cells #[.int .i64 0,.int .i64 0,.string ⟨#[]⟩,.slice none 0 0,.slice none 0 0] 26)).alloc (.cells #[.int .i64 0,.int .i64 0,.string ⟨#[]⟩] 32)).alloc (.cells #[.string s,.int .i64 0] 71)).heap.size=w.heap.size+1+1+1:=by simp only[World.alloc,Array.size_push]
 have hV1:(((w.alloc (.cells #[.int .i64 0,.int .i64 0,.string ⟨#[]⟩,.slice none 0 0,.slice none 0 0] 26)).alloc (.cells #[.int .i64 0,.int .i64 0,.string ⟨#[]⟩] 32)).alloc (.cells #[.string s,.int .i64 0] 71)).heap[w.heap.size]?=some (.cells #[.int .i64 0,.int .i64 0,.string ⟨#[]⟩,.slice none 0 0,.slice none 0 0] 26 (0,0)):=by
  rw[Below.heap_alloc _ _ _ (by simp only[World.alloc,Array.size_push]; omega),Below.heap_alloc _ _ _ (by simp only[World.alloc,Array.size_push]; omega)]
  exact q46 w _
 have hD1:(((w.alloc (.cells #[.int .i64 0,.int .i64 0,.string ⟨#[]⟩,.slice none 0 0,.slice none 0 0] 26)).alloc (.cells #[.int .i64 0,.int .i64 0,.string ⟨#[]⟩] 32)).alloc (.cells #[.string s,.int .i64 0] 71)).heap[w.heap.size+1]?=some (.cells #[.int .i64 0,.int .i64 0,.string ⟨#[]⟩] 32 (0,0)):=by
  rw[Below.heap_alloc _ _ _ (by simp only[World.alloc,Array.size_push]; omega)]
  have:=q46 (w.alloc (.cells #[.int .i64 0,.int .i64 0,.string ⟨#[]⟩,.slice none 0 0,.slice none 0 0] 26)) (.cells #[.int .i64 0,.int .i64 0,.string ⟨#[]⟩] 32)
  simpa only[World.alloc,Array.size_push] using this
 have hR1:(((w.alloc (.cells #[.int .i64 0,.int .i64 0,.string ⟨#[]⟩,.slice none 0 0,.slice none 0 0] 26)).alloc (.cells #[.int .i64 0,.int .i64 0,.string ⟨#[]⟩] 32)).alloc (.cells #[.string s,.int .i64 0] 71)).heap[w.heap.size+1+1]?=some (.cells #[.string s,.int .i64 0] 71 (0,0)):=by
  have:=q46 ((w.alloc (.cells #[.int .i64 0,.int .i64 0,.string ⟨#[]⟩,.slice none 0 0,.slice none 0 0] 26)).alloc (.cells #[.int .i64 0,.int .i64 0,.string ⟨#[]⟩] 32)) (.cells #[.string s,.int .i64 0] 71)
  simpa only[World.alloc,Array.size_push] using this
 have HE1:=Lib.hid (hb.step _ _ hE (hb1.mono h0))
 have HB1:=Lib.hid hb1
 have HZ1:=Lib.hid hsz1
 have HV1:=Lib.hid hV1
 have HD1:=Lib.hid hD1
 have HR1:=Lib.hid hR1
 have HH:=Lib.hid h
 have HQ:=Lib.hid hq
 have HO:=Lib.hid hold
 clear hb1 hsz1 hV1 hD1 hR1 hE h hq hold
 go_enter_defers Tryz.func25,Tryz.ntmps25
 go_wp2_with fail
 refine (qvl hb he s _ HQ.out (fun b o=>b < w.heap.size∧old b o) _ (w.heap.size+1+1) HZ1.out.symm (Nat.le_trans h0 (by omega)) HE1.out (fun b o h=>⟨Nat.lt_of_lt_of_le h h0,HO.out b o h⟩) HR1.out).mono ?_
 cases q with
 | inl p =>
  rintro e w2 ⟨rfl,b2,e2⟩
  have h:=HH.out
  simp only[Option.some.injEq]at h
  subst h
  have V2:=Lib.hid ((b2.block w.heap.size (by omega)).trans HV1.out)
  have D2:=Lib.hid ((b2.block (w.heap.size+1) (by omega)).trans HD1.out)
  have B2:=Lib.hid (HB1.out.trans (b2.mono (by omega)))
  clear HB1 HZ1 HV1 HD1 HR1 HH HE1
  go_wp2_with fail
  refine leaves_cons (f:=39) (args:=#[.pointer (some ⟨w.heap.size,0,none⟩),.pointer (some ⟨w.heap.size+1,0,none⟩)]) (by simp) (by simp[go_sem]) ?_
  refine (qi0 w.heap.size (w.heap.size+1) p [] w2 _ _ _ _ _ _ _ _ V2.out D2.out (by omega)).mono ?_
  rintro e u' w3 ⟨rfl,rfl,b3,hsz3,bx⟩
  have B3:=Lib.hid (B2.out.trans (b3 w.heap.size (Nat.le_refl _) (by omega)))
  have E3:=Lib.hid (hb.step _ _ e2 (b3 E0 h0 (by omega)))
  have z0:w3.cell? ⟨w.heap.size,0,none⟩=some (.int .i64 0):=bx.v0
  have z1:w3.cell? ⟨w.heap.size,1,none⟩=some (.int .i64 0):=bx.v1
  have z2:w3.cell? ⟨w.heap.size,2,none⟩=some (.string ⟨#[]⟩):=bx.v2
  have z3:w3.cell? ⟨w.heap.size,3,none⟩=some (.slice none 0 0):=bx.v3
  have z4:w3.cell? ⟨w.heap.size,4,none⟩=some (.slice none 0 0):=bx.v4
  have y0:w3.cell? ⟨w.heap.size+1,0,none⟩=some (.int .i64 p.1):=bx.q0
  have y1:w3.cell? ⟨w.heap.size+1,1,none⟩=some (.int .i64 p.2):=bx.q1
  have y2:w3.cell? ⟨w.heap.size+1,2,none⟩=some (.string ⟨#[]⟩):=bx.q2
  clear bx b3
  simp[Leaves,settle,results,Tryz.results25,go_sem,z0,z1,z2,z3,z4,y0,y1,y2]
  exact ⟨B3.out,E3.out,_,rfl,qod,qdm _ _,trivial⟩
 | inr y =>
  rintro e w2 ⟨u,rfl,b2,e2,hsz2,hat,hrep⟩
  have V2:=Lib.hid ((b2.block w.heap.size (by omega)).trans HV1.out)
  have D2:=Lib.hid ((b2.block (w.heap.size+1) (by omega)).trans HD1.out)
  have B2:=Lib.hid (HB1.out.trans (b2.mono (by omega)))
  obtain ⟨v,at_⟩:=y
  simp only at hat
  have h:=HH.out
  simp only at h
  split at h
  case isFalse=>cases h
  rename_i hin
  obtain ⟨hin1,hin2⟩:=hin
  have HREP:=Lib.hid hrep
  have hv2:VRep w2 u v:=hrep _ _ fun b o k=>⟨.inl ⟨by show b < w2.heap.size; rcases k with ⟨_,k,_⟩ | ⟨_,k⟩ <;> omega,trivial⟩,rfl⟩
  obtain ⟨k,n,s',items,keys⟩:=v
  obtain ⟨vi,vk,rfl,hk,hi⟩:=(q4v _ _ _ _ _ _ _).1 hv2.isVal
  obtain ⟨ka,kc,rfl,hkc⟩:=hk.slice
  obtain ⟨ia,ic,rfl,hic⟩:=hi.slice
  have H:=Lib.hid h
  have E2:=Lib.hid e2
  have c0:=qe V2.out 0
  have c1:=qe V2.out 1
  have c2:=qe V2.out 2
  have c3:=qe V2.out 3
  have c4:=qe V2.out 4
  have z0:=q22 V2.out 0
  have z1:=q22 V2.out 1
  have z2:=q22 V2.out 2
  have z3:=q22 V2.out 3
  have z4:=q22 V2.out 4
  obtain ⟨m,rfl⟩:=Int.eq_ofNat_of_zero_le hin1
  have hm:m≤s.size:=by omega
  clear hk hi hv2 hrep e2 b2 h HB1 HZ1 HV1 HD1 HR1 HE1 HH HQ hin1 hin2
  go_wp2_with fail
  clear c0 c1 c2 c3 c4 z0 z1 z2 z3 z4 hat
  obtain ⟨V3,K3,S3,B3⟩:=set5 V2.out (.int .i64 k) (.int .i64 n) (.string s') (.slice ia items.length ic) (.slice ka keys.length kc)
  generalize (((((w2.setCell ⟨w.heap.size,0,none⟩ (.int .i64 k)).setCell ⟨w.heap.size,1,none⟩ (.int .i64 n)).setCell ⟨w.heap.size,2,none⟩ (.string s')).setCell ⟨w.heap.size,3,none⟩ (.slice ia items.length ic)).setCell ⟨w.heap.size,4,none⟩ (.slice ka keys.length kc))=w3 at *
  refine (Tryz.strings_TrimLeft _ _ w3 (by decide) qq8).mono ?_
  rintro e w4 ⟨rfl,b4⟩
  have hqe:(⟨(Lib.trimLeftS (s.extract m s.size).data.toList (⟨#[32,9,10,13]⟩:ByteArray).data.toList).toArray⟩:ByteArray)=bS (qc ((bL s).drop m)):=by
   have e:(s.extract m s.size).data.toList=(bL s).drop m:=by
    have:=qg6 hm
    unfold sslc at this
    rw[if_pos ⟨by omega,by omega,by omega⟩,Option.some.injEq,Int.toNat_natCast,Int.toNat_natCast]at this
    rw[this]; rfl
   rw[e]; rfl
  rw[hqe]
  clear hqe
  have hm':=H.out
  rw[Int.toNat_natCast]at hm'
  have hlen:(qc ((bL s).drop m)).length≤s.size:=by
   unfold qc Lib.trimLeftS
   refine Nat.le_trans (List.dropWhile_sublist _).length_le ?_
   rw[List.length_drop]
   exact Nat.le_trans (Nat.sub_le _ _) (by rw[← q2c]; exact Nat.le_refl _)
  generalize qc ((bL s).drop m)=rest at *
  have V4:=Lib.hid ((b4.block w.heap.size (by rw[S3]; omega)).trans V3)
  have D4:=Lib.hid ((b4.block (w.heap.size+1) (by rw[S3]; omega)).trans ((K3 _ (by omega)).trans D2.out))
  have B4:=Lib.hid (B2.out.trans ((B3 _ (Nat.le_refl _)).trans (b4.mono (by rw[S3]; omega))))
  have E4:=Lib.hid (hb.step _ _ (hb.step _ _ E2.out (B3 _ h0)) (b4.mono (by rw[S3]; omega)))
  have HREP4:=Lib.hid (show ∀ (Z:Cx) (w5:World),(∀ b o,(b < w.heap.size+1+1∧b < w.heap.size∧old b o)∨(w.heap.size+1+1 < b∧b < w2.heap.size)→Z.prot b o∧w5.cell? ⟨b,o,none⟩=w4.cell? ⟨b,o,none⟩)→q9 Z w5 (.agg (aV (.mk k n s' items keys))) (.agg #[.int .i64 k,.int .i64 n,.string s',.slice ia items.length ic,.slice ka keys.length kc]) from fun Z w5 hz=>HREP.out Z w5 fun b o hbo=>by
   obtain ⟨g1,g2⟩:=hz b o hbo
   refine ⟨g1,g2.trans ?_⟩
   have hne:b≠w.heap.size:=by rcases hbo with ⟨_,q,_⟩ | ⟨q,_⟩ <;> omega
   have hlt:b < w3.heap.size:=by rw[S3]; rcases hbo with ⟨_,q,_⟩ | ⟨_,q⟩ <;> omega
   simp only[World.cell?]
   rw[b4.block b hlt,K3 b hne])
  have hsz4:w2.heap.size≤w4.heap.size:=by rw[← S3]; exact b4.size
  have H:=Lib.hid hm'
  clear hm' V3 K3 S3 B3 b4 HREP V2 D2 B2 E2
  by_cases hr:rest=[]
  ·subst hr
   have c0:=qe V4.out 0
   have c1:=qe V4.out 1
   have c2:=qe V4.out 2
   have c3:=qe V4.out 3
   have c4:=qe V4.out 4
   have z0:=q22 V4.out 0
   have z1:=q22 V4.out 1
   have z2:=q22 V4.out 2
   have z3:=q22 V4.out 3
   have z4:=q22 V4.out 4
   have y0:=q22 D4.out 0
   have y1:=q22 D4.out 1
   have y2:=q22 D4.out 2
   have x0:=qe D4.out 0
   have x1:=qe D4.out 1
   have x2:=qe D4.out 2
   have ht:(bS ([]:List UInt8)).toList.isEmpty=true:=by rw[ByteArray.toList_eq]; rfl
   go_wp2_with fail
   obtain ⟨V5,K5,S5,B5⟩:=set5 V4.out (.int .i64 k) (.int .i64 n) (.string s') (.slice ia items.length ic) (.slice ka keys.length kc)
   clear c0 c1 c2 c3 c4 z0 z1 z2 z3 z4 y0 y1 y2 x0 x1 x2
   generalize (((((w4.setCell ⟨w.heap.size,0,none⟩ (.int .i64 k)).setCell ⟨w.heap.size,1,none⟩ (.int .i64 n)).setCell ⟨w.heap.size,2,none⟩ (.string s')).setCell ⟨w.heap.size,3,none⟩ (.slice ia items.length ic)).setCell ⟨w.heap.size,4,none⟩ (.slice ka keys.length kc))=w5 at *
   obtain ⟨D6,K6,S6,B6⟩:=set3 ((K5 (w.heap.size+1) (by omega)).trans D4.out) (.int .i64 0) (.int .i64 0) (.string ⟨#[]⟩)
   generalize (((w5.setCell ⟨w.heap.size+1,0,none⟩ (.int .i64 0)).setCell ⟨w.heap.size+1,1,none⟩ (.int .i64 0)).setCell ⟨w.heap.size+1,2,none⟩ (.string ⟨#[]⟩))=w6 at *
   have V6:=(K6 w.heap.size (by omega)).trans V5
   refine leaves_cons (f:=39) (args:=#[.pointer (some ⟨w.heap.size,0,none⟩),.pointer (some ⟨w.heap.size+1,0,none⟩)]) (by simp) (by simp[go_sem]) ?_
   refine (qpw w.heap.size (w.heap.size+1) w6).mono ?_
   rintro e u' w7 ⟨rfl,rfl,rfl⟩
   have c0:=qe V6 0
   have c1:=qe V6 1
   have c2:=qe V6 2
   have c3:=qe V6 3
   have c4:=qe V6 4
   have x0:=qe D6 0
   have x1:=qe D6 1
   have x2:=qe D6 2
   simp at c0 c1 c2 c3 c4 x0 x1 x2
   simp[Leaves,settle,results,Tryz.results25,go_sem,c0,c1,c2,c3,c4,x0,x1,x2]
   have h:=H.out
   simp only[if_true,Option.some.injEq]at h
   subst h
   refine ⟨B4.out.trans ((B5 _ (Nat.le_refl _)).trans (B6 _ (by omega))),hb.step _ _ E4.out ((B5 _ h0).trans (B6 _ (by omega))),_,rfl,HREP4.out _ w7 fun b o hbo=>?_,qdm 0 0,trivial⟩
   have hne:b≠w.heap.size∧b≠w.heap.size+1:=by rcases hbo with ⟨_,q,_⟩ | ⟨q,_⟩ <;> omega
   refine ⟨?_,by simp only[World.cell?]; rw[K6 b hne.2,K5 b hne.1]⟩
   rcases hbo with ⟨_,q,q2⟩ | ⟨q,q2⟩
   ·exact .inl ⟨q,q2⟩
   ·exact .inr ⟨show w.heap.size≤b by omega,show b < w7.heap.size by omega,fun id ob l e=>by simp[Cx.bare]at e⟩
  ·have hr2:(bS rest).toList.isEmpty=false:=by
    rw[ByteArray.toList_eq]
    cases rest with
    | nil=>exact absurd rfl hr
    | cons a l=>rfl
   go_wp2_with fail
   refine (qr0 _ _ _ _).mono ?_
   rintro e w5 ⟨rfl,rfl⟩
   go_wp2_with fail
   refine leaves_cons (f:=39) (args:=#[.pointer (some ⟨w.heap.size,0,none⟩),.pointer (some ⟨w.heap.size+1,0,none⟩)]) (by simp) (by simp[go_sem]) ?_
   refine (qi0 w.heap.size (w.heap.size+1) _ [] w5 _ _ _ _ _ _ _ _ V4.out D4.out (by omega)).mono ?_
   rintro e u' w6 ⟨rfl,rfl,b3,hsz3,bx⟩
   have B6:=Lib.hid (B4.out.trans (b3 w.heap.size (Nat.le_refl _) (by omega)))
   have E6:=Lib.hid (hb.step _ _ E4.out (b3 E0 h0 (by omega)))
   have z0:w6.cell? ⟨w.heap.size,0,none⟩=some (.int .i64 0):=bx.v0
   have z1:w6.cell? ⟨w.heap.size,1,none⟩=some (.int .i64 0):=bx.v1
   have z2:w6.cell? ⟨w.heap.size,2,none⟩=some (.string ⟨#[]⟩):=bx.v2
   have z3:w6.cell? ⟨w.heap.size,3,none⟩=some (.slice none 0 0):=bx.v3
   have z4:w6.cell? ⟨w.heap.size,4,none⟩=some (.slice none 0 0):=bx.v4
   have y0:w6.cell? ⟨w.heap.size+1,0,none⟩=some _:=bx.q0
   have y1:w6.cell? ⟨w.heap.size+1,1,none⟩=some _:=bx.q1
   have y2:w6.cell? ⟨w.heap.size+1,2,none⟩=some (.string ⟨#[]⟩):=bx.q2
   have h:=H.out
   rw[if_neg hr,Option.some.injEq]at h
   subst h
   have hw:wrap64 ((s.size:Int) - ((bS rest).size:Int))=(s.size:Int) - (rest.length:Int):=by
    rw[q26]
    exact IntWalk.wrap64_in _ (by omega)
   clear bx b3 HREP4
   simp only[hw]at y0 y1
   simp[Leaves,settle,results,Tryz.results25,go_sem,z0,z1,z2,z3,z4,y0,y1,y2]
   exact ⟨B6.out,E6.out,_,rfl,qod,qdm _ _,trivial⟩
end Abs
end Go.Proofs.YtpidpioifnnllaaGreatDoor
